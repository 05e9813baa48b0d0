import Derived.Test.YthpbadopmihmpaaGreatG0
namespace Go.Proofs.T1
open Go Go.Sx Go.Proofs
set_option maxRecDepth 100000
set_option linter.unusedVariables false
noncomputable def slices_IndexFunc.code:Code:=Func.cd Tryz.f57
def slices_IndexFunc.c1 (k:Nat) (a0:(List V26)) (a1:((V26 × Unit)→Option Bool)):Nat→Int→Option (Int ⊕ Unit)
 | 0,_=>none
 | n+1,v1 =>
  bif' (ilt v1 (len a0))
  (req (inL v1 a0) <|bnd (a1 ((el Z26 a0 v1),())) fun y4 =>
  bif' y4
  (some (.inl v1))
  (slices_IndexFunc.c1 k a0 a1 n (iadd .i64 v1 1)))
  (some (.inr ()))
def slices_IndexFunc (k:Nat) (a0:(List V26)) (a1:((V26 × Unit)→Option Bool)):Option Int :=
 bnd (slices_IndexFunc.c1 k a0 a1 k 0) fun o7 =>
 two o7 (fun y9 =>
 some y9) (fun y11 =>
 some (-1))
noncomputable def slices_IndexFunc.sp (k:Nat):Go.Sx.Spec:=⟨(.pair T36 (.pair (.fn (.pair T26 .unit) T4) .unit)),(.one (.dp T2)),fun x=>slices_IndexFunc k x.1 x.2.1,false⟩
noncomputable def slices_IndexFunc.cx (k:Nat):Go.Sx.Ctx:=⟨tys,[],eqs,19,0,[],false⟩
theorem slices_IndexFunc.cok (k:Nat):CtxOk PR (slices_IndexFunc.cx k):=ctx_ok tysOk eqsOk FnsOk.nil HsOk.nil
noncomputable def slices_IndexFunc.c1p (a0:(List V26)) (a1:((V26 × Unit)→Option Bool)) (v1:Int):SL:=⟨[(0,(.val T36 a0)),(1,(.val (.fn (.pair T26 .unit) T4) a1)),(7,(.val T2 (len a0))),(8,(.val T2 v1))],[]⟩
noncomputable def slices_IndexFunc.c1q (o:Int ⊕ Unit):SL:=(fun o=>two o (fun v=>⟨[(4,(.val T2 v))],[]⟩) (fun v=>⟨[],[]⟩)) o
noncomputable def slices_IndexFunc.c1x (o:Int ⊕ Unit):Ex:=(fun o=>two o (fun _=>.ret) (fun _=>(.exit 0))) o
noncomputable def slices_IndexFunc.c1n (o:Int ⊕ Unit):Nat:=(fun o=>two o (fun _=>0) (fun _=>0)) o
theorem slices_IndexFunc.c1_ok (k:Nat) (a0:(List V26)) (a1:((V26 × Unit)→Option Bool)):∀ (n:Nat) (v1:Int),Owp (slices_IndexFunc.c1 k a0 a1 n v1) fun o=>LTriple PR (slices_IndexFunc.cx k) (sub slices_IndexFunc.code [1,0,1,0,0]) 0 (slices_IndexFunc.c1p a0 a1 v1) (slices_IndexFunc.c1x o) (slices_IndexFunc.c1n o) (slices_IndexFunc.c1q o)
 | 0,_=>fun _ h=>nomatch h
 | n+1,v1=>Owp.of (slices_IndexFunc.c1.eq_2 ..) (
  oF (fun e2 =>
  oR fun h3 =>
  oB fun y4 e5 =>
  oF (fun e6 =>
  oS (loop_exit (slices_IndexFunc.cok k) hmix [tT,rS T4 y4,tT] [] [] exne_ret (via (finP (aI (aI (aI (aI tv0 e2) h3) e5) e6) .ret [] (slices_IndexFunc.c1q (.inl v1))) (by kernel_rfl)))) (fun e6 =>
  fun y hy=>loop_back (slices_IndexFunc.cok k) hmix 0 (slices_IndexFunc.c1p a0 a1 (iadd .i64 v1 (1:Int))) [tT,rS T4 y4,fF] [] [] (via (finP (aI (aI (aI (aI tv0 e2) h3) e5) e6) .normal [] (slices_IndexFunc.c1p a0 a1 (iadd .i64 v1 (1:Int)))) (by kernel_rfl)) ((slices_IndexFunc.c1_ok k a0 a1 n (iadd .i64 v1 (1:Int))).ap hy))) (fun e2 =>
  oS (loop_exit (slices_IndexFunc.cok k) hmix [fF] [] [] (exne 0) (via (finP (aI tv0 e2) (.exit 0) [] (slices_IndexFunc.c1q (.inr ()))) (by kernel_rfl)))))
theorem slices_IndexFunc.way (k:Nat) (a0:(List V26)) (a1:((V26 × Unit)→Option Bool)):Owp (slices_IndexFunc k a0 a1) fun y=>∃ w c0,exec PR (slices_IndexFunc.cx k) slices_IndexFunc.code 0 (entry (.pair T36 (.pair (.fn (.pair T26 .unit) T4) .unit)) (a0,a1,())).st w (Ret (slices_IndexFunc.cx k) Tryz.f57 c0 (.one (.dp T2)) y):=by
 unfold slices_IndexFunc; exact
  oB fun o7 e8 =>
  Owp.two (fun y9 e10 =>
  oS (⟨[.cut ⟨[],[],(slices_IndexFunc.c1p a0 a1 (0:Int)),0,.ret,(slices_IndexFunc.c1q (.inl y9)),0⟩],[],via (cutP tv0 [] (slices_IndexFunc.c1p a0 a1 (0:Int)) (((slices_IndexFunc.c1_ok k a0 a1 k (0:Int)).ap (e8.trans (congrArg some e10))).triple) (retP tv0 (.one (.dp T2)) (y9:Int))) (by kernel_rfl)⟩)) (fun y11 e12 =>
  oS (⟨[.cut ⟨[],[],(slices_IndexFunc.c1p a0 a1 (0:Int)),0,(.exit 0),(slices_IndexFunc.c1q (.inr ())),0⟩],[],via (cutP tv0 [] (slices_IndexFunc.c1p a0 a1 (0:Int)) (((slices_IndexFunc.c1_ok k a0 a1 k (0:Int)).ap (e8.trans (congrArg some e12))).triple) (retP tv0 (.one (.dp T2)) ((-1:Int):Int))) (by kernel_rfl)⟩))
theorem slices_IndexFunc.ok (k:Nat):FnOk PR 57 (slices_IndexFunc.sp k) :=
 fn_ok (slices_IndexFunc.cok k) hmix Tryz.func57 (code:=slices_IndexFunc.code) (by kernel_rfl) (by kernel_rfl) (by kernel_rfl) rfl rfl (by kernel_rfl) (by kernel_rfl) (by kernel_rfl) (fun x=>Nat.le_of_ble_eq_true (by kernel_rfl)) fun x y hy=>(slices_IndexFunc.way k x.1 x.2.1).ap hy
noncomputable def slices_ContainsFunc.code:Code:=Func.cd Tryz.f29
def slices_ContainsFunc (k:Nat) (a0:(List V26)) (a1:((V26 × Unit)→Option Bool)):Option Bool :=
 bnd (slices_IndexFunc k a0 a1) fun y1 =>
 some (ige y1 0)
noncomputable def slices_ContainsFunc.sp (k:Nat):Go.Sx.Spec:=⟨(.pair T36 (.pair (.fn (.pair T26 .unit) T4) .unit)),(.one (.dp T4)),fun x=>slices_ContainsFunc k x.1 x.2.1,false⟩
noncomputable def slices_ContainsFunc.cx (k:Nat):Go.Sx.Ctx:=⟨tys,[(57,slices_IndexFunc.sp k)],eqs,9,0,[],false⟩
theorem slices_ContainsFunc.cok (k:Nat):CtxOk PR (slices_ContainsFunc.cx k):=ctx_ok tysOk eqsOk (fC (slices_IndexFunc.ok k) FnsOk.nil) HsOk.nil
theorem slices_ContainsFunc.way (k:Nat) (a0:(List V26)) (a1:((V26 × Unit)→Option Bool)):Owp (slices_ContainsFunc k a0 a1) fun y=>∃ w c0,exec PR (slices_ContainsFunc.cx k) slices_ContainsFunc.code 0 (entry (.pair T36 (.pair (.fn (.pair T26 .unit) T4) .unit)) (a0,a1,())).st w (Ret (slices_ContainsFunc.cx k) Tryz.f29 c0 (.one (.dp T4)) y):=by
 unfold slices_ContainsFunc; exact
  oB fun y1 e2 =>
  oS (⟨[rS T2 y1],[],via (retP (aI tv0 e2) (.one (.dp T4)) ((ige y1 (0:Int)):Bool)) (by kernel_rfl)⟩)
theorem slices_ContainsFunc.ok (k:Nat):FnOk PR 29 (slices_ContainsFunc.sp k) :=
 fn_ok (slices_ContainsFunc.cok k) hmix Tryz.func29 (code:=slices_ContainsFunc.code) (by kernel_rfl) (by kernel_rfl) (by kernel_rfl) rfl rfl (by kernel_rfl) (by kernel_rfl) (by kernel_rfl) (fun x=>Nat.le_of_ble_eq_true (by kernel_rfl)) fun x y hy=>(slices_ContainsFunc.way k x.1 x.2.1).ap hy
noncomputable def poly_within.code:Code:=Func.cd Tryz.f31
def poly_within (k:Nat) (a0:V26):Option Bool :=
 bif' (ige a0.1 (-65536000))
 (bif' (ile a0.1 65536000)
  (bif' (ige a0.2.1 (-65536000))
  (some (ile a0.2.1 65536000))
  (some false))
  (some false))
 (some false)
noncomputable def poly_within.sp (k:Nat):Go.Sx.Spec:=⟨(.pair T26 .unit),(.one (.dp T4)),fun x=>poly_within k x.1,false⟩
noncomputable def poly_within.cx (k:Nat):Go.Sx.Ctx:=⟨tys,[],eqs,21,0,[],false⟩
theorem poly_within.cok (k:Nat):CtxOk PR (poly_within.cx k):=ctx_ok tysOk eqsOk FnsOk.nil HsOk.nil
theorem poly_within.way (k:Nat) (a0:V26):Owp (poly_within k a0) fun y=>∃ w c0,exec PR (poly_within.cx k) poly_within.code 0 (entry (.pair T26 .unit) (a0,())).st w (Ret (poly_within.cx k) Tryz.f31 c0 (.one (.dp T4)) y):=by
 unfold poly_within; exact
  oF (fun e1 =>
  oF (fun e2 =>
  oF (fun e3 =>
  oS (⟨[tT,tT,tT,tT,tT,tT,tT,tT,tT,tT,tT,tT],[],via (retP (aI (aI (aI (aI (aI (aI (aI (aI (aI (aI (aI (aI tv0 e1) e1) e1) e1) e2) e2) e2) e2) e3) e3) e3) e3) (.one (.dp T4)) ((ile a0.2.1 (65536000:Int)):Bool)) (by kernel_rfl)⟩)) (fun e3 =>
  oS (⟨[tT,tT,tT,tT,tT,tT,tT,tT,fF,fF,fF,fF],[],via (retP (aI (aI (aI (aI (aI (aI (aI (aI (aI (aI (aI (aI tv0 e1) e1) e1) e1) e2) e2) e2) e2) e3) e3) e3) e3) (.one (.dp T4)) (false:Bool)) (by kernel_rfl)⟩))) (fun e2 =>
  oS (⟨[tT,tT,tT,tT,fF,fF,fF,fF,fF,fF,fF,fF],[],via (retP (aI (aI (aI (aI (aI (aI (aI (aI (aI (aI (aI (aI tv0 e1) e1) e1) e1) e2) e2) e2) e2) ff) ff) ff) ff) (.one (.dp T4)) (false:Bool)) (by kernel_rfl)⟩))) (fun e1 =>
  oS (⟨[fF,fF,fF,fF,fF,fF,fF,fF,fF,fF,fF,fF],[],via (retP (aI (aI (aI (aI (aI (aI (aI (aI (aI (aI (aI (aI tv0 e1) e1) e1) e1) ff) ff) ff) ff) ff) ff) ff) ff) (.one (.dp T4)) (false:Bool)) (by kernel_rfl)⟩))
theorem poly_within.ok (k:Nat):FnOk PR 31 (poly_within.sp k) :=
 fn_ok (poly_within.cok k) hmix Tryz.func31 (code:=poly_within.code) (by kernel_rfl) (by kernel_rfl) (by kernel_rfl) rfl rfl (by kernel_rfl) (by kernel_rfl) (by kernel_rfl) (fun x=>Nat.le_of_ble_eq_true (by kernel_rfl)) fun x y hy=>(poly_within.way k x.1).ap hy
noncomputable def poly_Check_1.code:Code:=Func.cd Tryz.f30
def poly_Check_1 (k:Nat) (a0:V26):Option Bool :=
 bnd (poly_within k a0) fun y1 =>
 some (!y1)
noncomputable def poly_Check_1.sp (k:Nat):Go.Sx.Spec:=⟨(.pair T26 .unit),(.one (.dp T4)),fun x=>poly_Check_1 k x.1,false⟩
noncomputable def poly_Check_1.cx (k:Nat):Go.Sx.Ctx:=⟨tys,[(31,poly_within.sp k)],eqs,6,0,[],false⟩
theorem poly_Check_1.cok (k:Nat):CtxOk PR (poly_Check_1.cx k):=ctx_ok tysOk eqsOk (fC (poly_within.ok k) FnsOk.nil) HsOk.nil
theorem poly_Check_1.way (k:Nat) (a0:V26):Owp (poly_Check_1 k a0) fun y=>∃ w c0,exec PR (poly_Check_1.cx k) poly_Check_1.code 0 (entry (.pair T26 .unit) (a0,())).st w (Ret (poly_Check_1.cx k) Tryz.f30 c0 (.one (.dp T4)) y):=by
 unfold poly_Check_1; exact
  oB fun y1 e2 =>
  oS (⟨[rS T4 y1],[],via (retP (aI tv0 e2) (.one (.dp T4)) ((!y1):Bool)) (by kernel_rfl)⟩)
theorem poly_Check_1.ok (k:Nat):FnOk PR 30 (poly_Check_1.sp k) :=
 fn_ok (poly_Check_1.cok k) hmix Tryz.func30 (code:=poly_Check_1.code) (by kernel_rfl) (by kernel_rfl) (by kernel_rfl) rfl rfl (by kernel_rfl) (by kernel_rfl) (by kernel_rfl) (fun x=>Nat.le_of_ble_eq_true (by kernel_rfl)) fun x y hy=>(poly_Check_1.way k x.1).ap hy
noncomputable def poly_side.code:Code:=Func.cd Tryz.f32
def poly_side (k:Nat) (a0 a1 a2:V26):Option Int :=
 some (isub .i64 (imul .i64 (isub .i64 a1.1 a0.1) (isub .i64 a2.2.1 a0.2.1)) (imul .i64 (isub .i64 a1.2.1 a0.2.1) (isub .i64 a2.1 a0.1)))
noncomputable def poly_side.sp (k:Nat):Go.Sx.Spec:=⟨(.pair T26 T133),(.one (.dp T2)),fun x=>poly_side k x.1 x.2.1 x.2.2.1,false⟩
noncomputable def poly_side.cx (k:Nat):Go.Sx.Ctx:=⟨tys,[],eqs,30,0,[],false⟩
theorem poly_side.cok (k:Nat):CtxOk PR (poly_side.cx k):=ctx_ok tysOk eqsOk FnsOk.nil HsOk.nil
theorem poly_side.way (k:Nat) (a0 a1 a2:V26):Owp (poly_side k a0 a1 a2) fun y=>∃ w c0,exec PR (poly_side.cx k) poly_side.code 0 (entry (.pair T26 T133) (a0,a1,a2,())).st w (Ret (poly_side.cx k) Tryz.f32 c0 (.one (.dp T2)) y):=by
 unfold poly_side; exact
  oS (⟨[],[],via (retP tv0 (.one (.dp T2)) ((isub .i64 (imul .i64 (isub .i64 a1.1 a0.1) (isub .i64 a2.2.1 a0.2.1)) (imul .i64 (isub .i64 a1.2.1 a0.2.1) (isub .i64 a2.1 a0.1))):Int)) (by kernel_rfl)⟩)
theorem poly_side.ok (k:Nat):FnOk PR 32 (poly_side.sp k) :=
 fn_ok (poly_side.cok k) hmix Tryz.func32 (code:=poly_side.code) (by kernel_rfl) (by kernel_rfl) (by kernel_rfl) rfl rfl (by kernel_rfl) (by kernel_rfl) (by kernel_rfl) (fun x=>Nat.le_of_ble_eq_true (by kernel_rfl)) fun x y hy=>(poly_side.way k x.1 x.2.1 x.2.2.1).ap hy
noncomputable def poly_Check.code:Code:=Func.cd Tryz.f18
def poly_Check.c3 (k:Nat) (a0:(List V26)) (v6 v11:Int):Option (Bool) :=
 bif' (ine v11 v6)
 (req (nz (len a0)) <|bif' (ine v11 (irem (iadd .i64 v6 1) (len a0)))
  (bnd (poly_side k (el Z26 a0 v6) (el Z26 a0 (irem (iadd .i64 v6 1) (len a0))) (el Z26 a0 v11)) fun y17 =>
  some (ile y17 0))
  (some false))
 (some false)
def poly_Check.c2 (k:Nat) (a0:(List V26)) (v6:Int):Nat→Int→Option (Unit ⊕ Unit)
 | 0,_=>none
 | n+1,v11 =>
  bif' (ilt v11 (len a0))
  (req (inL v11 a0) <|bnd (poly_Check.c3 k a0 v6 v11) fun o19 =>
  bif' o19
  (some (.inl ()))
  (poly_Check.c2 k a0 v6 n (iadd .i64 v11 1)))
  (some (.inr ()))
def poly_Check.c1 (k:Nat) (a0:(List V26)):Nat→Int→Option (Unit ⊕ Unit)
 | 0,_=>none
 | n+1,v6 =>
  bif' (ilt v6 (len a0))
  (req (inL v6 a0) <|req (nz (len a0)) <|req (inL (irem (iadd .i64 v6 1) (len a0)) a0) <|bnd (poly_Check.c2 k a0 v6 k 0) fun o22 =>
  two o22 (fun y24 =>
  some (.inl ())) (fun y26 =>
  poly_Check.c1 k a0 n (iadd .i64 v6 1)))
  (some (.inr ()))
def poly_Check (k:Nat) (a0:(List V26)):Option Int :=
 bif' (igt (len a0) 8)
 (some 2)
 (bif' (ilt (len a0) 3)
  (some 3)
  (bnd (slices_ContainsFunc k a0 (fun x:(V26 × Unit)=>poly_Check_1 k (x.1))) fun y3 =>
  bif' y3
  (some 1)
  (bnd (poly_Check.c1 k a0 k 0) fun o28 =>
  two o28 (fun y30 =>
  some 3) (fun y32 =>
  some 0))))
noncomputable def poly_Check.sp (k:Nat):Go.Sx.Spec:=⟨(.pair T36 .unit),(.one (.dp T2)),fun x=>poly_Check k x.1,false⟩
noncomputable def poly_Check.cx (k:Nat):Go.Sx.Ctx:=⟨tys,[(29,slices_ContainsFunc.sp k),(30,poly_Check_1.sp k),(32,poly_side.sp k)],eqs,59,0,[],false⟩
theorem poly_Check.cok (k:Nat):CtxOk PR (poly_Check.cx k):=ctx_ok tysOk eqsOk (fC (slices_ContainsFunc.ok k) (fC (poly_Check_1.ok k) (fC (poly_side.ok k) FnsOk.nil))) HsOk.nil
noncomputable def poly_Check.c3p (a0:(List V26)) (v6 v11:Int):SL:=⟨[(0,(.val T36 a0)),(3,(.val T2 v6)),(4,(.val .ptr ⟨0,0,(0:Int),0,0⟩)),(5,(.val .ptr ⟨1,0,(0:Int),0,0⟩)),(6,(.val T2 v11)),(7,(.val .ptr ⟨2,0,(0:Int),0,0⟩)),(16,(.val T36 a0)),(17,(.val T2 (len a0))),(18,(.val T2 v6)),(31,(.val T36 a0)),(32,(.val T2 (len a0))),(33,(.val T2 v11))],[(0,.cells T26 (el Z26 a0 v6)),(1,.cells T26 (el Z26 a0 (irem (iadd .i64 v6 (1:Int)) (len a0)))),(2,.cells T26 (el Z26 a0 v11))]⟩
noncomputable def poly_Check.c3q (a0:(List V26)) (v6 v11:Int) (o:Bool):SL:=(fun v=>⟨[(0,(.val T36 a0)),(3,(.val T2 v6)),(4,(.val .ptr ⟨0,0,(0:Int),0,0⟩)),(5,(.val .ptr ⟨1,0,(0:Int),0,0⟩)),(16,(.val T36 a0)),(17,(.val T2 (len a0))),(18,(.val T2 v6)),(31,(.val T36 a0)),(32,(.val T2 (len a0))),(33,(.val T2 v11)),(56,(.val T4 v))],[(0,.cells T26 (el Z26 a0 v6)),(1,.cells T26 (el Z26 a0 (irem (iadd .i64 v6 (1:Int)) (len a0))))]⟩) o
noncomputable def poly_Check.c3x (o:Bool):Ex:=(fun _=>.normal) o
noncomputable def poly_Check.c3n (o:Bool):Nat:=(fun _=>2) o
theorem poly_Check.c3_ok (k:Nat) (a0:(List V26)) (v6 v11:Int):Owp (poly_Check.c3 k a0 v6 v11) fun o=>Triple PR (poly_Check.cx k) (sub poly_Check.code [1,1,1,1,0,1,0,0,1,1,0,0,1,1,1,0,0,1,1,0,0,1,0]) 3 (poly_Check.c3p a0 v6 v11) (poly_Check.c3x o) (poly_Check.c3n o) (poly_Check.c3q a0 v6 v11 o):=by
 unfold poly_Check.c3; exact
  oF (fun e14 =>
  oR fun h15 =>
  oF (fun e16 =>
  oB fun y17 e18 =>
  oS (tW (poly_Check.cok k) hmix [tT,tT,tT,tT,tT,tT,tT,tT,tT,tT,tT,tT,rS T2 y17,tT,tT] [] [(0,0),(1,1)] (via (finP (aI (aI (aI (aI (aI (aI (aI (aI (aI (aI (aI (aI (aI (aI tv0 e14) e14) e14) e14) e14) (aI e14 h15)) e14) e14) e16) e16) e16) (aI e16 e18)) e16) e16) .normal [(0,0),(1,1)] (poly_Check.c3q a0 v6 v11 (ile y17 (0:Int)))) (by kernel_rfl)))) (fun e16 =>
  oS (tW (poly_Check.cok k) hmix [tT,tT,tT,tT,tT,tT,tT,tT,fF,fF,fF,fF,tT,fF,fF] [] [(0,0),(1,1)] (via (finP (aI (aI (aI (aI (aI (aI (aI (aI (aI (aI (aI (aI (aI (aI tv0 e14) e14) e14) e14) e14) (aI e14 h15)) e14) e14) e16) e16) e16) e16) e16) e16) .normal [(0,0),(1,1)] (poly_Check.c3q a0 v6 v11 false)) (by kernel_rfl))))) (fun e14 =>
  oS (tW (poly_Check.cok k) hmix [fF,fF,fF,fF,fF,fF,fF,fF,fF,fF,fF,fF,tT,fF,fF] [] [(0,0),(1,1)] (via (finP (aI (aI (aI (aI (aI (aI (aI (aI (aI (aI (aI (aI (aI (aI tv0 e14) e14) e14) e14) e14) e14) e14) e14) ff) ff) ff) ff) ff) ff) .normal [(0,0),(1,1)] (poly_Check.c3q a0 v6 v11 false)) (by kernel_rfl))))
noncomputable def poly_Check.c2p (a0:(List V26)) (v6 v11:Int):SL:=⟨[(0,(.val T36 a0)),(3,(.val T2 v6)),(4,(.val .ptr ⟨0,0,(0:Int),0,0⟩)),(5,(.val .ptr ⟨1,0,(0:Int),0,0⟩)),(16,(.val T36 a0)),(17,(.val T2 (len a0))),(18,(.val T2 v6)),(31,(.val T36 a0)),(32,(.val T2 (len a0))),(33,(.val T2 v11))],[(0,.cells T26 (el Z26 a0 v6)),(1,.cells T26 (el Z26 a0 (irem (iadd .i64 v6 (1:Int)) (len a0))))]⟩
noncomputable def poly_Check.c2q (a0:(List V26)) (v6:Int) (o:Unit ⊕ Unit):SL:=(fun o=>two o (fun v=>⟨[(2,(.val T2 (3:Int)))],[]⟩) (fun v=>⟨[(0,(.val T36 a0)),(16,(.val T36 a0)),(17,(.val T2 (len a0))),(18,(.val T2 v6))],[]⟩)) o
noncomputable def poly_Check.c2x (o:Unit ⊕ Unit):Ex:=(fun o=>two o (fun _=>.ret) (fun _=>(.exit 2))) o
noncomputable def poly_Check.c2n (o:Unit ⊕ Unit):Nat:=(fun o=>two o (fun _=>0) (fun _=>0)) o
theorem poly_Check.c2_ok (k:Nat) (a0:(List V26)) (v6:Int):∀ (n:Nat) (v11:Int),Owp (poly_Check.c2 k a0 v6 n v11) fun o=>LTriple PR (poly_Check.cx k) (sub poly_Check.code [1,1,1,1,0,1,0,0,1,1,0,0,1,1,1,0,0]) 2 (poly_Check.c2p a0 v6 v11) (poly_Check.c2x o) (poly_Check.c2n o) (poly_Check.c2q a0 v6 o)
 | 0,_=>fun _ h=>nomatch h
 | n+1,v11=>Owp.of (poly_Check.c2.eq_2 ..) (
  oF (fun e12 =>
  oR fun h13 =>
  oB fun o19 e20 =>
  oF (fun e21 =>
  oS (loop_exit (poly_Check.cok k) hmix [tT,.cutR 14 ⟨[],[(0,0),(1,1),(2,6)],(poly_Check.c3p a0 v6 v11),3,.normal,(poly_Check.c3q a0 v6 v11 o19),2⟩,tT] [] [] exne_ret (via (cutP (aI (aI tv0 e12) h13) [(0,0),(1,1),(2,6)] (poly_Check.c3p a0 v6 v11) (((poly_Check.c3_ok k a0 v6 v11).ap e20)) (finP (aI tv0 e21) .ret [] (poly_Check.c2q a0 v6 (.inl ())))) (by kernel_rfl)))) (fun e21 =>
  fun y hy=>loop_back (poly_Check.cok k) hmix 2 (poly_Check.c2p a0 v6 (iadd .i64 v11 (1:Int))) [tT,.cutR 14 ⟨[],[(0,0),(1,1),(2,6)],(poly_Check.c3p a0 v6 v11),3,.normal,(poly_Check.c3q a0 v6 v11 o19),2⟩,fF] [] [(0,0),(1,1)] (via (cutP (aI (aI tv0 e12) h13) [(0,0),(1,1),(2,6)] (poly_Check.c3p a0 v6 v11) (((poly_Check.c3_ok k a0 v6 v11).ap e20)) (finP (aI tv0 e21) .normal [(0,0),(1,1)] (poly_Check.c2p a0 v6 (iadd .i64 v11 (1:Int))))) (by kernel_rfl)) ((poly_Check.c2_ok k a0 v6 n (iadd .i64 v11 (1:Int))).ap hy))) (fun e12 =>
  oS (loop_exit (poly_Check.cok k) hmix [fF] [] [] (exne 2) (via (finP (aI tv0 e12) (.exit 2) [] (poly_Check.c2q a0 v6 (.inr ()))) (by kernel_rfl)))))
noncomputable def poly_Check.c1p (a0:(List V26)) (v6:Int):SL:=⟨[(0,(.val T36 a0)),(16,(.val T36 a0)),(17,(.val T2 (len a0))),(18,(.val T2 v6))],[]⟩
noncomputable def poly_Check.c1q (o:Unit ⊕ Unit):SL:=(fun o=>two o (fun v=>⟨[(2,(.val T2 (3:Int)))],[]⟩) (fun v=>⟨[],[]⟩)) o
noncomputable def poly_Check.c1x (o:Unit ⊕ Unit):Ex:=(fun o=>two o (fun _=>.ret) (fun _=>(.exit 0))) o
noncomputable def poly_Check.c1n (o:Unit ⊕ Unit):Nat:=(fun o=>two o (fun _=>0) (fun _=>0)) o
theorem poly_Check.c1_ok (k:Nat) (a0:(List V26)):∀ (n:Nat) (v6:Int),Owp (poly_Check.c1 k a0 n v6) fun o=>LTriple PR (poly_Check.cx k) (sub poly_Check.code [1,1,1,1,0,1,0,0]) 0 (poly_Check.c1p a0 v6) (poly_Check.c1x o) (poly_Check.c1n o) (poly_Check.c1q o)
 | 0,_=>fun _ h=>nomatch h
 | n+1,v6=>Owp.of (poly_Check.c1.eq_2 ..) (
  oF (fun e7 =>
  oR fun h8 =>
  oR fun h9 =>
  oR fun h10 =>
  oB fun o22 e23 =>
  Owp.two (fun y24 e25 =>
  oS (loop_exit (poly_Check.cok k) hmix [tT,.cut ⟨[],[(0,4),(1,15)],(poly_Check.c2p a0 v6 (0:Int)),2,.ret,(poly_Check.c2q a0 v6 (.inl ())),0⟩] [] [] exne_ret (via (cutP (aI (aI (aI (aI tv0 e7) h8) h9) h10) [(0,4),(1,15)] (poly_Check.c2p a0 v6 (0:Int)) (((poly_Check.c2_ok k a0 v6 k (0:Int)).ap (e23.trans (congrArg some e25))).triple) (finP tv0 .ret [] (poly_Check.c1q (.inl ())))) (by kernel_rfl)))) (fun y26 e27 =>
  fun y hy=>loop_back (poly_Check.cok k) hmix 0 (poly_Check.c1p a0 (iadd .i64 v6 (1:Int))) [tT,.cut ⟨[],[(0,4),(1,15)],(poly_Check.c2p a0 v6 (0:Int)),2,(.exit 2),(poly_Check.c2q a0 v6 (.inr ())),0⟩] [] [] (via (cutP (aI (aI (aI (aI tv0 e7) h8) h9) h10) [(0,4),(1,15)] (poly_Check.c2p a0 v6 (0:Int)) (((poly_Check.c2_ok k a0 v6 k (0:Int)).ap (e23.trans (congrArg some e27))).triple) (finP tv0 .normal [] (poly_Check.c1p a0 (iadd .i64 v6 (1:Int))))) (by kernel_rfl)) ((poly_Check.c1_ok k a0 n (iadd .i64 v6 (1:Int))).ap hy))) (fun e7 =>
  oS (loop_exit (poly_Check.cok k) hmix [fF] [] [] (exne 0) (via (finP (aI tv0 e7) (.exit 0) [] (poly_Check.c1q (.inr ()))) (by kernel_rfl)))))
theorem poly_Check.way (k:Nat) (a0:(List V26)):Owp (poly_Check k a0) fun y=>∃ w c0,exec PR (poly_Check.cx k) poly_Check.code 0 (entry (.pair T36 .unit) (a0,())).st w (Ret (poly_Check.cx k) Tryz.f18 c0 (.one (.dp T2)) y):=by
 unfold poly_Check; exact
  oF (fun e1 =>
  oS (⟨[tT],[],via (retP (aI tv0 e1) (.one (.dp T2)) ((2:Int):Int)) (by kernel_rfl)⟩)) (fun e1 =>
  oF (fun e2 =>
  oS (⟨[fF,tT],[],via (retP (aI (aI tv0 e1) e2) (.one (.dp T2)) ((3:Int):Int)) (by kernel_rfl)⟩)) (fun e2 =>
  oB fun y3 e4 =>
  oF (fun e5 =>
  oS (⟨[fF,fF,rS T4 y3,tT],[],via (retP (aI (aI (aI (aI tv0 e1) e2) e4) e5) (.one (.dp T2)) ((1:Int):Int)) (by kernel_rfl)⟩)) (fun e5 =>
  oB fun o28 e29 =>
  Owp.two (fun y30 e31 =>
  oS (⟨[fF,fF,rS T4 y3,fF,.cut ⟨[],[],(poly_Check.c1p a0 (0:Int)),0,.ret,(poly_Check.c1q (.inl ())),0⟩],[],via (cutP (aI (aI (aI (aI tv0 e1) e2) e4) e5) [] (poly_Check.c1p a0 (0:Int)) (((poly_Check.c1_ok k a0 k (0:Int)).ap (e29.trans (congrArg some e31))).triple) (retP tv0 (.one (.dp T2)) ((3:Int):Int))) (by kernel_rfl)⟩)) (fun y32 e33 =>
  oS (⟨[fF,fF,rS T4 y3,fF,.cut ⟨[],[],(poly_Check.c1p a0 (0:Int)),0,(.exit 0),(poly_Check.c1q (.inr ())),0⟩],[],via (cutP (aI (aI (aI (aI tv0 e1) e2) e4) e5) [] (poly_Check.c1p a0 (0:Int)) (((poly_Check.c1_ok k a0 k (0:Int)).ap (e29.trans (congrArg some e33))).triple) (retP tv0 (.one (.dp T2)) ((0:Int):Int))) (by kernel_rfl)⟩)))))
theorem poly_Check.ok (k:Nat):FnOk PR 18 (poly_Check.sp k) :=
 fn_ok (poly_Check.cok k) hmix Tryz.func18 (code:=poly_Check.code) (by kernel_rfl) (by kernel_rfl) (by kernel_rfl) rfl rfl (by kernel_rfl) (by kernel_rfl) (by kernel_rfl) (fun x=>Nat.le_of_ble_eq_true (by kernel_rfl)) fun x y hy=>(poly_Check.way k x.1).ap hy
noncomputable def bits_Mul64.code:Code:=Func.cd Tryz.f99
def bits_Mul64 (k:Nat) (a0 a1:Int):Option (Int × Int) :=
 some ((iadd .u64 (iadd .u64 (imul .u64 (ishr .u64 a0 32) (ishr .u64 a1 32)) (ishr .u64 (iadd .u64 (imul .u64 (ishr .u64 a0 32) (ibits .and .u64 a1 4294967295)) (ishr .u64 (imul .u64 (ibits .and .u64 a0 4294967295) (ibits .and .u64 a1 4294967295)) 32)) 32)) (ishr .u64 (iadd .u64 (ibits .and .u64 (iadd .u64 (imul .u64 (ishr .u64 a0 32) (ibits .and .u64 a1 4294967295)) (ishr .u64 (imul .u64 (ibits .and .u64 a0 4294967295) (ibits .and .u64 a1 4294967295)) 32)) 4294967295) (imul .u64 (ibits .and .u64 a0 4294967295) (ishr .u64 a1 32))) 32)),(imul .u64 a0 a1))
noncomputable def bits_Mul64.sp (k:Nat):Go.Sx.Spec:=⟨(.pair T12 (.pair T12 .unit)),(.more (.dp T12) (.one (.dp T12))),fun x=>bits_Mul64 k x.1 x.2.1,false⟩
noncomputable def bits_Mul64.cx (k:Nat):Go.Sx.Ctx:=⟨tys,[],eqs,51,0,[],false⟩
theorem bits_Mul64.cok (k:Nat):CtxOk PR (bits_Mul64.cx k):=ctx_ok tysOk eqsOk FnsOk.nil HsOk.nil
theorem bits_Mul64.way (k:Nat) (a0 a1:Int):Owp (bits_Mul64 k a0 a1) fun y=>∃ w c0,exec PR (bits_Mul64.cx k) bits_Mul64.code 0 (entry (.pair T12 (.pair T12 .unit)) (a0,a1,())).st w (Ret (bits_Mul64.cx k) Tryz.f99 c0 (.more (.dp T12) (.one (.dp T12))) y):=by
 unfold bits_Mul64; exact
  oS (⟨[],[],via (retP (aI (aI (aI (aI (aI tv0 (by decide:ng (32:Int))) (by decide:ng (32:Int))) (by decide:ng (32:Int))) (by decide:ng (32:Int))) (by decide:ng (32:Int))) (.more (.dp T12) (.one (.dp T12))) (((iadd .u64 (iadd .u64 (imul .u64 (ishr .u64 a0 (32:Int)) (ishr .u64 a1 (32:Int))) (ishr .u64 (iadd .u64 (imul .u64 (ishr .u64 a0 (32:Int)) (ibits .and .u64 a1 (4294967295:Int))) (ishr .u64 (imul .u64 (ibits .and .u64 a0 (4294967295:Int)) (ibits .and .u64 a1 (4294967295:Int))) (32:Int))) (32:Int))) (ishr .u64 (iadd .u64 (ibits .and .u64 (iadd .u64 (imul .u64 (ishr .u64 a0 (32:Int)) (ibits .and .u64 a1 (4294967295:Int))) (ishr .u64 (imul .u64 (ibits .and .u64 a0 (4294967295:Int)) (ibits .and .u64 a1 (4294967295:Int))) (32:Int))) (4294967295:Int)) (imul .u64 (ibits .and .u64 a0 (4294967295:Int)) (ishr .u64 a1 (32:Int)))) (32:Int))),(imul .u64 a0 a1)):(Int × Int))) (by kernel_rfl)⟩)
theorem bits_Mul64.ok (k:Nat):FnOk PR 99 (bits_Mul64.sp k) :=
 fn_ok (bits_Mul64.cok k) hmix Tryz.func99 (code:=bits_Mul64.code) (by kernel_rfl) (by kernel_rfl) (by kernel_rfl) rfl rfl (by kernel_rfl) (by kernel_rfl) (by kernel_rfl) (fun x=>Nat.le_of_ble_eq_true (by kernel_rfl)) fun x y hy=>(bits_Mul64.way k x.1 x.2.1).ap hy
noncomputable def poly_Times.code:Code:=Func.cd Tryz.f55
def poly_Times.c1 (k:Nat) (a0 a1:Int) (y1:(Int × Int)):Option (Int) :=
 bif' (ilt a0 0)
 (some (isub .i64 (icv .i64 y1.1) a1))
 (some (icv .i64 y1.1))
def poly_Times.c2 (k:Nat) (a0 a1 o4:Int):Option (Int) :=
 bif' (ilt a1 0)
 (some (isub .i64 o4 a0))
 (some o4)
def poly_Times (k:Nat) (a0 a1:Int):Option V94 :=
 bnd (bits_Mul64 k (icv .u64 a0) (icv .u64 a1)) fun y1 =>
 bnd (poly_Times.c1 k a0 a1 y1) fun o4 =>
 bnd (poly_Times.c2 k a0 a1 o4) fun o7 =>
 some (o7,y1.2,())
noncomputable def poly_Times.sp (k:Nat):Go.Sx.Spec:=⟨T26,(.one (.dp T94)),fun x=>poly_Times k x.1 x.2.1,false⟩
noncomputable def poly_Times.cx (k:Nat):Go.Sx.Ctx:=⟨tys,[(99,bits_Mul64.sp k)],eqs,31,0,[],false⟩
theorem poly_Times.cok (k:Nat):CtxOk PR (poly_Times.cx k):=ctx_ok tysOk eqsOk (fC (bits_Mul64.ok k) FnsOk.nil) HsOk.nil
noncomputable def poly_Times.c1p (a0 a1:Int) (y1:(Int × Int)):SL:=⟨[(0,(.val T2 a0)),(1,(.val T2 a1)),(4,(.val .ptr ⟨0,0,(0:Int),0,0⟩)),(6,(.val T12 y1.2)),(7,(.val T2 (icv .i64 y1.1))),(19,(.val T4 (ilt a0 (0:Int))))],[(0,.cells T94 ((0:Int),(0:Int),()))]⟩
noncomputable def poly_Times.c1q (a0 a1:Int) (y1:(Int × Int)) (o:Int):SL:=(fun v=>⟨[(0,(.val T2 a0)),(1,(.val T2 a1)),(4,(.val .ptr ⟨0,0,(0:Int),0,0⟩)),(6,(.val T12 y1.2)),(7,(.val T2 v))],[(0,.cells T94 ((0:Int),(0:Int),()))]⟩) o
noncomputable def poly_Times.c1x (o:Int):Ex:=(fun _=>.normal) o
noncomputable def poly_Times.c1n (o:Int):Nat:=(fun _=>1) o
theorem poly_Times.c1_ok (k:Nat) (a0 a1:Int) (y1:(Int × Int)):Owp (poly_Times.c1 k a0 a1 y1) fun o=>Triple PR (poly_Times.cx k) (sub poly_Times.code [1,1,1,0,1]) 1 (poly_Times.c1p a0 a1 y1) (poly_Times.c1x o) (poly_Times.c1n o) (poly_Times.c1q a0 a1 y1 o):=by
 unfold poly_Times.c1; exact
  oF (fun e3 =>
  oS (tW (poly_Times.cok k) hmix [tT] [] [(0,0)] (via (finP (aI tv0 e3) .normal [(0,0)] (poly_Times.c1q a0 a1 y1 (isub .i64 (icv .i64 y1.1) a1))) (by kernel_rfl)))) (fun e3 =>
  oS (tW (poly_Times.cok k) hmix [fF] [] [(0,0)] (via (finP (aI tv0 e3) .normal [(0,0)] (poly_Times.c1q a0 a1 y1 (icv .i64 y1.1))) (by kernel_rfl))))
noncomputable def poly_Times.c2p (a0 a1 o4:Int) (y1:(Int × Int)):SL:=⟨[(0,(.val T2 a0)),(4,(.val .ptr ⟨0,0,(0:Int),0,0⟩)),(6,(.val T12 y1.2)),(7,(.val T2 o4)),(24,(.val T4 (ilt a1 (0:Int))))],[(0,.cells T94 ((0:Int),(0:Int),()))]⟩
noncomputable def poly_Times.c2q (y1:(Int × Int)) (o:Int):SL:=(fun v=>⟨[(4,(.val .ptr ⟨0,0,(0:Int),0,0⟩)),(6,(.val T12 y1.2)),(7,(.val T2 v))],[(0,.cells T94 ((0:Int),(0:Int),()))]⟩) o
noncomputable def poly_Times.c2x (o:Int):Ex:=(fun _=>.normal) o
noncomputable def poly_Times.c2n (o:Int):Nat:=(fun _=>1) o
theorem poly_Times.c2_ok (k:Nat) (a0 a1 o4:Int) (y1:(Int × Int)):Owp (poly_Times.c2 k a0 a1 o4) fun o=>Triple PR (poly_Times.cx k) (sub poly_Times.code [1,1,1,1,0,1]) 1 (poly_Times.c2p a0 a1 o4 y1) (poly_Times.c2x o) (poly_Times.c2n o) (poly_Times.c2q y1 o):=by
 unfold poly_Times.c2; exact
  oF (fun e6 =>
  oS (tW (poly_Times.cok k) hmix [tT] [] [(0,0)] (via (finP (aI tv0 e6) .normal [(0,0)] (poly_Times.c2q y1 (isub .i64 o4 a0))) (by kernel_rfl)))) (fun e6 =>
  oS (tW (poly_Times.cok k) hmix [fF] [] [(0,0)] (via (finP (aI tv0 e6) .normal [(0,0)] (poly_Times.c2q y1 o4)) (by kernel_rfl))))
theorem poly_Times.way (k:Nat) (a0 a1:Int):Owp (poly_Times k a0 a1) fun y=>∃ w c0,exec PR (poly_Times.cx k) poly_Times.code 0 (entry T26 (a0,a1,())).st w (Ret (poly_Times.cx k) Tryz.f55 c0 (.one (.dp T94)) y):=by
 unfold poly_Times; exact
  oB fun y1 e2 =>
  oB fun o4 e5 =>
  oB fun o7 e8 =>
  oS (⟨[.res (.more (.dp T12) (.one (.dp T12))) y1,.cut ⟨[],[(0,0)],(poly_Times.c1p a0 a1 y1),1,.normal,(poly_Times.c1q a0 a1 y1 o4),1⟩,.cut ⟨[],[(0,0)],(poly_Times.c2p a0 a1 o4 y1),1,.normal,(poly_Times.c2q y1 o7),1⟩],[],via (cutP (aI tv0 e2) [(0,0)] (poly_Times.c1p a0 a1 y1) (((poly_Times.c1_ok k a0 a1 y1).ap e5)) (cutP tv0 [(0,0)] (poly_Times.c2p a0 a1 o4 y1) (((poly_Times.c2_ok k a0 a1 o4 y1).ap e8)) (retP tv0 (.one (.dp T94)) ((o7,y1.2,()):V94)))) (by kernel_rfl)⟩)
theorem poly_Times.ok (k:Nat):FnOk PR 55 (poly_Times.sp k) :=
 fn_ok (poly_Times.cok k) hmix Tryz.func55 (code:=poly_Times.code) (by kernel_rfl) (by kernel_rfl) (by kernel_rfl) rfl rfl (by kernel_rfl) (by kernel_rfl) (by kernel_rfl) (fun x=>Nat.le_of_ble_eq_true (by kernel_rfl)) fun x y hy=>(poly_Times.way k x.1 x.2.1).ap hy
noncomputable def poly_Wide_Cmp.code:Code:=Func.cd Tryz.f56
def poly_Wide_Cmp.c1 (k:Nat) (a0 a1:V94):Option (Bool) :=
 bif' (ilt a0.1 a1.1)
 (some true)
 (bif' (ieq a0.1 a1.1)
  (some (ilt a0.2.1 a1.2.1))
  (some false))
def poly_Wide_Cmp (k:Nat) (a0 a1:V94):Option Int :=
 bif' (Ty.eqb T94 a0 a1)
 (some 0)
 (bnd (poly_Wide_Cmp.c1 k a0 a1) fun o4 =>
  bif' o4
  (some (-1))
  (some 1))
noncomputable def poly_Wide_Cmp.sp (k:Nat):Go.Sx.Spec:=⟨(.pair T94 (.pair T94 .unit)),(.one (.dp T2)),fun x=>poly_Wide_Cmp k x.1 x.2.1,false⟩
noncomputable def poly_Wide_Cmp.cx (k:Nat):Go.Sx.Ctx:=⟨tys,[],eqs,29,0,[],false⟩
theorem poly_Wide_Cmp.cok (k:Nat):CtxOk PR (poly_Wide_Cmp.cx k):=ctx_ok tysOk eqsOk FnsOk.nil HsOk.nil
noncomputable def poly_Wide_Cmp.c1p (a0 a1:V94):SL:=⟨[(2,(.val .ptr ⟨0,0,(0:Int),0,0⟩)),(3,(.val .ptr ⟨1,0,(0:Int),0,0⟩))],[(0,.cells T94 a0),(1,.cells T94 a1)]⟩
noncomputable def poly_Wide_Cmp.c1q (o:Bool):SL:=(fun v=>⟨[(9,(.val T4 v))],[]⟩) o
noncomputable def poly_Wide_Cmp.c1x (o:Bool):Ex:=(fun _=>.normal) o
noncomputable def poly_Wide_Cmp.c1n (o:Bool):Nat:=(fun _=>0) o
theorem poly_Wide_Cmp.c1_ok (k:Nat) (a0 a1:V94):Owp (poly_Wide_Cmp.c1 k a0 a1) fun o=>Triple PR (poly_Wide_Cmp.cx k) (sub poly_Wide_Cmp.code [1,0,0,1,1,0]) 2 (poly_Wide_Cmp.c1p a0 a1) (poly_Wide_Cmp.c1x o) (poly_Wide_Cmp.c1n o) (poly_Wide_Cmp.c1q o):=by
 unfold poly_Wide_Cmp.c1; exact
  oF (fun e2 =>
  oS (tW (poly_Wide_Cmp.cok k) hmix [tT,tT,tT,tT,tT,tT,tT,tT,tT,tT,tT,tT,tT,tT] [] [] (via (finP (aI (aI (aI (aI (aI (aI (aI (aI tv0 e2) e2) e2) e2) e2) e2) e2) e2) .normal [] (poly_Wide_Cmp.c1q true)) (by kernel_rfl)))) (fun e2 =>
  oF (fun e3 =>
  oS (tW (poly_Wide_Cmp.cok k) hmix [fF,fF,fF,fF,fF,fF,tT,tT,tT,tT,tT,fF,tT,fF] [] [] (via (finP (aI (aI (aI (aI (aI (aI (aI (aI (aI (aI (aI (aI (aI tv0 e2) e2) e2) e2) e2) e2) e3) e3) e3) e3) e3) (aI e2 e3)) e2) .normal [] (poly_Wide_Cmp.c1q (ilt a0.2.1 a1.2.1))) (by kernel_rfl)))) (fun e3 =>
  oS (tW (poly_Wide_Cmp.cok k) hmix [fF,fF,fF,fF,fF,fF,fF,fF,fF,fF,fF,fF,fF,fF] [] [] (via (finP (aI (aI (aI (aI (aI (aI (aI (aI (aI (aI (aI (aI (aI tv0 e2) e2) e2) e2) e2) e2) e3) e3) e3) e3) e3) (aI e2 e3)) e2) .normal [] (poly_Wide_Cmp.c1q false)) (by kernel_rfl)))))
theorem poly_Wide_Cmp.way (k:Nat) (a0 a1:V94):Owp (poly_Wide_Cmp k a0 a1) fun y=>∃ w c0,exec PR (poly_Wide_Cmp.cx k) poly_Wide_Cmp.code 0 (entry (.pair T94 (.pair T94 .unit)) (a0,a1,())).st w (Ret (poly_Wide_Cmp.cx k) Tryz.f56 c0 (.one (.dp T2)) y):=by
 unfold poly_Wide_Cmp; exact
  oF (fun e1 =>
  oS (⟨[tT],[],via (retP (aI tv0 e1) (.one (.dp T2)) ((0:Int):Int)) (by kernel_rfl)⟩)) (fun e1 =>
  oB fun o4 e5 =>
  oF (fun e6 =>
  oS (⟨[fF,.cutR 3 ⟨[],[(0,0),(1,1)],(poly_Wide_Cmp.c1p a0 a1),2,.normal,(poly_Wide_Cmp.c1q o4),0⟩,tT],[],via (cutP (aI tv0 e1) [(0,0),(1,1)] (poly_Wide_Cmp.c1p a0 a1) (((poly_Wide_Cmp.c1_ok k a0 a1).ap e5)) (retP (aI tv0 e6) (.one (.dp T2)) ((-1:Int):Int))) (by kernel_rfl)⟩)) (fun e6 =>
  oS (⟨[fF,.cutR 3 ⟨[],[(0,0),(1,1)],(poly_Wide_Cmp.c1p a0 a1),2,.normal,(poly_Wide_Cmp.c1q o4),0⟩,fF],[],via (cutP (aI tv0 e1) [(0,0),(1,1)] (poly_Wide_Cmp.c1p a0 a1) (((poly_Wide_Cmp.c1_ok k a0 a1).ap e5)) (retP (aI tv0 e6) (.one (.dp T2)) ((1:Int):Int))) (by kernel_rfl)⟩)))
theorem poly_Wide_Cmp.ok (k:Nat):FnOk PR 56 (poly_Wide_Cmp.sp k) :=
 fn_ok (poly_Wide_Cmp.cok k) hmix Tryz.func56 (code:=poly_Wide_Cmp.code) (by kernel_rfl) (by kernel_rfl) (by kernel_rfl) rfl rfl (by kernel_rfl) (by kernel_rfl) (by kernel_rfl) (fun x=>Nat.le_of_ble_eq_true (by kernel_rfl)) fun x y hy=>(poly_Wide_Cmp.way k x.1 x.2.1).ap hy
noncomputable def poly_Area.code:Code:=Func.cd Tryz.f87
def poly_Area.c1 (k:Nat) (a0:(List V26)):Nat→Int→Int→Option (Int)
 | 0,_,_=>none
 | n+1,v4,v5 =>
  bif' (ilt v5 (len a0))
  (req (inL 0 a0) <|req (inL (isub .i64 v5 1) a0) <|req (inL v5 a0) <|bnd (poly_side k (el Z26 a0 0) (el Z26 a0 (isub .i64 v5 1)) (el Z26 a0 v5)) fun y10 =>
  poly_Area.c1 k a0 n (iadd .i64 v4 y10) (iadd .i64 v5 1))
  (some v4)
def poly_Area (k:Nat) (a0:(List V26)):Option (Int × Int) :=
 bnd (poly_Check k a0) fun y1 =>
 bif' (ine y1 0)
 (some (0,y1))
 (bnd (poly_Area.c1 k a0 k 0 2) fun o12 =>
  some (o12,0))
noncomputable def poly_Area.sp (k:Nat):Go.Sx.Spec:=⟨(.pair T36 .unit),(.more (.dp T2) (.one (.dp T2))),fun x=>poly_Area k x.1,false⟩
noncomputable def poly_Area.cx (k:Nat):Go.Sx.Ctx:=⟨tys,[(18,poly_Check.sp k),(32,poly_side.sp k)],eqs,34,0,[],false⟩
theorem poly_Area.cok (k:Nat):CtxOk PR (poly_Area.cx k):=ctx_ok tysOk eqsOk (fC (poly_Check.ok k) (fC (poly_side.ok k) FnsOk.nil)) HsOk.nil
noncomputable def poly_Area.c1p (a0:(List V26)) (v4 v5:Int):SL:=⟨[(0,(.val T36 a0)),(5,(.val T2 v4)),(6,(.val T2 v5))],[]⟩
noncomputable def poly_Area.c1q (o:Int):SL:=(fun v=>⟨[(5,(.val T2 v))],[]⟩) o
noncomputable def poly_Area.c1x (o:Int):Ex:=(fun _=>(.exit 0)) o
noncomputable def poly_Area.c1n (o:Int):Nat:=(fun _=>0) o
theorem poly_Area.c1_ok (k:Nat) (a0:(List V26)):∀ (n:Nat) (v4 v5:Int),Owp (poly_Area.c1 k a0 n v4 v5) fun o=>LTriple PR (poly_Area.cx k) (sub poly_Area.code [1,1,1,0,1,0,0]) 0 (poly_Area.c1p a0 v4 v5) (poly_Area.c1x o) (poly_Area.c1n o) (poly_Area.c1q o)
 | 0,_,_=>fun _ h=>nomatch h
 | n+1,v4,v5=>Owp.of (poly_Area.c1.eq_2 ..) (
  oF (fun e6 =>
  oR fun h7 =>
  oR fun h8 =>
  oR fun h9 =>
  oB fun y10 e11 =>
  fun y hy=>loop_back (poly_Area.cok k) hmix 0 (poly_Area.c1p a0 (iadd .i64 v4 y10) (iadd .i64 v5 (1:Int))) [tT,rS T2 y10] [] [] (via (finP (aI (aI (aI (aI (aI tv0 e6) h7) h8) h9) e11) .normal [] (poly_Area.c1p a0 (iadd .i64 v4 y10) (iadd .i64 v5 (1:Int)))) (by kernel_rfl)) ((poly_Area.c1_ok k a0 n (iadd .i64 v4 y10) (iadd .i64 v5 (1:Int))).ap hy)) (fun e6 =>
  oS (loop_exit (poly_Area.cok k) hmix [fF] [] [] (exne 0) (via (finP (aI tv0 e6) (.exit 0) [] (poly_Area.c1q v4)) (by kernel_rfl)))))
theorem poly_Area.way (k:Nat) (a0:(List V26)):Owp (poly_Area k a0) fun y=>∃ w c0,exec PR (poly_Area.cx k) poly_Area.code 0 (entry (.pair T36 .unit) (a0,())).st w (Ret (poly_Area.cx k) Tryz.f87 c0 (.more (.dp T2) (.one (.dp T2))) y):=by
 unfold poly_Area; exact
  oB fun y1 e2 =>
  oF (fun e3 =>
  oS (⟨[rS T2 y1,tT],[],via (retP (aI (aI tv0 e2) e3) (.more (.dp T2) (.one (.dp T2))) (((0:Int),y1):(Int × Int))) (by kernel_rfl)⟩)) (fun e3 =>
  oB fun o12 e13 =>
  oS (⟨[rS T2 y1,fF,.cut ⟨[],[],(poly_Area.c1p a0 (0:Int) (2:Int)),0,(.exit 0),(poly_Area.c1q o12),0⟩],[],via (cutP (aI (aI tv0 e2) e3) [] (poly_Area.c1p a0 (0:Int) (2:Int)) (((poly_Area.c1_ok k a0 k (0:Int) (2:Int)).ap e13).triple) (retP tv0 (.more (.dp T2) (.one (.dp T2))) ((o12,(0:Int)):(Int × Int)))) (by kernel_rfl)⟩))
theorem poly_Area.ok (k:Nat):FnOk PR 87 (poly_Area.sp k) :=
 fn_ok (poly_Area.cok k) hmix Tryz.func87 (code:=poly_Area.code) (by kernel_rfl) (by kernel_rfl) (by kernel_rfl) rfl rfl (by kernel_rfl) (by kernel_rfl) (by kernel_rfl) (fun x=>Nat.le_of_ble_eq_true (by kernel_rfl)) fun x y hy=>(poly_Area.way k x.1).ap hy
theorem bits_Add64.ok (k:Nat):FnOk PR 143 (bits_Add64.sp k):=add64_ok Tryz.func143 (by kernel_rfl) (by kernel_rfl) (by kernel_rfl) (by kernel_rfl) k
noncomputable def poly_Wide_Plus.code:Code:=Func.cd Tryz.f89
def poly_Wide_Plus (k:Nat) (a0 a1:V94):Option V94 :=
 bnd (bits_Add64 k a0.2.1 a1.2.1 0) fun y1 =>
 some ((iadd .i64 (iadd .i64 a0.1 a1.1) (icv .i64 y1.2)),y1.1,())
noncomputable def poly_Wide_Plus.sp (k:Nat):Go.Sx.Spec:=⟨(.pair T94 (.pair T94 .unit)),(.one (.dp T94)),fun x=>poly_Wide_Plus k x.1 x.2.1,false⟩
noncomputable def poly_Wide_Plus.cx (k:Nat):Go.Sx.Ctx:=⟨tys,[(143,bits_Add64.sp k)],eqs,25,0,[],false⟩
theorem poly_Wide_Plus.cok (k:Nat):CtxOk PR (poly_Wide_Plus.cx k):=ctx_ok tysOk eqsOk (fC (bits_Add64.ok k) FnsOk.nil) HsOk.nil
theorem poly_Wide_Plus.way (k:Nat) (a0 a1:V94):Owp (poly_Wide_Plus k a0 a1) fun y=>∃ w c0,exec PR (poly_Wide_Plus.cx k) poly_Wide_Plus.code 0 (entry (.pair T94 (.pair T94 .unit)) (a0,a1,())).st w (Ret (poly_Wide_Plus.cx k) Tryz.f89 c0 (.one (.dp T94)) y):=by
 unfold poly_Wide_Plus; exact
  oB fun y1 e2 =>
  oS (⟨[.res (.more (.dp T12) (.one (.dp T12))) y1],[],via (retP (aI tv0 e2) (.one (.dp T94)) (((iadd .i64 (iadd .i64 a0.1 a1.1) (icv .i64 y1.2)),y1.1,()):V94)) (by kernel_rfl)⟩)
theorem poly_Wide_Plus.ok (k:Nat):FnOk PR 89 (poly_Wide_Plus.sp k) :=
 fn_ok (poly_Wide_Plus.cok k) hmix Tryz.func89 (code:=poly_Wide_Plus.code) (by kernel_rfl) (by kernel_rfl) (by kernel_rfl) rfl rfl (by kernel_rfl) (by kernel_rfl) (by kernel_rfl) (fun x=>Nat.le_of_ble_eq_true (by kernel_rfl)) fun x y hy=>(poly_Wide_Plus.way k x.1 x.2.1).ap hy
theorem bits_Sub64.ok (k:Nat):FnOk PR 167 (bits_Sub64.sp k):=sub64_ok Tryz.func167 (by kernel_rfl) (by kernel_rfl) (by kernel_rfl) (by kernel_rfl) k
noncomputable def poly_Wide_Minus.code:Code:=Func.cd Tryz.f144
def poly_Wide_Minus (k:Nat) (a0 a1:V94):Option V94 :=
 bnd (bits_Sub64 k a0.2.1 a1.2.1 0) fun y1 =>
 some ((isub .i64 (isub .i64 a0.1 a1.1) (icv .i64 y1.2)),y1.1,())
noncomputable def poly_Wide_Minus.sp (k:Nat):Go.Sx.Spec:=⟨(.pair T94 (.pair T94 .unit)),(.one (.dp T94)),fun x=>poly_Wide_Minus k x.1 x.2.1,false⟩
noncomputable def poly_Wide_Minus.cx (k:Nat):Go.Sx.Ctx:=⟨tys,[(167,bits_Sub64.sp k)],eqs,25,0,[],false⟩
theorem poly_Wide_Minus.cok (k:Nat):CtxOk PR (poly_Wide_Minus.cx k):=ctx_ok tysOk eqsOk (fC (bits_Sub64.ok k) FnsOk.nil) HsOk.nil
theorem poly_Wide_Minus.way (k:Nat) (a0 a1:V94):Owp (poly_Wide_Minus k a0 a1) fun y=>∃ w c0,exec PR (poly_Wide_Minus.cx k) poly_Wide_Minus.code 0 (entry (.pair T94 (.pair T94 .unit)) (a0,a1,())).st w (Ret (poly_Wide_Minus.cx k) Tryz.f144 c0 (.one (.dp T94)) y):=by
 unfold poly_Wide_Minus; exact
  oB fun y1 e2 =>
  oS (⟨[.res (.more (.dp T12) (.one (.dp T12))) y1],[],via (retP (aI tv0 e2) (.one (.dp T94)) (((isub .i64 (isub .i64 a0.1 a1.1) (icv .i64 y1.2)),y1.1,()):V94)) (by kernel_rfl)⟩)
theorem poly_Wide_Minus.ok (k:Nat):FnOk PR 144 (poly_Wide_Minus.sp k) :=
 fn_ok (poly_Wide_Minus.cok k) hmix Tryz.func144 (code:=poly_Wide_Minus.code) (by kernel_rfl) (by kernel_rfl) (by kernel_rfl) rfl rfl (by kernel_rfl) (by kernel_rfl) (by kernel_rfl) (fun x=>Nat.le_of_ble_eq_true (by kernel_rfl)) fun x y hy=>(poly_Wide_Minus.way k x.1 x.2.1).ap hy
noncomputable def bits_Len64.code:Code:=Func.cd Tryz.f178
def bits_Len64.c1 (k:Nat) (a0:Int):Option ((Int × Int)) :=
 bif' (ige a0 4294967296)
 (some ((ishr .u64 a0 32),32))
 (some (a0,0))
def bits_Len64.c2 (k:Nat) (o2:(Int × Int)):Option ((Int × Int)) :=
 bif' (ige o2.1 65536)
 (some ((ishr .u64 o2.1 16),(iadd .i64 o2.2 16)))
 (some (o2.1,o2.2))
def bits_Len64.c3 (k:Nat) (o5:(Int × Int)):Option ((Int × Int)) :=
 bif' (ige o5.1 256)
 (some ((ishr .u64 o5.1 8),(iadd .i64 o5.2 8)))
 (some (o5.1,o5.2))
def bits_Len64 (k:Nat) (a0:Int):Option Int :=
 bnd (bits_Len64.c1 k a0) fun o2 =>
 bnd (bits_Len64.c2 k o2) fun o5 =>
 bnd (bits_Len64.c3 k o5) fun o8 =>
 req (inR (icv .u8 o8.1) 256) <|some (iadd .i64 o8.2 (icv .i64 (strAt str0 (icv .u8 o8.1))))
noncomputable def bits_Len64.sp (k:Nat):Go.Sx.Spec:=⟨(.pair T12 .unit),(.one (.dp T2)),fun x=>bits_Len64 k x.1,false⟩
noncomputable def bits_Len64.cx (k:Nat):Go.Sx.Ctx:=⟨tys,[],eqs,25,0,[],false⟩
theorem bits_Len64.cok (k:Nat):CtxOk PR (bits_Len64.cx k):=ctx_ok tysOk eqsOk FnsOk.nil HsOk.nil
noncomputable def bits_Len64.c1p (a0:Int):SL:=⟨[(0,(.val T12 a0)),(2,(.val T2 (0:Int))),(4,(.val T4 (ige a0 (4294967296:Int))))],[]⟩
noncomputable def bits_Len64.c1q (o:(Int × Int)):SL:=(fun v=>⟨[(0,(.val T12 v.1)),(2,(.val T2 v.2))],[]⟩) o
noncomputable def bits_Len64.c1x (o:(Int × Int)):Ex:=(fun _=>.normal) o
noncomputable def bits_Len64.c1n (o:(Int × Int)):Nat:=(fun _=>0) o
theorem bits_Len64.c1_ok (k:Nat) (a0:Int):Owp (bits_Len64.c1 k a0) fun o=>Triple PR (bits_Len64.cx k) (sub bits_Len64.code [1,0,1]) 0 (bits_Len64.c1p a0) (bits_Len64.c1x o) (bits_Len64.c1n o) (bits_Len64.c1q o):=by
 unfold bits_Len64.c1; exact
  oF (fun e1 =>
  oS (tW (bits_Len64.cok k) hmix [tT] [] [] (via (finP (aI (aI tv0 e1) (by decide:ng (32:Int))) .normal [] (bits_Len64.c1q ((ishr .u64 a0 (32:Int)),(32:Int)))) (by kernel_rfl)))) (fun e1 =>
  oS (tW (bits_Len64.cok k) hmix [fF] [] [] (via (finP (aI tv0 e1) .normal [] (bits_Len64.c1q (a0,(0:Int)))) (by kernel_rfl))))
noncomputable def bits_Len64.c2p (o2:(Int × Int)):SL:=⟨[(0,(.val T12 o2.1)),(2,(.val T2 o2.2)),(8,(.val T4 (ige o2.1 (65536:Int))))],[]⟩
noncomputable def bits_Len64.c2q (o:(Int × Int)):SL:=(fun v=>⟨[(0,(.val T12 v.1)),(2,(.val T2 v.2))],[]⟩) o
noncomputable def bits_Len64.c2x (o:(Int × Int)):Ex:=(fun _=>.normal) o
noncomputable def bits_Len64.c2n (o:(Int × Int)):Nat:=(fun _=>0) o
theorem bits_Len64.c2_ok (k:Nat) (o2:(Int × Int)):Owp (bits_Len64.c2 k o2) fun o=>Triple PR (bits_Len64.cx k) (sub bits_Len64.code [1,1,0,1]) 0 (bits_Len64.c2p o2) (bits_Len64.c2x o) (bits_Len64.c2n o) (bits_Len64.c2q o):=by
 unfold bits_Len64.c2; exact
  oF (fun e4 =>
  oS (tW (bits_Len64.cok k) hmix [tT] [] [] (via (finP (aI (aI tv0 e4) (by decide:ng (16:Int))) .normal [] (bits_Len64.c2q ((ishr .u64 o2.1 (16:Int)),(iadd .i64 o2.2 (16:Int))))) (by kernel_rfl)))) (fun e4 =>
  oS (tW (bits_Len64.cok k) hmix [fF] [] [] (via (finP (aI tv0 e4) .normal [] (bits_Len64.c2q (o2.1,o2.2))) (by kernel_rfl))))
noncomputable def bits_Len64.c3p (o5:(Int × Int)):SL:=⟨[(0,(.val T12 o5.1)),(2,(.val T2 o5.2)),(14,(.val T4 (ige o5.1 (256:Int))))],[]⟩
noncomputable def bits_Len64.c3q (o:(Int × Int)):SL:=(fun v=>⟨[(0,(.val T12 v.1)),(2,(.val T2 v.2))],[]⟩) o
noncomputable def bits_Len64.c3x (o:(Int × Int)):Ex:=(fun _=>.normal) o
noncomputable def bits_Len64.c3n (o:(Int × Int)):Nat:=(fun _=>0) o
theorem bits_Len64.c3_ok (k:Nat) (o5:(Int × Int)):Owp (bits_Len64.c3 k o5) fun o=>Triple PR (bits_Len64.cx k) (sub bits_Len64.code [1,1,1,0,1]) 0 (bits_Len64.c3p o5) (bits_Len64.c3x o) (bits_Len64.c3n o) (bits_Len64.c3q o):=by
 unfold bits_Len64.c3; exact
  oF (fun e7 =>
  oS (tW (bits_Len64.cok k) hmix [tT] [] [] (via (finP (aI (aI tv0 e7) (by decide:ng (8:Int))) .normal [] (bits_Len64.c3q ((ishr .u64 o5.1 (8:Int)),(iadd .i64 o5.2 (8:Int))))) (by kernel_rfl)))) (fun e7 =>
  oS (tW (bits_Len64.cok k) hmix [fF] [] [] (via (finP (aI tv0 e7) .normal [] (bits_Len64.c3q (o5.1,o5.2))) (by kernel_rfl))))
theorem bits_Len64.way (k:Nat) (a0:Int):Owp (bits_Len64 k a0) fun y=>∃ w c0,exec PR (bits_Len64.cx k) bits_Len64.code 0 (entry (.pair T12 .unit) (a0,())).st w (Ret (bits_Len64.cx k) Tryz.f178 c0 (.one (.dp T2)) y):=by
 unfold bits_Len64; exact
  oB fun o2 e3 =>
  oB fun o5 e6 =>
  oB fun o8 e9 =>
  oR fun h10 =>
  oS (⟨[.cut ⟨[],[],(bits_Len64.c1p a0),0,.normal,(bits_Len64.c1q o2),0⟩,.cut ⟨[],[],(bits_Len64.c2p o2),0,.normal,(bits_Len64.c2q o5),0⟩,.cut ⟨[],[],(bits_Len64.c3p o5),0,.normal,(bits_Len64.c3q o8),0⟩],[],via (cutP tv0 [] (bits_Len64.c1p a0) (((bits_Len64.c1_ok k a0).ap e3)) (cutP tv0 [] (bits_Len64.c2p o2) (((bits_Len64.c2_ok k o2).ap e6)) (cutP tv0 [] (bits_Len64.c3p o5) (((bits_Len64.c3_ok k o5).ap e9)) (retP (aI tv0 h10) (.one (.dp T2)) ((iadd .i64 o8.2 (icv .i64 (strAt str0 (icv .u8 o8.1)))):Int))))) (by kernel_rfl)⟩)
theorem bits_Len64.ok (k:Nat):FnOk PR 178 (bits_Len64.sp k) :=
 fn_ok (bits_Len64.cok k) hmix Tryz.func178 (code:=bits_Len64.code) (by kernel_rfl) (by kernel_rfl) (by kernel_rfl) rfl rfl (by kernel_rfl) (by kernel_rfl) (by kernel_rfl) (fun x=>Nat.le_of_ble_eq_true (by kernel_rfl)) fun x y hy=>(bits_Len64.way k x.1).ap hy
noncomputable def bits_LeadingZeros64.code:Code:=Func.cd Tryz.f166
def bits_LeadingZeros64 (k:Nat) (a0:Int):Option Int :=
 bnd (bits_Len64 k a0) fun y1 =>
 some (isub .i64 64 y1)
noncomputable def bits_LeadingZeros64.sp (k:Nat):Go.Sx.Spec:=⟨(.pair T12 .unit),(.one (.dp T2)),fun x=>bits_LeadingZeros64 k x.1,false⟩
noncomputable def bits_LeadingZeros64.cx (k:Nat):Go.Sx.Ctx:=⟨tys,[(178,bits_Len64.sp k)],eqs,6,0,[],false⟩
theorem bits_LeadingZeros64.cok (k:Nat):CtxOk PR (bits_LeadingZeros64.cx k):=ctx_ok tysOk eqsOk (fC (bits_Len64.ok k) FnsOk.nil) HsOk.nil
theorem bits_LeadingZeros64.way (k:Nat) (a0:Int):Owp (bits_LeadingZeros64 k a0) fun y=>∃ w c0,exec PR (bits_LeadingZeros64.cx k) bits_LeadingZeros64.code 0 (entry (.pair T12 .unit) (a0,())).st w (Ret (bits_LeadingZeros64.cx k) Tryz.f166 c0 (.one (.dp T2)) y):=by
 unfold bits_LeadingZeros64; exact
  oB fun y1 e2 =>
  oS (⟨[rS T2 y1],[],via (retP (aI tv0 e2) (.one (.dp T2)) ((isub .i64 (64:Int) y1):Int)) (by kernel_rfl)⟩)
theorem bits_LeadingZeros64.ok (k:Nat):FnOk PR 166 (bits_LeadingZeros64.sp k) :=
 fn_ok (bits_LeadingZeros64.cok k) hmix Tryz.func166 (code:=bits_LeadingZeros64.code) (by kernel_rfl) (by kernel_rfl) (by kernel_rfl) rfl rfl (by kernel_rfl) (by kernel_rfl) (by kernel_rfl) (fun x=>Nat.le_of_ble_eq_true (by kernel_rfl)) fun x y hy=>(bits_LeadingZeros64.way k x.1).ap hy
noncomputable def bits_Div64.code:Code:=Func.cd Tryz.f142
def bits_Div64.c2 (k:Nat) (a1 a2 v10 v11 y5:Int):Option (Bool) :=
 bif' (ige v10 4294967296)
 (some true)
 (some (igt (imul .u64 v10 (ibits .and .u64 (ishl .u64 a2 (icv .u64 y5)) 4294967295)) (iadd .u64 (imul .u64 4294967296 v11) (ishr .u64 (ishl .u64 a1 (icv .u64 y5)) 32))))
def bits_Div64.c1 (k:Nat) (a1 a2 y5:Int):Nat→Int→Int→Option (Int)
 | 0,_,_=>none
 | n+1,v10,v11 =>
  bnd (bits_Div64.c2 k a1 a2 v10 v11 y5) fun o13 =>
  bif' o13
  (bif' (ige (iadd .u64 v11 (ishr .u64 (ishl .u64 a2 (icv .u64 y5)) 32)) 4294967296)
  (some (isub .u64 v10 1))
  (bits_Div64.c1 k a1 a2 y5 n (isub .u64 v10 1) (iadd .u64 v11 (ishr .u64 (ishl .u64 a2 (icv .u64 y5)) 32))))
  (some v10)
def bits_Div64.c4 (k:Nat) (a1 a2 v19 v20 y5:Int):Option (Bool) :=
 bif' (ige v20 4294967296)
 (some true)
 (some (igt (imul .u64 v20 (ibits .and .u64 (ishl .u64 a2 (icv .u64 y5)) 4294967295)) (iadd .u64 (imul .u64 4294967296 v19) (ibits .and .u64 (ishl .u64 a1 (icv .u64 y5)) 4294967295))))
def bits_Div64.c3 (k:Nat) (a1 a2 y5:Int):Nat→Int→Int→Option (Int)
 | 0,_,_=>none
 | n+1,v19,v20 =>
  bnd (bits_Div64.c4 k a1 a2 v19 v20 y5) fun o22 =>
  bif' o22
  (bif' (ige (iadd .u64 v19 (ishr .u64 (ishl .u64 a2 (icv .u64 y5)) 32)) 4294967296)
  (some (isub .u64 v20 1))
  (bits_Div64.c3 k a1 a2 y5 n (iadd .u64 v19 (ishr .u64 (ishl .u64 a2 (icv .u64 y5)) 32)) (isub .u64 v20 1)))
  (some v20)
def bits_Div64 (k:Nat) (a0 a1 a2:Int):Option (Int × Int) :=
 bif' (ieq a2 0)
 (none)
 (bif' (ile a2 a0)
  (none)
  (bif' (ieq a0 0)
  (req (nz a2) <|some ((iquo .u64 a1 a2),(irem a1 a2)))
  (bnd (bits_LeadingZeros64 k a2) fun y5 =>
  req (ng (icv .u64 y5)) <|req (ng (isub .u64 64 (icv .u64 y5))) <|req (nz (ishr .u64 (ishl .u64 a2 (icv .u64 y5)) 32)) <|bnd (bits_Div64.c1 k a1 a2 y5 k (iquo .u64 (ibits .or .u64 (ishl .u64 a0 (icv .u64 y5)) (ishr .u64 a1 (isub .u64 64 (icv .u64 y5)))) (ishr .u64 (ishl .u64 a2 (icv .u64 y5)) 32)) (isub .u64 (ibits .or .u64 (ishl .u64 a0 (icv .u64 y5)) (ishr .u64 a1 (isub .u64 64 (icv .u64 y5)))) (imul .u64 (iquo .u64 (ibits .or .u64 (ishl .u64 a0 (icv .u64 y5)) (ishr .u64 a1 (isub .u64 64 (icv .u64 y5)))) (ishr .u64 (ishl .u64 a2 (icv .u64 y5)) 32)) (ishr .u64 (ishl .u64 a2 (icv .u64 y5)) 32)))) fun o17 =>
  bnd (bits_Div64.c3 k a1 a2 y5 k (isub .u64 (isub .u64 (iadd .u64 (imul .u64 (ibits .or .u64 (ishl .u64 a0 (icv .u64 y5)) (ishr .u64 a1 (isub .u64 64 (icv .u64 y5)))) 4294967296) (ishr .u64 (ishl .u64 a1 (icv .u64 y5)) 32)) (imul .u64 o17 (ishl .u64 a2 (icv .u64 y5)))) (imul .u64 (iquo .u64 (isub .u64 (iadd .u64 (imul .u64 (ibits .or .u64 (ishl .u64 a0 (icv .u64 y5)) (ishr .u64 a1 (isub .u64 64 (icv .u64 y5)))) 4294967296) (ishr .u64 (ishl .u64 a1 (icv .u64 y5)) 32)) (imul .u64 o17 (ishl .u64 a2 (icv .u64 y5)))) (ishr .u64 (ishl .u64 a2 (icv .u64 y5)) 32)) (ishr .u64 (ishl .u64 a2 (icv .u64 y5)) 32))) (iquo .u64 (isub .u64 (iadd .u64 (imul .u64 (ibits .or .u64 (ishl .u64 a0 (icv .u64 y5)) (ishr .u64 a1 (isub .u64 64 (icv .u64 y5)))) 4294967296) (ishr .u64 (ishl .u64 a1 (icv .u64 y5)) 32)) (imul .u64 o17 (ishl .u64 a2 (icv .u64 y5)))) (ishr .u64 (ishl .u64 a2 (icv .u64 y5)) 32))) fun o26 =>
  some ((iadd .u64 (imul .u64 o17 4294967296) o26),(ishr .u64 (isub .u64 (iadd .u64 (imul .u64 (isub .u64 (iadd .u64 (imul .u64 (ibits .or .u64 (ishl .u64 a0 (icv .u64 y5)) (ishr .u64 a1 (isub .u64 64 (icv .u64 y5)))) 4294967296) (ishr .u64 (ishl .u64 a1 (icv .u64 y5)) 32)) (imul .u64 o17 (ishl .u64 a2 (icv .u64 y5)))) 4294967296) (ibits .and .u64 (ishl .u64 a1 (icv .u64 y5)) 4294967295)) (imul .u64 o26 (ishl .u64 a2 (icv .u64 y5)))) (icv .u64 y5))))))
noncomputable def bits_Div64.sp (k:Nat):Go.Sx.Spec:=⟨(.pair T12 (.pair T12 (.pair T12 .unit))),(.more (.dp T12) (.one (.dp T12))),fun x=>bits_Div64 k x.1 x.2.1 x.2.2.1,false⟩
noncomputable def bits_Div64.cx (k:Nat):Go.Sx.Ctx:=⟨tys,[(166,bits_LeadingZeros64.sp k)],eqs,135,0,[],false⟩
theorem bits_Div64.cok (k:Nat):CtxOk PR (bits_Div64.cx k):=ctx_ok tysOk eqsOk (fC (bits_LeadingZeros64.ok k) FnsOk.nil) HsOk.nil
noncomputable def bits_Div64.c2p (a0 a1 a2 v10 v11 y5:Int):SL:=⟨[(2,(.val T12 (ishl .u64 a2 (icv .u64 y5)))),(8,(.val T12 (icv .u64 y5))),(9,(.val T12 (ishr .u64 (ishl .u64 a2 (icv .u64 y5)) (32:Int)))),(10,(.val T12 (ibits .and .u64 (ishl .u64 a2 (icv .u64 y5)) (4294967295:Int)))),(11,(.val T12 (ibits .or .u64 (ishl .u64 a0 (icv .u64 y5)) (ishr .u64 a1 (isub .u64 (64:Int) (icv .u64 y5)))))),(13,(.val T12 (ishr .u64 (ishl .u64 a1 (icv .u64 y5)) (32:Int)))),(14,(.val T12 (ibits .and .u64 (ishl .u64 a1 (icv .u64 y5)) (4294967295:Int)))),(15,(.val T12 v10)),(16,(.val T12 v11))],[]⟩
noncomputable def bits_Div64.c2q (a0 a1 a2 v10 v11 y5:Int) (o:Bool):SL:=(fun v=>⟨[(2,(.val T12 (ishl .u64 a2 (icv .u64 y5)))),(8,(.val T12 (icv .u64 y5))),(9,(.val T12 (ishr .u64 (ishl .u64 a2 (icv .u64 y5)) (32:Int)))),(10,(.val T12 (ibits .and .u64 (ishl .u64 a2 (icv .u64 y5)) (4294967295:Int)))),(11,(.val T12 (ibits .or .u64 (ishl .u64 a0 (icv .u64 y5)) (ishr .u64 a1 (isub .u64 (64:Int) (icv .u64 y5)))))),(13,(.val T12 (ishr .u64 (ishl .u64 a1 (icv .u64 y5)) (32:Int)))),(14,(.val T12 (ibits .and .u64 (ishl .u64 a1 (icv .u64 y5)) (4294967295:Int)))),(15,(.val T12 v10)),(16,(.val T12 v11)),(78,(.val T4 v))],[]⟩) o
noncomputable def bits_Div64.c2x (o:Bool):Ex:=(fun _=>.normal) o
noncomputable def bits_Div64.c2n (o:Bool):Nat:=(fun _=>0) o
theorem bits_Div64.c2_ok (k:Nat) (a0 a1 a2 v10 v11 y5:Int):Owp (bits_Div64.c2 k a1 a2 v10 v11 y5) fun o=>Triple PR (bits_Div64.cx k) (sub bits_Div64.code [1,1,1,1,1,1,1,1,1,1,1,1,1,1,0,0,0,0,0]) 0 (bits_Div64.c2p a0 a1 a2 v10 v11 y5) (bits_Div64.c2x o) (bits_Div64.c2n o) (bits_Div64.c2q a0 a1 a2 v10 v11 y5 o):=by
 unfold bits_Div64.c2; exact
  oF (fun e12 =>
  oS (tW (bits_Div64.cok k) hmix [tT,tT,tT,tT,tT,tT,tT,tT,tT] [] [] (via (finP (aI (aI (aI (aI (aI (aI (aI (aI (aI tv0 e12) e12) e12) e12) e12) e12) e12) e12) e12) .normal [] (bits_Div64.c2q a0 a1 a2 v10 v11 y5 true)) (by kernel_rfl)))) (fun e12 =>
  oS (tW (bits_Div64.cok k) hmix [fF,fF,fF,fF,fF,fF,fF,fF,fF] [] [] (via (finP (aI (aI (aI (aI (aI (aI (aI (aI (aI tv0 e12) e12) e12) e12) e12) e12) e12) e12) e12) .normal [] (bits_Div64.c2q a0 a1 a2 v10 v11 y5 (igt (imul .u64 v10 (ibits .and .u64 (ishl .u64 a2 (icv .u64 y5)) (4294967295:Int))) (iadd .u64 (imul .u64 (4294967296:Int) v11) (ishr .u64 (ishl .u64 a1 (icv .u64 y5)) (32:Int)))))) (by kernel_rfl))))
noncomputable def bits_Div64.c1p (a0 a1 a2 y5 v10 v11:Int):SL:=⟨[(2,(.val T12 (ishl .u64 a2 (icv .u64 y5)))),(8,(.val T12 (icv .u64 y5))),(9,(.val T12 (ishr .u64 (ishl .u64 a2 (icv .u64 y5)) (32:Int)))),(10,(.val T12 (ibits .and .u64 (ishl .u64 a2 (icv .u64 y5)) (4294967295:Int)))),(11,(.val T12 (ibits .or .u64 (ishl .u64 a0 (icv .u64 y5)) (ishr .u64 a1 (isub .u64 (64:Int) (icv .u64 y5)))))),(13,(.val T12 (ishr .u64 (ishl .u64 a1 (icv .u64 y5)) (32:Int)))),(14,(.val T12 (ibits .and .u64 (ishl .u64 a1 (icv .u64 y5)) (4294967295:Int)))),(15,(.val T12 v10)),(16,(.val T12 v11))],[]⟩
noncomputable def bits_Div64.c1q (a0 a1 a2 y5 o:Int):SL:=(fun v=>⟨[(2,(.val T12 (ishl .u64 a2 (icv .u64 y5)))),(8,(.val T12 (icv .u64 y5))),(9,(.val T12 (ishr .u64 (ishl .u64 a2 (icv .u64 y5)) (32:Int)))),(10,(.val T12 (ibits .and .u64 (ishl .u64 a2 (icv .u64 y5)) (4294967295:Int)))),(11,(.val T12 (ibits .or .u64 (ishl .u64 a0 (icv .u64 y5)) (ishr .u64 a1 (isub .u64 (64:Int) (icv .u64 y5)))))),(13,(.val T12 (ishr .u64 (ishl .u64 a1 (icv .u64 y5)) (32:Int)))),(14,(.val T12 (ibits .and .u64 (ishl .u64 a1 (icv .u64 y5)) (4294967295:Int)))),(15,(.val T12 v))],[]⟩) o
noncomputable def bits_Div64.c1x (o:Int):Ex:=(fun _=>(.exit 0)) o
noncomputable def bits_Div64.c1n (o:Int):Nat:=(fun _=>0) o
theorem bits_Div64.c1_ok (k:Nat) (a0 a1 a2 y5:Int):∀ (n:Nat) (v10 v11:Int),Owp (bits_Div64.c1 k a1 a2 y5 n v10 v11) fun o=>LTriple PR (bits_Div64.cx k) (sub bits_Div64.code [1,1,1,1,1,1,1,1,1,1,1,1,1,1,0,0,0]) 0 (bits_Div64.c1p a0 a1 a2 y5 v10 v11) (bits_Div64.c1x o) (bits_Div64.c1n o) (bits_Div64.c1q a0 a1 a2 y5 o)
 | 0,_,_=>fun _ h=>nomatch h
 | n+1,v10,v11=>Owp.of (bits_Div64.c1.eq_2 ..) (
  oB fun o13 e14 =>
  oF (fun e15 =>
  oF (fun e16 =>
  oS (loop_exit (bits_Div64.cok k) hmix [.cutR 17 ⟨[],[],(bits_Div64.c2p a0 a1 a2 v10 v11 y5),0,.normal,(bits_Div64.c2q a0 a1 a2 v10 v11 y5 o13),0⟩,tT,tT] [] [] (exne 0) (via (cutP tv0 [] (bits_Div64.c2p a0 a1 a2 v10 v11 y5) (((bits_Div64.c2_ok k a0 a1 a2 v10 v11 y5).ap e14)) (finP (aI (aI tv0 e15) e16) (.exit 0) [] (bits_Div64.c1q a0 a1 a2 y5 (isub .u64 v10 (1:Int))))) (by kernel_rfl)))) (fun e16 =>
  fun y hy=>loop_back (bits_Div64.cok k) hmix 0 (bits_Div64.c1p a0 a1 a2 y5 (isub .u64 v10 (1:Int)) (iadd .u64 v11 (ishr .u64 (ishl .u64 a2 (icv .u64 y5)) (32:Int)))) [.cutR 17 ⟨[],[],(bits_Div64.c2p a0 a1 a2 v10 v11 y5),0,.normal,(bits_Div64.c2q a0 a1 a2 v10 v11 y5 o13),0⟩,tT,fF] [] [] (via (cutP tv0 [] (bits_Div64.c2p a0 a1 a2 v10 v11 y5) (((bits_Div64.c2_ok k a0 a1 a2 v10 v11 y5).ap e14)) (finP (aI (aI tv0 e15) e16) .normal [] (bits_Div64.c1p a0 a1 a2 y5 (isub .u64 v10 (1:Int)) (iadd .u64 v11 (ishr .u64 (ishl .u64 a2 (icv .u64 y5)) (32:Int)))))) (by kernel_rfl)) ((bits_Div64.c1_ok k a0 a1 a2 y5 n (isub .u64 v10 (1:Int)) (iadd .u64 v11 (ishr .u64 (ishl .u64 a2 (icv .u64 y5)) (32:Int)))).ap hy))) (fun e15 =>
  oS (loop_exit (bits_Div64.cok k) hmix [.cutR 17 ⟨[],[],(bits_Div64.c2p a0 a1 a2 v10 v11 y5),0,.normal,(bits_Div64.c2q a0 a1 a2 v10 v11 y5 o13),0⟩,fF] [] [] (exne 0) (via (cutP tv0 [] (bits_Div64.c2p a0 a1 a2 v10 v11 y5) (((bits_Div64.c2_ok k a0 a1 a2 v10 v11 y5).ap e14)) (finP (aI tv0 e15) (.exit 0) [] (bits_Div64.c1q a0 a1 a2 y5 v10))) (by kernel_rfl)))))
noncomputable def bits_Div64.c4p (a0 a1 a2 o17 v19 v20 y5:Int):SL:=⟨[(2,(.val T12 (ishl .u64 a2 (icv .u64 y5)))),(8,(.val T12 (icv .u64 y5))),(9,(.val T12 (ishr .u64 (ishl .u64 a2 (icv .u64 y5)) (32:Int)))),(10,(.val T12 (ibits .and .u64 (ishl .u64 a2 (icv .u64 y5)) (4294967295:Int)))),(14,(.val T12 (ibits .and .u64 (ishl .u64 a1 (icv .u64 y5)) (4294967295:Int)))),(15,(.val T12 o17)),(16,(.val T12 v19)),(17,(.val T12 (isub .u64 (iadd .u64 (imul .u64 (ibits .or .u64 (ishl .u64 a0 (icv .u64 y5)) (ishr .u64 a1 (isub .u64 (64:Int) (icv .u64 y5)))) (4294967296:Int)) (ishr .u64 (ishl .u64 a1 (icv .u64 y5)) (32:Int))) (imul .u64 o17 (ishl .u64 a2 (icv .u64 y5)))))),(18,(.val T12 v20))],[]⟩
noncomputable def bits_Div64.c4q (a0 a1 a2 o17 v19 v20 y5:Int) (o:Bool):SL:=(fun v=>⟨[(2,(.val T12 (ishl .u64 a2 (icv .u64 y5)))),(8,(.val T12 (icv .u64 y5))),(9,(.val T12 (ishr .u64 (ishl .u64 a2 (icv .u64 y5)) (32:Int)))),(10,(.val T12 (ibits .and .u64 (ishl .u64 a2 (icv .u64 y5)) (4294967295:Int)))),(14,(.val T12 (ibits .and .u64 (ishl .u64 a1 (icv .u64 y5)) (4294967295:Int)))),(15,(.val T12 o17)),(16,(.val T12 v19)),(17,(.val T12 (isub .u64 (iadd .u64 (imul .u64 (ibits .or .u64 (ishl .u64 a0 (icv .u64 y5)) (ishr .u64 a1 (isub .u64 (64:Int) (icv .u64 y5)))) (4294967296:Int)) (ishr .u64 (ishl .u64 a1 (icv .u64 y5)) (32:Int))) (imul .u64 o17 (ishl .u64 a2 (icv .u64 y5)))))),(18,(.val T12 v20)),(113,(.val T4 v))],[]⟩) o
noncomputable def bits_Div64.c4x (o:Bool):Ex:=(fun _=>.normal) o
noncomputable def bits_Div64.c4n (o:Bool):Nat:=(fun _=>0) o
theorem bits_Div64.c4_ok (k:Nat) (a0 a1 a2 o17 v19 v20 y5:Int):Owp (bits_Div64.c4 k a1 a2 v19 v20 y5) fun o=>Triple PR (bits_Div64.cx k) (sub bits_Div64.code [1,1,1,1,1,1,1,1,1,1,1,1,1,1,1,1,1,1,0,0,0,0,0]) 0 (bits_Div64.c4p a0 a1 a2 o17 v19 v20 y5) (bits_Div64.c4x o) (bits_Div64.c4n o) (bits_Div64.c4q a0 a1 a2 o17 v19 v20 y5 o):=by
 unfold bits_Div64.c4; exact
  oF (fun e21 =>
  oS (tW (bits_Div64.cok k) hmix [tT,tT,tT,tT,tT,tT,tT,tT,tT] [] [] (via (finP (aI (aI (aI (aI (aI (aI (aI (aI (aI tv0 e21) e21) e21) e21) e21) e21) e21) e21) e21) .normal [] (bits_Div64.c4q a0 a1 a2 o17 v19 v20 y5 true)) (by kernel_rfl)))) (fun e21 =>
  oS (tW (bits_Div64.cok k) hmix [fF,fF,fF,fF,fF,fF,fF,fF,fF] [] [] (via (finP (aI (aI (aI (aI (aI (aI (aI (aI (aI tv0 e21) e21) e21) e21) e21) e21) e21) e21) e21) .normal [] (bits_Div64.c4q a0 a1 a2 o17 v19 v20 y5 (igt (imul .u64 v20 (ibits .and .u64 (ishl .u64 a2 (icv .u64 y5)) (4294967295:Int))) (iadd .u64 (imul .u64 (4294967296:Int) v19) (ibits .and .u64 (ishl .u64 a1 (icv .u64 y5)) (4294967295:Int)))))) (by kernel_rfl))))
noncomputable def bits_Div64.c3p (a0 a1 a2 o17 y5 v19 v20:Int):SL:=⟨[(2,(.val T12 (ishl .u64 a2 (icv .u64 y5)))),(8,(.val T12 (icv .u64 y5))),(9,(.val T12 (ishr .u64 (ishl .u64 a2 (icv .u64 y5)) (32:Int)))),(10,(.val T12 (ibits .and .u64 (ishl .u64 a2 (icv .u64 y5)) (4294967295:Int)))),(14,(.val T12 (ibits .and .u64 (ishl .u64 a1 (icv .u64 y5)) (4294967295:Int)))),(15,(.val T12 o17)),(16,(.val T12 v19)),(17,(.val T12 (isub .u64 (iadd .u64 (imul .u64 (ibits .or .u64 (ishl .u64 a0 (icv .u64 y5)) (ishr .u64 a1 (isub .u64 (64:Int) (icv .u64 y5)))) (4294967296:Int)) (ishr .u64 (ishl .u64 a1 (icv .u64 y5)) (32:Int))) (imul .u64 o17 (ishl .u64 a2 (icv .u64 y5)))))),(18,(.val T12 v20))],[]⟩
noncomputable def bits_Div64.c3q (a0 a1 a2 o17 y5 o:Int):SL:=(fun v=>⟨[(2,(.val T12 (ishl .u64 a2 (icv .u64 y5)))),(8,(.val T12 (icv .u64 y5))),(14,(.val T12 (ibits .and .u64 (ishl .u64 a1 (icv .u64 y5)) (4294967295:Int)))),(15,(.val T12 o17)),(17,(.val T12 (isub .u64 (iadd .u64 (imul .u64 (ibits .or .u64 (ishl .u64 a0 (icv .u64 y5)) (ishr .u64 a1 (isub .u64 (64:Int) (icv .u64 y5)))) (4294967296:Int)) (ishr .u64 (ishl .u64 a1 (icv .u64 y5)) (32:Int))) (imul .u64 o17 (ishl .u64 a2 (icv .u64 y5)))))),(18,(.val T12 v))],[]⟩) o
noncomputable def bits_Div64.c3x (o:Int):Ex:=(fun _=>(.exit 2)) o
noncomputable def bits_Div64.c3n (o:Int):Nat:=(fun _=>0) o
theorem bits_Div64.c3_ok (k:Nat) (a0 a1 a2 o17 y5:Int):∀ (n:Nat) (v19 v20:Int),Owp (bits_Div64.c3 k a1 a2 y5 n v19 v20) fun o=>LTriple PR (bits_Div64.cx k) (sub bits_Div64.code [1,1,1,1,1,1,1,1,1,1,1,1,1,1,1,1,1,1,0,0,0]) 0 (bits_Div64.c3p a0 a1 a2 o17 y5 v19 v20) (bits_Div64.c3x o) (bits_Div64.c3n o) (bits_Div64.c3q a0 a1 a2 o17 y5 o)
 | 0,_,_=>fun _ h=>nomatch h
 | n+1,v19,v20=>Owp.of (bits_Div64.c3.eq_2 ..) (
  oB fun o22 e23 =>
  oF (fun e24 =>
  oF (fun e25 =>
  oS (loop_exit (bits_Div64.cok k) hmix [.cutR 24 ⟨[],[],(bits_Div64.c4p a0 a1 a2 o17 v19 v20 y5),0,.normal,(bits_Div64.c4q a0 a1 a2 o17 v19 v20 y5 o22),0⟩,tT,tT] [] [] (exne 2) (via (cutP tv0 [] (bits_Div64.c4p a0 a1 a2 o17 v19 v20 y5) (((bits_Div64.c4_ok k a0 a1 a2 o17 v19 v20 y5).ap e23)) (finP (aI (aI tv0 e24) e25) (.exit 2) [] (bits_Div64.c3q a0 a1 a2 o17 y5 (isub .u64 v20 (1:Int))))) (by kernel_rfl)))) (fun e25 =>
  fun y hy=>loop_back (bits_Div64.cok k) hmix 0 (bits_Div64.c3p a0 a1 a2 o17 y5 (iadd .u64 v19 (ishr .u64 (ishl .u64 a2 (icv .u64 y5)) (32:Int))) (isub .u64 v20 (1:Int))) [.cutR 24 ⟨[],[],(bits_Div64.c4p a0 a1 a2 o17 v19 v20 y5),0,.normal,(bits_Div64.c4q a0 a1 a2 o17 v19 v20 y5 o22),0⟩,tT,fF] [] [] (via (cutP tv0 [] (bits_Div64.c4p a0 a1 a2 o17 v19 v20 y5) (((bits_Div64.c4_ok k a0 a1 a2 o17 v19 v20 y5).ap e23)) (finP (aI (aI tv0 e24) e25) .normal [] (bits_Div64.c3p a0 a1 a2 o17 y5 (iadd .u64 v19 (ishr .u64 (ishl .u64 a2 (icv .u64 y5)) (32:Int))) (isub .u64 v20 (1:Int))))) (by kernel_rfl)) ((bits_Div64.c3_ok k a0 a1 a2 o17 y5 n (iadd .u64 v19 (ishr .u64 (ishl .u64 a2 (icv .u64 y5)) (32:Int))) (isub .u64 v20 (1:Int))).ap hy))) (fun e24 =>
  oS (loop_exit (bits_Div64.cok k) hmix [.cutR 24 ⟨[],[],(bits_Div64.c4p a0 a1 a2 o17 v19 v20 y5),0,.normal,(bits_Div64.c4q a0 a1 a2 o17 v19 v20 y5 o22),0⟩,fF] [] [] (exne 2) (via (cutP tv0 [] (bits_Div64.c4p a0 a1 a2 o17 v19 v20 y5) (((bits_Div64.c4_ok k a0 a1 a2 o17 v19 v20 y5).ap e23)) (finP (aI tv0 e24) (.exit 2) [] (bits_Div64.c3q a0 a1 a2 o17 y5 v20))) (by kernel_rfl)))))
theorem bits_Div64.way (k:Nat) (a0 a1 a2:Int):Owp (bits_Div64 k a0 a1 a2) fun y=>∃ w c0,exec PR (bits_Div64.cx k) bits_Div64.code 0 (entry (.pair T12 (.pair T12 (.pair T12 .unit))) (a0,a1,a2,())).st w (Ret (bits_Div64.cx k) Tryz.f142 c0 (.more (.dp T12) (.one (.dp T12))) y):=by
 unfold bits_Div64; exact
  oF (fun e1 =>
  Owp.none) (fun e1 =>
  oF (fun e2 =>
  Owp.none) (fun e2 =>
  oF (fun e3 =>
  oR fun h4 =>
  oS (⟨[fF,fF,tT],[],via (retP (aI (aI (aI (aI (aI tv0 e1) e2) e3) h4) h4) (.more (.dp T12) (.one (.dp T12))) (((iquo .u64 a1 a2),(irem a1 a2)):(Int × Int))) (by kernel_rfl)⟩)) (fun e3 =>
  oB fun y5 e6 =>
  oR fun h7 =>
  oR fun h8 =>
  oR fun h9 =>
  oB fun o17 e18 =>
  oB fun o26 e27 =>
  oS (⟨[fF,fF,fF,rS T2 y5,.cut ⟨[],[],(bits_Div64.c1p a0 a1 a2 y5 (iquo .u64 (ibits .or .u64 (ishl .u64 a0 (icv .u64 y5)) (ishr .u64 a1 (isub .u64 (64:Int) (icv .u64 y5)))) (ishr .u64 (ishl .u64 a2 (icv .u64 y5)) (32:Int))) (isub .u64 (ibits .or .u64 (ishl .u64 a0 (icv .u64 y5)) (ishr .u64 a1 (isub .u64 (64:Int) (icv .u64 y5)))) (imul .u64 (iquo .u64 (ibits .or .u64 (ishl .u64 a0 (icv .u64 y5)) (ishr .u64 a1 (isub .u64 (64:Int) (icv .u64 y5)))) (ishr .u64 (ishl .u64 a2 (icv .u64 y5)) (32:Int))) (ishr .u64 (ishl .u64 a2 (icv .u64 y5)) (32:Int))))),0,(.exit 0),(bits_Div64.c1q a0 a1 a2 y5 o17),0⟩,.cut ⟨[],[],(bits_Div64.c3p a0 a1 a2 o17 y5 (isub .u64 (isub .u64 (iadd .u64 (imul .u64 (ibits .or .u64 (ishl .u64 a0 (icv .u64 y5)) (ishr .u64 a1 (isub .u64 (64:Int) (icv .u64 y5)))) (4294967296:Int)) (ishr .u64 (ishl .u64 a1 (icv .u64 y5)) (32:Int))) (imul .u64 o17 (ishl .u64 a2 (icv .u64 y5)))) (imul .u64 (iquo .u64 (isub .u64 (iadd .u64 (imul .u64 (ibits .or .u64 (ishl .u64 a0 (icv .u64 y5)) (ishr .u64 a1 (isub .u64 (64:Int) (icv .u64 y5)))) (4294967296:Int)) (ishr .u64 (ishl .u64 a1 (icv .u64 y5)) (32:Int))) (imul .u64 o17 (ishl .u64 a2 (icv .u64 y5)))) (ishr .u64 (ishl .u64 a2 (icv .u64 y5)) (32:Int))) (ishr .u64 (ishl .u64 a2 (icv .u64 y5)) (32:Int)))) (iquo .u64 (isub .u64 (iadd .u64 (imul .u64 (ibits .or .u64 (ishl .u64 a0 (icv .u64 y5)) (ishr .u64 a1 (isub .u64 (64:Int) (icv .u64 y5)))) (4294967296:Int)) (ishr .u64 (ishl .u64 a1 (icv .u64 y5)) (32:Int))) (imul .u64 o17 (ishl .u64 a2 (icv .u64 y5)))) (ishr .u64 (ishl .u64 a2 (icv .u64 y5)) (32:Int)))),0,(.exit 2),(bits_Div64.c3q a0 a1 a2 o17 y5 o26),0⟩],[],via (cutP (aI (aI (aI (aI (aI (aI (aI (aI (aI (aI (aI tv0 e1) e2) e3) e6) h7) (by decide:ng (32:Int))) h7) h8) h7) (by decide:ng (32:Int))) h9) [] (bits_Div64.c1p a0 a1 a2 y5 (iquo .u64 (ibits .or .u64 (ishl .u64 a0 (icv .u64 y5)) (ishr .u64 a1 (isub .u64 (64:Int) (icv .u64 y5)))) (ishr .u64 (ishl .u64 a2 (icv .u64 y5)) (32:Int))) (isub .u64 (ibits .or .u64 (ishl .u64 a0 (icv .u64 y5)) (ishr .u64 a1 (isub .u64 (64:Int) (icv .u64 y5)))) (imul .u64 (iquo .u64 (ibits .or .u64 (ishl .u64 a0 (icv .u64 y5)) (ishr .u64 a1 (isub .u64 (64:Int) (icv .u64 y5)))) (ishr .u64 (ishl .u64 a2 (icv .u64 y5)) (32:Int))) (ishr .u64 (ishl .u64 a2 (icv .u64 y5)) (32:Int))))) (((bits_Div64.c1_ok k a0 a1 a2 y5 k (iquo .u64 (ibits .or .u64 (ishl .u64 a0 (icv .u64 y5)) (ishr .u64 a1 (isub .u64 (64:Int) (icv .u64 y5)))) (ishr .u64 (ishl .u64 a2 (icv .u64 y5)) (32:Int))) (isub .u64 (ibits .or .u64 (ishl .u64 a0 (icv .u64 y5)) (ishr .u64 a1 (isub .u64 (64:Int) (icv .u64 y5)))) (imul .u64 (iquo .u64 (ibits .or .u64 (ishl .u64 a0 (icv .u64 y5)) (ishr .u64 a1 (isub .u64 (64:Int) (icv .u64 y5)))) (ishr .u64 (ishl .u64 a2 (icv .u64 y5)) (32:Int))) (ishr .u64 (ishl .u64 a2 (icv .u64 y5)) (32:Int))))).ap e18).triple) (cutP (aI tv0 h9) [] (bits_Div64.c3p a0 a1 a2 o17 y5 (isub .u64 (isub .u64 (iadd .u64 (imul .u64 (ibits .or .u64 (ishl .u64 a0 (icv .u64 y5)) (ishr .u64 a1 (isub .u64 (64:Int) (icv .u64 y5)))) (4294967296:Int)) (ishr .u64 (ishl .u64 a1 (icv .u64 y5)) (32:Int))) (imul .u64 o17 (ishl .u64 a2 (icv .u64 y5)))) (imul .u64 (iquo .u64 (isub .u64 (iadd .u64 (imul .u64 (ibits .or .u64 (ishl .u64 a0 (icv .u64 y5)) (ishr .u64 a1 (isub .u64 (64:Int) (icv .u64 y5)))) (4294967296:Int)) (ishr .u64 (ishl .u64 a1 (icv .u64 y5)) (32:Int))) (imul .u64 o17 (ishl .u64 a2 (icv .u64 y5)))) (ishr .u64 (ishl .u64 a2 (icv .u64 y5)) (32:Int))) (ishr .u64 (ishl .u64 a2 (icv .u64 y5)) (32:Int)))) (iquo .u64 (isub .u64 (iadd .u64 (imul .u64 (ibits .or .u64 (ishl .u64 a0 (icv .u64 y5)) (ishr .u64 a1 (isub .u64 (64:Int) (icv .u64 y5)))) (4294967296:Int)) (ishr .u64 (ishl .u64 a1 (icv .u64 y5)) (32:Int))) (imul .u64 o17 (ishl .u64 a2 (icv .u64 y5)))) (ishr .u64 (ishl .u64 a2 (icv .u64 y5)) (32:Int)))) (((bits_Div64.c3_ok k a0 a1 a2 o17 y5 k (isub .u64 (isub .u64 (iadd .u64 (imul .u64 (ibits .or .u64 (ishl .u64 a0 (icv .u64 y5)) (ishr .u64 a1 (isub .u64 (64:Int) (icv .u64 y5)))) (4294967296:Int)) (ishr .u64 (ishl .u64 a1 (icv .u64 y5)) (32:Int))) (imul .u64 o17 (ishl .u64 a2 (icv .u64 y5)))) (imul .u64 (iquo .u64 (isub .u64 (iadd .u64 (imul .u64 (ibits .or .u64 (ishl .u64 a0 (icv .u64 y5)) (ishr .u64 a1 (isub .u64 (64:Int) (icv .u64 y5)))) (4294967296:Int)) (ishr .u64 (ishl .u64 a1 (icv .u64 y5)) (32:Int))) (imul .u64 o17 (ishl .u64 a2 (icv .u64 y5)))) (ishr .u64 (ishl .u64 a2 (icv .u64 y5)) (32:Int))) (ishr .u64 (ishl .u64 a2 (icv .u64 y5)) (32:Int)))) (iquo .u64 (isub .u64 (iadd .u64 (imul .u64 (ibits .or .u64 (ishl .u64 a0 (icv .u64 y5)) (ishr .u64 a1 (isub .u64 (64:Int) (icv .u64 y5)))) (4294967296:Int)) (ishr .u64 (ishl .u64 a1 (icv .u64 y5)) (32:Int))) (imul .u64 o17 (ishl .u64 a2 (icv .u64 y5)))) (ishr .u64 (ishl .u64 a2 (icv .u64 y5)) (32:Int)))).ap e27).triple) (retP (aI tv0 h7) (.more (.dp T12) (.one (.dp T12))) (((iadd .u64 (imul .u64 o17 (4294967296:Int)) o26),(ishr .u64 (isub .u64 (iadd .u64 (imul .u64 (isub .u64 (iadd .u64 (imul .u64 (ibits .or .u64 (ishl .u64 a0 (icv .u64 y5)) (ishr .u64 a1 (isub .u64 (64:Int) (icv .u64 y5)))) (4294967296:Int)) (ishr .u64 (ishl .u64 a1 (icv .u64 y5)) (32:Int))) (imul .u64 o17 (ishl .u64 a2 (icv .u64 y5)))) (4294967296:Int)) (ibits .and .u64 (ishl .u64 a1 (icv .u64 y5)) (4294967295:Int))) (imul .u64 o26 (ishl .u64 a2 (icv .u64 y5)))) (icv .u64 y5))):(Int × Int))))) (by kernel_rfl)⟩))))
theorem bits_Div64.ok (k:Nat):FnOk PR 142 (bits_Div64.sp k) :=
 fn_ok (bits_Div64.cok k) hmix Tryz.func142 (code:=bits_Div64.code) (by kernel_rfl) (by kernel_rfl) (by kernel_rfl) rfl rfl (by kernel_rfl) (by kernel_rfl) (by kernel_rfl) (fun x=>Nat.le_of_ble_eq_true (by kernel_rfl)) fun x y hy=>(bits_Div64.way k x.1 x.2.1 x.2.2.1).ap hy
end Go.Proofs.T1
