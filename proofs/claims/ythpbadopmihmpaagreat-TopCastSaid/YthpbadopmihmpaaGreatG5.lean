import Derived.Test.YthpbadopmihmpaaGreatG0
import Derived.Test.YthpbadopmihmpaaGreatG1
import Derived.Test.YthpbadopmihmpaaGreatG2
namespace Go.Proofs.T1
open Go Go.Sx Go.Proofs
set_option maxRecDepth 100000
set_option linter.unusedVariables false
noncomputable def body_within.code:Code:=Func.cd Tryz.f53
def body_within (k:Nat) (a0:V26) (a1:Int):Option Bool :=
 bif' (ige a0.1 (ineg .i64 a1))
 (bif' (ile a0.1 a1)
  (bif' (ige a0.2.1 (ineg .i64 a1))
  (some (ile a0.2.1 a1))
  (some false))
  (some false))
 (some false)
noncomputable def body_within.sp (k:Nat):Go.Sx.Spec:=⟨(.pair T26 (.pair T2 .unit)),(.one (.dp T4)),fun x=>body_within k x.1 x.2.1,false⟩
noncomputable def body_within.cx (k:Nat):Go.Sx.Ctx:=⟨tys,[],eqs,29,0,[],false⟩
theorem body_within.cok (k:Nat):CtxOk PR (body_within.cx k):=ctx_ok tysOk eqsOk FnsOk.nil HsOk.nil
theorem body_within.way (k:Nat) (a0:V26) (a1:Int):Owp (body_within k a0 a1) fun y=>∃ w c0,exec PR (body_within.cx k) body_within.code 0 (entry (.pair T26 (.pair T2 .unit)) (a0,a1,())).st w (Ret (body_within.cx k) Tryz.f53 c0 (.one (.dp T4)) y):=by
 unfold body_within; exact
  oF (fun e1 =>
  oF (fun e2 =>
  oF (fun e3 =>
  oS (⟨[tT,tT,tT,tT,tT,tT,tT,tT,tT,tT,tT,tT,tT,tT,tT,tT],[],via (retP (aI (aI (aI (aI (aI (aI (aI (aI (aI (aI (aI (aI (aI (aI (aI (aI tv0 e1) e1) e1) e1) e1) e2) e2) e2) e2) e2) e2) e3) e3) e3) e3) e3) (.one (.dp T4)) ((ile a0.2.1 a1):Bool)) (by kernel_rfl)⟩)) (fun e3 =>
  oS (⟨[tT,tT,tT,tT,tT,tT,tT,tT,tT,tT,tT,fF,fF,fF,fF,fF],[],via (retP (aI (aI (aI (aI (aI (aI (aI (aI (aI (aI (aI (aI (aI (aI (aI (aI tv0 e1) e1) e1) e1) e1) e2) e2) e2) e2) e2) e2) e3) e3) e3) e3) e3) (.one (.dp T4)) (false:Bool)) (by kernel_rfl)⟩))) (fun e2 =>
  oS (⟨[tT,tT,tT,tT,tT,fF,fF,fF,fF,fF,fF,fF,fF,fF,fF,fF],[],via (retP (aI (aI (aI (aI (aI (aI (aI (aI (aI (aI (aI (aI (aI (aI (aI (aI tv0 e1) e1) e1) e1) e1) e2) e2) e2) e2) e2) e2) ff) ff) ff) ff) ff) (.one (.dp T4)) (false:Bool)) (by kernel_rfl)⟩))) (fun e1 =>
  oS (⟨[fF,fF,fF,fF,fF,fF,fF,fF,fF,fF,fF,fF,fF,fF,fF,fF],[],via (retP (aI (aI (aI (aI (aI (aI (aI (aI (aI (aI (aI (aI (aI (aI (aI (aI tv0 e1) e1) e1) e1) e1) ff) ff) ff) ff) ff) ff) ff) ff) ff) ff) ff) (.one (.dp T4)) (false:Bool)) (by kernel_rfl)⟩))
theorem body_within.ok (k:Nat):FnOk PR 53 (body_within.sp k) :=
 fn_ok (body_within.cok k) hmix Tryz.func53 (code:=body_within.code) (by kernel_rfl) (by kernel_rfl) (by kernel_rfl) rfl rfl (by kernel_rfl) (by kernel_rfl) (by kernel_rfl) (fun x=>Nat.le_of_ble_eq_true (by kernel_rfl)) fun x y hy=>(body_within.way k x.1 x.2.1).ap hy
noncomputable def body_shape_1.code:Code:=Func.cd Tryz.f93
def body_shape_1 (k:Nat) (a0:V26):Option Bool :=
 bnd (body_within k a0 2097152) fun y1 =>
 some (!y1)
noncomputable def body_shape_1.sp (k:Nat):Go.Sx.Spec:=⟨(.pair T26 .unit),(.one (.dp T4)),fun x=>body_shape_1 k x.1,false⟩
noncomputable def body_shape_1.cx (k:Nat):Go.Sx.Ctx:=⟨tys,[(53,body_within.sp k)],eqs,6,0,[],false⟩
theorem body_shape_1.cok (k:Nat):CtxOk PR (body_shape_1.cx k):=ctx_ok tysOk eqsOk (fC (body_within.ok k) FnsOk.nil) HsOk.nil
theorem body_shape_1.way (k:Nat) (a0:V26):Owp (body_shape_1 k a0) fun y=>∃ w c0,exec PR (body_shape_1.cx k) body_shape_1.code 0 (entry (.pair T26 .unit) (a0,())).st w (Ret (body_shape_1.cx k) Tryz.f93 c0 (.one (.dp T4)) y):=by
 unfold body_shape_1; exact
  oB fun y1 e2 =>
  oS (⟨[rS T4 y1],[],via (retP (aI tv0 e2) (.one (.dp T4)) ((!y1):Bool)) (by kernel_rfl)⟩)
theorem body_shape_1.ok (k:Nat):FnOk PR 93 (body_shape_1.sp k) :=
 fn_ok (body_shape_1.cok k) hmix Tryz.func93 (code:=body_shape_1.code) (by kernel_rfl) (by kernel_rfl) (by kernel_rfl) rfl rfl (by kernel_rfl) (by kernel_rfl) (by kernel_rfl) (fun x=>Nat.le_of_ble_eq_true (by kernel_rfl)) fun x y hy=>(body_shape_1.way k x.1).ap hy
noncomputable def body_size.code:Code:=Func.cd Tryz.f145
def body_size (k:Nat) (a0:V26):Option Int :=
 some (iadd .i64 (imax a0.1 (ineg .i64 a0.1)) (imax a0.2.1 (ineg .i64 a0.2.1)))
noncomputable def body_size.sp (k:Nat):Go.Sx.Spec:=⟨(.pair T26 .unit),(.one (.dp T2)),fun x=>body_size k x.1,false⟩
noncomputable def body_size.cx (k:Nat):Go.Sx.Ctx:=⟨tys,[],eqs,16,0,[],false⟩
theorem body_size.cok (k:Nat):CtxOk PR (body_size.cx k):=ctx_ok tysOk eqsOk FnsOk.nil HsOk.nil
theorem body_size.way (k:Nat) (a0:V26):Owp (body_size k a0) fun y=>∃ w c0,exec PR (body_size.cx k) body_size.code 0 (entry (.pair T26 .unit) (a0,())).st w (Ret (body_size.cx k) Tryz.f145 c0 (.one (.dp T2)) y):=by
 unfold body_size; exact
  oS (⟨[],[],via (retP tv0 (.one (.dp T2)) ((iadd .i64 (imax a0.1 (ineg .i64 a0.1)) (imax a0.2.1 (ineg .i64 a0.2.1))):Int)) (by kernel_rfl)⟩)
theorem body_size.ok (k:Nat):FnOk PR 145 (body_size.sp k) :=
 fn_ok (body_size.cok k) hmix Tryz.func145 (code:=body_size.code) (by kernel_rfl) (by kernel_rfl) (by kernel_rfl) rfl rfl (by kernel_rfl) (by kernel_rfl) (by kernel_rfl) (fun x=>Nat.le_of_ble_eq_true (by kernel_rfl)) fun x y hy=>(body_size.way k x.1).ap hy
noncomputable def body_fat.code:Code:=Func.cd Tryz.f94
def body_fat.c3 (k:Nat) (a0:(List V26)) (v1 v6:Int):Option (Bool) :=
 bif' (ine v6 v1)
 (req (nz (len a0)) <|bif' (ine v6 (irem (iadd .i64 v1 1) (len a0)))
  (bnd (body_size k ((isub .i64 (el Z26 a0 (irem (iadd .i64 v1 1) (len a0))).1 (el Z26 a0 v1).1),(isub .i64 (el Z26 a0 (irem (iadd .i64 v1 1) (len a0))).2.1 (el Z26 a0 v1).2.1),())) fun y12 =>
  bnd (body_size k ((isub .i64 (el Z26 a0 v6).1 (el Z26 a0 v1).1),(isub .i64 (el Z26 a0 v6).2.1 (el Z26 a0 v1).2.1),())) fun y14 =>
  some (ilt (isub .i64 (imul .i64 (isub .i64 (el Z26 a0 (irem (iadd .i64 v1 1) (len a0))).1 (el Z26 a0 v1).1) (isub .i64 (el Z26 a0 v6).2.1 (el Z26 a0 v1).2.1)) (imul .i64 (isub .i64 (el Z26 a0 (irem (iadd .i64 v1 1) (len a0))).2.1 (el Z26 a0 v1).2.1) (isub .i64 (el Z26 a0 v6).1 (el Z26 a0 v1).1))) (imul .i64 8 (iadd .i64 y12 y14))))
  (some false))
 (some false)
def body_fat.c2 (k:Nat) (a0:(List V26)) (v1:Int):Nat→Int→Option (Unit ⊕ Unit)
 | 0,_=>none
 | n+1,v6 =>
  bif' (ilt v6 (len a0))
  (req (inL v6 a0) <|bnd (body_fat.c3 k a0 v1 v6) fun o16 =>
  bif' o16
  (some (.inl ()))
  (body_fat.c2 k a0 v1 n (iadd .i64 v6 1)))
  (some (.inr ()))
def body_fat.c1 (k:Nat) (a0:(List V26)):Nat→Int→Option (Unit ⊕ Unit)
 | 0,_=>none
 | n+1,v1 =>
  bif' (ilt v1 (len a0))
  (req (inL v1 a0) <|req (nz (len a0)) <|req (inL (irem (iadd .i64 v1 1) (len a0)) a0) <|bnd (body_fat.c2 k a0 v1 k 0) fun o19 =>
  two o19 (fun y21 =>
  some (.inl ())) (fun y23 =>
  body_fat.c1 k a0 n (iadd .i64 v1 1)))
  (some (.inr ()))
def body_fat (k:Nat) (a0:(List V26)):Option Bool :=
 bnd (body_fat.c1 k a0 k 0) fun o25 =>
 two o25 (fun y27 =>
 some false) (fun y29 =>
 some true)
noncomputable def body_fat.sp (k:Nat):Go.Sx.Spec:=⟨(.pair T36 .unit),(.one (.dp T4)),fun x=>body_fat k x.1,false⟩
noncomputable def body_fat.cx (k:Nat):Go.Sx.Ctx:=⟨tys,[(145,body_size.sp k)],eqs,88,0,[],false⟩
theorem body_fat.cok (k:Nat):CtxOk PR (body_fat.cx k):=ctx_ok tysOk eqsOk (fC (body_size.ok k) FnsOk.nil) HsOk.nil
noncomputable def body_fat.c3p (a0:(List V26)) (v1 v6:Int):SL:=⟨[(0,(.val T36 a0)),(3,(.val T2 v1)),(4,(.val .ptr ⟨0,0,(0:Int),0,0⟩)),(6,(.val .ptr ⟨1,0,(0:Int),0,0⟩)),(7,(.val T2 v6)),(9,(.val .ptr ⟨2,0,(0:Int),0,0⟩)),(10,(.val T36 a0)),(11,(.val T2 (len a0))),(12,(.val T2 v1)),(36,(.val T36 a0)),(37,(.val T2 (len a0))),(38,(.val T2 v6))],[(0,.cells T26 (el Z26 a0 v1)),(1,.cells T26 ((isub .i64 (el Z26 a0 (irem (iadd .i64 v1 (1:Int)) (len a0))).1 (el Z26 a0 v1).1),(isub .i64 (el Z26 a0 (irem (iadd .i64 v1 (1:Int)) (len a0))).2.1 (el Z26 a0 v1).2.1),())),(2,.cells T26 ((isub .i64 (el Z26 a0 v6).1 (el Z26 a0 v1).1),(isub .i64 (el Z26 a0 v6).2.1 (el Z26 a0 v1).2.1),()))]⟩
noncomputable def body_fat.c3q (a0:(List V26)) (v1 v6:Int) (o:Bool):SL:=(fun v=>⟨[(0,(.val T36 a0)),(3,(.val T2 v1)),(4,(.val .ptr ⟨0,0,(0:Int),0,0⟩)),(6,(.val .ptr ⟨1,0,(0:Int),0,0⟩)),(10,(.val T36 a0)),(11,(.val T2 (len a0))),(12,(.val T2 v1)),(36,(.val T36 a0)),(37,(.val T2 (len a0))),(38,(.val T2 v6)),(85,(.val T4 v))],[(0,.cells T26 (el Z26 a0 v1)),(1,.cells T26 ((isub .i64 (el Z26 a0 (irem (iadd .i64 v1 (1:Int)) (len a0))).1 (el Z26 a0 v1).1),(isub .i64 (el Z26 a0 (irem (iadd .i64 v1 (1:Int)) (len a0))).2.1 (el Z26 a0 v1).2.1),()))]⟩) o
noncomputable def body_fat.c3x (o:Bool):Ex:=(fun _=>.normal) o
noncomputable def body_fat.c3n (o:Bool):Nat:=(fun _=>2) o
theorem body_fat.c3_ok (k:Nat) (a0:(List V26)) (v1 v6:Int):Owp (body_fat.c3 k a0 v1 v6) fun o=>Triple PR (body_fat.cx k) (sub body_fat.code [1,0,1,0,0,1,1,0,0,1,1,1,1,0,0,1,1,0,0,1,1,0]) 3 (body_fat.c3p a0 v1 v6) (body_fat.c3x o) (body_fat.c3n o) (body_fat.c3q a0 v1 v6 o):=by
 unfold body_fat.c3; exact
  oF (fun e9 =>
  oR fun h10 =>
  oF (fun e11 =>
  oB fun y12 e13 =>
  oB fun y14 e15 =>
  oS (tW (body_fat.cok k) hmix [tT,tT,tT,tT,tT,tT,tT,tT,tT,tT,tT,tT,tT,tT,tT,tT,tT,tT,tT,tT,tT,rS T2 y12,tT,tT,rS T2 y14,tT,tT,tT,tT] [] [(0,0),(1,1)] (via (finP (aI (aI (aI (aI (aI (aI (aI (aI (aI (aI (aI (aI (aI (aI (aI (aI (aI (aI (aI (aI (aI (aI (aI (aI (aI (aI (aI tv0 e9) e9) e9) e9) e9) (aI e9 h10)) e9) e9) e11) e11) e11) e11) e11) e11) e11) e11) e11) e11) e11) e11) (aI e11 e13)) e11) (aI e11 e15)) e11) e11) e11) e11) .normal [(0,0),(1,1)] (body_fat.c3q a0 v1 v6 (ilt (isub .i64 (imul .i64 (isub .i64 (el Z26 a0 (irem (iadd .i64 v1 (1:Int)) (len a0))).1 (el Z26 a0 v1).1) (isub .i64 (el Z26 a0 v6).2.1 (el Z26 a0 v1).2.1)) (imul .i64 (isub .i64 (el Z26 a0 (irem (iadd .i64 v1 (1:Int)) (len a0))).2.1 (el Z26 a0 v1).2.1) (isub .i64 (el Z26 a0 v6).1 (el Z26 a0 v1).1))) (imul .i64 (8:Int) (iadd .i64 y12 y14))))) (by kernel_rfl)))) (fun e11 =>
  oS (tW (body_fat.cok k) hmix [tT,tT,tT,tT,tT,tT,tT,tT,fF,fF,fF,fF,fF,fF,fF,fF,fF,fF,fF,fF,fF,tT,fF,fF,tT,fF,fF,fF,fF] [] [(0,0),(1,1)] (via (finP (aI (aI (aI (aI (aI (aI (aI (aI (aI (aI (aI (aI (aI (aI (aI (aI (aI (aI (aI (aI (aI (aI (aI (aI (aI (aI (aI tv0 e9) e9) e9) e9) e9) (aI e9 h10)) e9) e9) e11) e11) e11) e11) e11) e11) e11) e11) e11) e11) e11) e11) e11) e11) e11) e11) e11) e11) e11) .normal [(0,0),(1,1)] (body_fat.c3q a0 v1 v6 false)) (by kernel_rfl))))) (fun e9 =>
  oS (tW (body_fat.cok k) hmix [fF,fF,fF,fF,fF,fF,fF,fF,fF,fF,fF,fF,fF,fF,fF,fF,fF,fF,fF,fF,fF,tT,fF,fF,tT,fF,fF,fF,fF] [] [(0,0),(1,1)] (via (finP (aI (aI (aI (aI (aI (aI (aI (aI (aI (aI (aI (aI (aI (aI (aI (aI (aI (aI (aI (aI (aI (aI (aI (aI (aI (aI (aI tv0 e9) e9) e9) e9) e9) e9) e9) e9) ff) ff) ff) ff) ff) ff) ff) ff) ff) ff) ff) ff) ff) ff) ff) ff) ff) ff) ff) .normal [(0,0),(1,1)] (body_fat.c3q a0 v1 v6 false)) (by kernel_rfl))))
noncomputable def body_fat.c2p (a0:(List V26)) (v1 v6:Int):SL:=⟨[(0,(.val T36 a0)),(3,(.val T2 v1)),(4,(.val .ptr ⟨0,0,(0:Int),0,0⟩)),(6,(.val .ptr ⟨1,0,(0:Int),0,0⟩)),(10,(.val T36 a0)),(11,(.val T2 (len a0))),(12,(.val T2 v1)),(36,(.val T36 a0)),(37,(.val T2 (len a0))),(38,(.val T2 v6))],[(0,.cells T26 (el Z26 a0 v1)),(1,.cells T26 ((isub .i64 (el Z26 a0 (irem (iadd .i64 v1 (1:Int)) (len a0))).1 (el Z26 a0 v1).1),(isub .i64 (el Z26 a0 (irem (iadd .i64 v1 (1:Int)) (len a0))).2.1 (el Z26 a0 v1).2.1),()))]⟩
noncomputable def body_fat.c2q (a0:(List V26)) (v1:Int) (o:Unit ⊕ Unit):SL:=(fun o=>two o (fun v=>⟨[(2,(.val T4 false))],[]⟩) (fun v=>⟨[(0,(.val T36 a0)),(10,(.val T36 a0)),(11,(.val T2 (len a0))),(12,(.val T2 v1))],[]⟩)) o
noncomputable def body_fat.c2x (o:Unit ⊕ Unit):Ex:=(fun o=>two o (fun _=>.ret) (fun _=>(.exit 2))) o
noncomputable def body_fat.c2n (o:Unit ⊕ Unit):Nat:=(fun o=>two o (fun _=>0) (fun _=>0)) o
theorem body_fat.c2_ok (k:Nat) (a0:(List V26)) (v1:Int):∀ (n:Nat) (v6:Int),Owp (body_fat.c2 k a0 v1 n v6) fun o=>LTriple PR (body_fat.cx k) (sub body_fat.code [1,0,1,0,0,1,1,0,0,1,1,1,1,0,0]) 2 (body_fat.c2p a0 v1 v6) (body_fat.c2x o) (body_fat.c2n o) (body_fat.c2q a0 v1 o)
 | 0,_=>fun _ h=>nomatch h
 | n+1,v6=>Owp.of (body_fat.c2.eq_2 ..) (
  oF (fun e7 =>
  oR fun h8 =>
  oB fun o16 e17 =>
  oF (fun e18 =>
  oS (loop_exit (body_fat.cok k) hmix [tT,.cutR 10 ⟨[],[(0,0),(1,1),(2,20)],(body_fat.c3p a0 v1 v6),3,.normal,(body_fat.c3q a0 v1 v6 o16),2⟩,tT] [] [] exne_ret (via (cutP (aI (aI tv0 e7) h8) [(0,0),(1,1),(2,20)] (body_fat.c3p a0 v1 v6) (((body_fat.c3_ok k a0 v1 v6).ap e17)) (finP (aI tv0 e18) .ret [] (body_fat.c2q a0 v1 (.inl ())))) (by kernel_rfl)))) (fun e18 =>
  fun y hy=>loop_back (body_fat.cok k) hmix 2 (body_fat.c2p a0 v1 (iadd .i64 v6 (1:Int))) [tT,.cutR 10 ⟨[],[(0,0),(1,1),(2,20)],(body_fat.c3p a0 v1 v6),3,.normal,(body_fat.c3q a0 v1 v6 o16),2⟩,fF] [] [(0,0),(1,1)] (via (cutP (aI (aI tv0 e7) h8) [(0,0),(1,1),(2,20)] (body_fat.c3p a0 v1 v6) (((body_fat.c3_ok k a0 v1 v6).ap e17)) (finP (aI tv0 e18) .normal [(0,0),(1,1)] (body_fat.c2p a0 v1 (iadd .i64 v6 (1:Int))))) (by kernel_rfl)) ((body_fat.c2_ok k a0 v1 n (iadd .i64 v6 (1:Int))).ap hy))) (fun e7 =>
  oS (loop_exit (body_fat.cok k) hmix [fF] [] [] (exne 2) (via (finP (aI tv0 e7) (.exit 2) [] (body_fat.c2q a0 v1 (.inr ()))) (by kernel_rfl)))))
noncomputable def body_fat.c1p (a0:(List V26)) (v1:Int):SL:=⟨[(0,(.val T36 a0)),(10,(.val T36 a0)),(11,(.val T2 (len a0))),(12,(.val T2 v1))],[]⟩
noncomputable def body_fat.c1q (o:Unit ⊕ Unit):SL:=(fun o=>two o (fun v=>⟨[(2,(.val T4 false))],[]⟩) (fun v=>⟨[],[]⟩)) o
noncomputable def body_fat.c1x (o:Unit ⊕ Unit):Ex:=(fun o=>two o (fun _=>.ret) (fun _=>(.exit 0))) o
noncomputable def body_fat.c1n (o:Unit ⊕ Unit):Nat:=(fun o=>two o (fun _=>0) (fun _=>0)) o
theorem body_fat.c1_ok (k:Nat) (a0:(List V26)):∀ (n:Nat) (v1:Int),Owp (body_fat.c1 k a0 n v1) fun o=>LTriple PR (body_fat.cx k) (sub body_fat.code [1,0,1,0,0]) 0 (body_fat.c1p a0 v1) (body_fat.c1x o) (body_fat.c1n o) (body_fat.c1q o)
 | 0,_=>fun _ h=>nomatch h
 | n+1,v1=>Owp.of (body_fat.c1.eq_2 ..) (
  oF (fun e2 =>
  oR fun h3 =>
  oR fun h4 =>
  oR fun h5 =>
  oB fun o19 e20 =>
  Owp.two (fun y21 e22 =>
  oS (loop_exit (body_fat.cok k) hmix [tT,.cut ⟨[],[(0,4),(1,28)],(body_fat.c2p a0 v1 (0:Int)),2,.ret,(body_fat.c2q a0 v1 (.inl ())),0⟩] [] [] exne_ret (via (cutP (aI (aI (aI (aI tv0 e2) h3) h4) h5) [(0,4),(1,28)] (body_fat.c2p a0 v1 (0:Int)) (((body_fat.c2_ok k a0 v1 k (0:Int)).ap (e20.trans (congrArg some e22))).triple) (finP tv0 .ret [] (body_fat.c1q (.inl ())))) (by kernel_rfl)))) (fun y23 e24 =>
  fun y hy=>loop_back (body_fat.cok k) hmix 0 (body_fat.c1p a0 (iadd .i64 v1 (1:Int))) [tT,.cut ⟨[],[(0,4),(1,28)],(body_fat.c2p a0 v1 (0:Int)),2,(.exit 2),(body_fat.c2q a0 v1 (.inr ())),0⟩] [] [] (via (cutP (aI (aI (aI (aI tv0 e2) h3) h4) h5) [(0,4),(1,28)] (body_fat.c2p a0 v1 (0:Int)) (((body_fat.c2_ok k a0 v1 k (0:Int)).ap (e20.trans (congrArg some e24))).triple) (finP tv0 .normal [] (body_fat.c1p a0 (iadd .i64 v1 (1:Int))))) (by kernel_rfl)) ((body_fat.c1_ok k a0 n (iadd .i64 v1 (1:Int))).ap hy))) (fun e2 =>
  oS (loop_exit (body_fat.cok k) hmix [fF] [] [] (exne 0) (via (finP (aI tv0 e2) (.exit 0) [] (body_fat.c1q (.inr ()))) (by kernel_rfl)))))
theorem body_fat.way (k:Nat) (a0:(List V26)):Owp (body_fat k a0) fun y=>∃ w c0,exec PR (body_fat.cx k) body_fat.code 0 (entry (.pair T36 .unit) (a0,())).st w (Ret (body_fat.cx k) Tryz.f94 c0 (.one (.dp T4)) y):=by
 unfold body_fat; exact
  oB fun o25 e26 =>
  Owp.two (fun y27 e28 =>
  oS (⟨[.cut ⟨[],[],(body_fat.c1p a0 (0:Int)),0,.ret,(body_fat.c1q (.inl ())),0⟩],[],via (cutP tv0 [] (body_fat.c1p a0 (0:Int)) (((body_fat.c1_ok k a0 k (0:Int)).ap (e26.trans (congrArg some e28))).triple) (retP tv0 (.one (.dp T4)) (false:Bool))) (by kernel_rfl)⟩)) (fun y29 e30 =>
  oS (⟨[.cut ⟨[],[],(body_fat.c1p a0 (0:Int)),0,(.exit 0),(body_fat.c1q (.inr ())),0⟩],[],via (cutP tv0 [] (body_fat.c1p a0 (0:Int)) (((body_fat.c1_ok k a0 k (0:Int)).ap (e26.trans (congrArg some e30))).triple) (retP tv0 (.one (.dp T4)) (true:Bool))) (by kernel_rfl)⟩))
theorem body_fat.ok (k:Nat):FnOk PR 94 (body_fat.sp k) :=
 fn_ok (body_fat.cok k) hmix Tryz.func94 (code:=body_fat.code) (by kernel_rfl) (by kernel_rfl) (by kernel_rfl) rfl rfl (by kernel_rfl) (by kernel_rfl) (by kernel_rfl) (fun x=>Nat.le_of_ble_eq_true (by kernel_rfl)) fun x y hy=>(body_fat.way k x.1).ap hy
noncomputable def body_shape.code:Code:=Func.cd Tryz.f51
def body_shape.c1 (k:Nat) (a0:(List V26)):Option (Bool) :=
 bnd (body_fat k a0) fun y7 =>
 bif' y7
 (bnd (poly_Has k a0 (0,0,())) fun y10 =>
  some (!y10))
 (some true)
def body_shape (k:Nat) (a0:(List V26)):Option Int :=
 bnd (poly_Check k a0) fun y1 =>
 bif' (ine y1 0)
 (some y1)
 (bnd (slices_ContainsFunc k a0 (fun x:(V26 × Unit)=>body_shape_1 k (x.1))) fun y4 =>
  bif' y4
  (some 1)
  (bnd (body_shape.c1 k a0) fun o12 =>
  bif' o12
  (some 3)
  (some 0)))
noncomputable def body_shape.sp (k:Nat):Go.Sx.Spec:=⟨(.pair T36 .unit),(.one (.dp T2)),fun x=>body_shape k x.1,false⟩
noncomputable def body_shape.cx (k:Nat):Go.Sx.Ctx:=⟨tys,[(18,poly_Check.sp k),(29,slices_ContainsFunc.sp k),(93,body_shape_1.sp k),(94,body_fat.sp k),(95,poly_Has.sp k)],eqs,20,0,[],false⟩
theorem body_shape.cok (k:Nat):CtxOk PR (body_shape.cx k):=ctx_ok tysOk eqsOk (fC (poly_Check.ok k) (fC (slices_ContainsFunc.ok k) (fC (body_shape_1.ok k) (fC (body_fat.ok k) (fC (poly_Has.ok k) FnsOk.nil))))) HsOk.nil
noncomputable def body_shape.c1p (a0:(List V26)):SL:=⟨[(0,(.val T36 a0))],[]⟩
noncomputable def body_shape.c1q (o:Bool):SL:=(fun v=>⟨[(19,(.val T4 v))],[]⟩) o
noncomputable def body_shape.c1x (o:Bool):Ex:=(fun _=>.normal) o
noncomputable def body_shape.c1n (o:Bool):Nat:=(fun _=>0) o
theorem body_shape.c1_ok (k:Nat) (a0:(List V26)):Owp (body_shape.c1 k a0) fun o=>Triple PR (body_shape.cx k) (sub body_shape.code [1,1,1,0,0]) 0 (body_shape.c1p a0) (body_shape.c1x o) (body_shape.c1n o) (body_shape.c1q o):=by
 unfold body_shape.c1; exact
  oB fun y7 e8 =>
  oF (fun e9 =>
  oB fun y10 e11 =>
  oS (tW (body_shape.cok k) hmix [rS T4 y7,fF,fF,fF,rS T4 y10,fF,fF] [] [] (via (finP (aI (aI (aI (aI (aI (aI tv0 e8) (congrArg not e9)) (congrArg not e9)) (aI (congrArg not e9) e11)) (congrArg not e9)) (congrArg not e9)) .normal [] (body_shape.c1q (!y10))) (by kernel_rfl)))) (fun e9 =>
  oS (tW (body_shape.cok k) hmix [rS T4 y7,tT,tT,tT,tT,tT,tT] [] [] (via (finP (aI (aI (aI (aI (aI (aI tv0 e8) (congrArg not e9)) (congrArg not e9)) (congrArg not e9)) (congrArg not e9)) (congrArg not e9)) .normal [] (body_shape.c1q true)) (by kernel_rfl))))
theorem body_shape.way (k:Nat) (a0:(List V26)):Owp (body_shape k a0) fun y=>∃ w c0,exec PR (body_shape.cx k) body_shape.code 0 (entry (.pair T36 .unit) (a0,())).st w (Ret (body_shape.cx k) Tryz.f51 c0 (.one (.dp T2)) y):=by
 unfold body_shape; exact
  oB fun y1 e2 =>
  oF (fun e3 =>
  oS (⟨[rS T2 y1,tT],[],via (retP (aI (aI tv0 e2) e3) (.one (.dp T2)) (y1:Int)) (by kernel_rfl)⟩)) (fun e3 =>
  oB fun y4 e5 =>
  oF (fun e6 =>
  oS (⟨[rS T2 y1,fF,rS T4 y4,tT],[],via (retP (aI (aI (aI (aI tv0 e2) e3) e5) e6) (.one (.dp T2)) ((1:Int):Int)) (by kernel_rfl)⟩)) (fun e6 =>
  oB fun o12 e13 =>
  oF (fun e14 =>
  oS (⟨[rS T2 y1,fF,rS T4 y4,fF,.cutR 6 ⟨[],[],(body_shape.c1p a0),0,.normal,(body_shape.c1q o12),0⟩,tT],[],via (cutP (aI (aI (aI (aI tv0 e2) e3) e5) e6) [] (body_shape.c1p a0) (((body_shape.c1_ok k a0).ap e13)) (retP (aI tv0 e14) (.one (.dp T2)) ((3:Int):Int))) (by kernel_rfl)⟩)) (fun e14 =>
  oS (⟨[rS T2 y1,fF,rS T4 y4,fF,.cutR 6 ⟨[],[],(body_shape.c1p a0),0,.normal,(body_shape.c1q o12),0⟩,fF],[],via (cutP (aI (aI (aI (aI tv0 e2) e3) e5) e6) [] (body_shape.c1p a0) (((body_shape.c1_ok k a0).ap e13)) (retP (aI tv0 e14) (.one (.dp T2)) ((0:Int):Int))) (by kernel_rfl)⟩))))
theorem body_shape.ok (k:Nat):FnOk PR 51 (body_shape.sp k) :=
 fn_ok (body_shape.cok k) hmix Tryz.func51 (code:=body_shape.code) (by kernel_rfl) (by kernel_rfl) (by kernel_rfl) rfl rfl (by kernel_rfl) (by kernel_rfl) (by kernel_rfl) (fun x=>Nat.le_of_ble_eq_true (by kernel_rfl)) fun x y hy=>(body_shape.way k x.1).ap hy
noncomputable def body_Check_1.code:Code:=Func.cd Tryz.f52
def body_Check_1 (k:Nat) (a0 a1 a2:Int):Option Bool :=
 bif' (ige a0 a1)
 (some (ile a0 a2))
 (some false)
noncomputable def body_Check_1.sp (k:Nat):Go.Sx.Spec:=⟨(.pair T2 T26),(.one (.dp T4)),fun x=>body_Check_1 k x.1 x.2.1 x.2.2.1,false⟩
noncomputable def body_Check_1.cx (k:Nat):Go.Sx.Ctx:=⟨tys,[],eqs,15,0,[],false⟩
theorem body_Check_1.cok (k:Nat):CtxOk PR (body_Check_1.cx k):=ctx_ok tysOk eqsOk FnsOk.nil HsOk.nil
theorem body_Check_1.way (k:Nat) (a0 a1 a2:Int):Owp (body_Check_1 k a0 a1 a2) fun y=>∃ w c0,exec PR (body_Check_1.cx k) body_Check_1.code 0 (entry (.pair T2 T26) (a0,a1,a2,())).st w (Ret (body_Check_1.cx k) Tryz.f52 c0 (.one (.dp T4)) y):=by
 unfold body_Check_1; exact
  oF (fun e1 =>
  oS (⟨[tT,tT,tT,tT],[],via (retP (aI (aI (aI (aI tv0 e1) e1) e1) e1) (.one (.dp T4)) ((ile a0 a2):Bool)) (by kernel_rfl)⟩)) (fun e1 =>
  oS (⟨[fF,fF,fF,fF],[],via (retP (aI (aI (aI (aI tv0 e1) e1) e1) e1) (.one (.dp T4)) (false:Bool)) (by kernel_rfl)⟩))
theorem body_Check_1.ok (k:Nat):FnOk PR 52 (body_Check_1.sp k) :=
 fn_ok (body_Check_1.cok k) hmix Tryz.func52 (code:=body_Check_1.code) (by kernel_rfl) (by kernel_rfl) (by kernel_rfl) rfl rfl (by kernel_rfl) (by kernel_rfl) (by kernel_rfl) (fun x=>Nat.le_of_ble_eq_true (by kernel_rfl)) fun x y hy=>(body_Check_1.way k x.1 x.2.1 x.2.2.1).ap hy
noncomputable def body_Check.code:Code:=Func.cd Tryz.f25
def body_Check.c1 (k:Nat) (a0:V45):Option (Bool) :=
 bnd (body_within k a0.1 58982400) fun y4 =>
 bif' y4
 (bnd (body_within k a0.2.1 268435456) fun y7 =>
  bif' y7
  (bnd (body_Check_1 k a0.2.2.2.1 (-16777216) 16777216) fun y10 =>
  bif' y10
  (bnd (body_Check_1 k a0.2.2.1 0 65535) fun y13 =>
  some (!y13))
  (some true))
  (some true))
 (some true)
def body_Check.c2 (k:Nat) (a0:V45):Option (Bool) :=
 bnd (body_Check_1 k a0.2.2.2.2.1 0 1099511627776) fun y18 =>
 bif' y18
 (bnd (body_Check_1 k a0.2.2.2.2.2.1 0 1099511627776) fun y21 =>
  bif' y21
  (bnd (body_Check_1 k a0.2.2.2.2.2.2.1 0 65536) fun y24 =>
  bif' y24
  (bnd (body_Check_1 k a0.2.2.2.2.2.2.2.1 0 65536) fun y27 =>
  bif' y27
  (bnd (body_Check_1 k a0.2.2.2.2.2.2.2.2.2.2.1 0 1000) fun y30 =>
  some (!y30))
  (some true))
  (some true))
  (some true))
 (some true)
def body_Check.c3 (k:Nat) (a0:V45):Option (Bool) :=
 bif' (Ty.eqb T26 a0.2.1 ((0:Int),(0:Int),()))
 (some (ieq a0.2.2.2.1 0))
 (some false)
def body_Check.c4 (k:Nat) (a0:V45) (o36:Bool):Option (Bool) :=
 bif' (Ty.eqb T4 (ieq a0.2.2.2.2.1 (0:Int)) (ieq a0.2.2.2.2.2.1 (0:Int)))
 (bif' (ieq a0.2.2.2.2.1 0)
  (bif' o36
  (bif' a0.2.2.2.2.2.2.2.2.2.1
  (some true)
  (bif' (ine a0.2.2.2.2.2.2.2.2.2.2.1 0)
  (some true)
  (some false)))
  (some true))
  (bif' a0.2.2.2.2.2.2.2.2.2.1
  (some (!o36))
  (some false)))
 (some true)
def body_Check (k:Nat) (a0:V45):Option Int :=
 bnd (body_shape k a0.2.2.2.2.2.2.2.2.1) fun y1 =>
 bif' (ine y1 0)
 (some y1)
 (bnd (body_Check.c1 k a0) fun o15 =>
  bif' o15
  (some 1)
  (bnd (body_Check.c2 k a0) fun o32 =>
  bif' o32
  (some 1)
  (bnd (body_Check.c3 k a0) fun o36 =>
  bnd (body_Check.c4 k a0 o36) fun o44 =>
  bif' o44
  (some 3)
  (some 0))))
noncomputable def body_Check.sp (k:Nat):Go.Sx.Spec:=⟨(.pair T45 .unit),(.one (.dp T2)),fun x=>body_Check k x.1,false⟩
noncomputable def body_Check.cx (k:Nat):Go.Sx.Ctx:=⟨tys,[(51,body_shape.sp k),(53,body_within.sp k),(52,body_Check_1.sp k)],eqs,111,0,[],false⟩
theorem body_Check.cok (k:Nat):CtxOk PR (body_Check.cx k):=ctx_ok tysOk eqsOk (fC (body_shape.ok k) (fC (body_within.ok k) (fC (body_Check_1.ok k) FnsOk.nil))) HsOk.nil
noncomputable def body_Check.c1p (a0:V45):SL:=⟨[(1,(.val .ptr ⟨0,0,(0:Int),0,0⟩)),(4,(.val .clo (52,[])))],[(0,.cells T45 a0)]⟩
noncomputable def body_Check.c1q (a0:V45) (o:Bool):SL:=(fun v=>⟨[(1,(.val .ptr ⟨0,0,(0:Int),0,0⟩)),(4,(.val .clo (52,[]))),(35,(.val T4 v))],[(0,.cells T45 a0)]⟩) o
noncomputable def body_Check.c1x (o:Bool):Ex:=(fun _=>.normal) o
noncomputable def body_Check.c1n (o:Bool):Nat:=(fun _=>1) o
theorem body_Check.c1_ok (k:Nat) (a0:V45):Owp (body_Check.c1 k a0) fun o=>Triple PR (body_Check.cx k) (sub body_Check.code [1,1,1,0,0]) 1 (body_Check.c1p a0) (body_Check.c1x o) (body_Check.c1n o) (body_Check.c1q a0 o):=by
 unfold body_Check.c1; exact
  oB fun y4 e5 =>
  oF (fun e6 =>
  oB fun y7 e8 =>
  oF (fun e9 =>
  oB fun y10 e11 =>
  oF (fun e12 =>
  oB fun y13 e14 =>
  oS (tW (body_Check.cok k) hmix [rS T4 y4,fF,fF,fF,rS T4 y7,fF,fF,fF,fF,fF,fF,rS T4 y10,fF,fF,fF,fF,fF,fF,rS T4 y13,fF,fF] [] [(0,0)] (via (finP (aI (aI (aI (aI (aI (aI (aI (aI (aI (aI (aI (aI (aI (aI (aI (aI (aI (aI tv0 e5) (congrArg not e6)) (congrArg not e6)) (aI (congrArg not e6) e8)) (congrArg not e6)) (congrArg not e6)) (congrArg not e9)) (congrArg not e9)) (congrArg not e9)) (aI (congrArg not e9) e11)) (congrArg not e9)) (congrArg not e9)) (congrArg not e12)) (congrArg not e12)) (congrArg not e12)) (aI (congrArg not e12) e14)) (congrArg not e12)) (congrArg not e12)) .normal [(0,0)] (body_Check.c1q a0 (!y13))) (by kernel_rfl)))) (fun e12 =>
  oS (tW (body_Check.cok k) hmix [rS T4 y4,fF,fF,fF,rS T4 y7,fF,fF,fF,fF,fF,fF,rS T4 y10,fF,fF,tT,tT,tT,tT,tT,tT,tT] [] [(0,0)] (via (finP (aI (aI (aI (aI (aI (aI (aI (aI (aI (aI (aI (aI (aI (aI (aI (aI (aI (aI tv0 e5) (congrArg not e6)) (congrArg not e6)) (aI (congrArg not e6) e8)) (congrArg not e6)) (congrArg not e6)) (congrArg not e9)) (congrArg not e9)) (congrArg not e9)) (aI (congrArg not e9) e11)) (congrArg not e9)) (congrArg not e9)) (congrArg not e12)) (congrArg not e12)) (congrArg not e12)) (congrArg not e12)) (congrArg not e12)) (congrArg not e12)) .normal [(0,0)] (body_Check.c1q a0 true)) (by kernel_rfl))))) (fun e9 =>
  oS (tW (body_Check.cok k) hmix [rS T4 y4,fF,fF,fF,rS T4 y7,fF,fF,tT,tT,tT,tT,tT,tT,tT,tT,tT,tT,tT,tT,tT,tT] [] [(0,0)] (via (finP (aI (aI (aI (aI (aI (aI (aI (aI (aI (aI (aI (aI (aI (aI (aI (aI (aI (aI tv0 e5) (congrArg not e6)) (congrArg not e6)) (aI (congrArg not e6) e8)) (congrArg not e6)) (congrArg not e6)) (congrArg not e9)) (congrArg not e9)) (congrArg not e9)) (congrArg not e9)) (congrArg not e9)) (congrArg not e9)) tt) tt) tt) tt) tt) tt) .normal [(0,0)] (body_Check.c1q a0 true)) (by kernel_rfl))))) (fun e6 =>
  oS (tW (body_Check.cok k) hmix [rS T4 y4,tT,tT,tT,tT,tT,tT,tT,tT,tT,tT,tT,tT,tT,tT,tT,tT,tT,tT,tT,tT] [] [(0,0)] (via (finP (aI (aI (aI (aI (aI (aI (aI (aI (aI (aI (aI (aI (aI (aI (aI (aI (aI (aI tv0 e5) (congrArg not e6)) (congrArg not e6)) (congrArg not e6)) (congrArg not e6)) (congrArg not e6)) tt) tt) tt) tt) tt) tt) tt) tt) tt) tt) tt) tt) .normal [(0,0)] (body_Check.c1q a0 true)) (by kernel_rfl))))
noncomputable def body_Check.c2p (a0:V45):SL:=⟨[(1,(.val .ptr ⟨0,0,(0:Int),0,0⟩)),(4,(.val .clo (52,[])))],[(0,.cells T45 a0)]⟩
noncomputable def body_Check.c2q (a0:V45) (o:Bool):SL:=(fun v=>⟨[(1,(.val .ptr ⟨0,0,(0:Int),0,0⟩)),(68,(.val T4 v))],[(0,.cells T45 a0)]⟩) o
noncomputable def body_Check.c2x (o:Bool):Ex:=(fun _=>.normal) o
noncomputable def body_Check.c2n (o:Bool):Nat:=(fun _=>1) o
theorem body_Check.c2_ok (k:Nat) (a0:V45):Owp (body_Check.c2 k a0) fun o=>Triple PR (body_Check.cx k) (sub body_Check.code [1,1,1,1,0,0]) 1 (body_Check.c2p a0) (body_Check.c2x o) (body_Check.c2n o) (body_Check.c2q a0 o):=by
 unfold body_Check.c2; exact
  oB fun y18 e19 =>
  oF (fun e20 =>
  oB fun y21 e22 =>
  oF (fun e23 =>
  oB fun y24 e25 =>
  oF (fun e26 =>
  oB fun y27 e28 =>
  oF (fun e29 =>
  oB fun y30 e31 =>
  oS (tW (body_Check.cok k) hmix [rS T4 y18,fF,fF,fF,fF,rS T4 y21,fF,fF,fF,fF,fF,fF,rS T4 y24,fF,fF,fF,fF,fF,fF,rS T4 y27,fF,fF,fF,fF,fF,fF,rS T4 y30,fF,fF] [] [(0,0)] (via (finP (aI (aI (aI (aI (aI (aI (aI (aI (aI (aI (aI (aI (aI (aI (aI (aI (aI (aI (aI (aI (aI (aI (aI (aI (aI tv0 e19) (congrArg not e20)) (congrArg not e20)) (congrArg not e20)) (aI (congrArg not e20) e22)) (congrArg not e20)) (congrArg not e20)) (congrArg not e23)) (congrArg not e23)) (congrArg not e23)) (aI (congrArg not e23) e25)) (congrArg not e23)) (congrArg not e23)) (congrArg not e26)) (congrArg not e26)) (congrArg not e26)) (aI (congrArg not e26) e28)) (congrArg not e26)) (congrArg not e26)) (congrArg not e29)) (congrArg not e29)) (congrArg not e29)) (aI (congrArg not e29) e31)) (congrArg not e29)) (congrArg not e29)) .normal [(0,0)] (body_Check.c2q a0 (!y30))) (by kernel_rfl)))) (fun e29 =>
  oS (tW (body_Check.cok k) hmix [rS T4 y18,fF,fF,fF,fF,rS T4 y21,fF,fF,fF,fF,fF,fF,rS T4 y24,fF,fF,fF,fF,fF,fF,rS T4 y27,fF,fF,tT,tT,tT,tT,tT,tT,tT] [] [(0,0)] (via (finP (aI (aI (aI (aI (aI (aI (aI (aI (aI (aI (aI (aI (aI (aI (aI (aI (aI (aI (aI (aI (aI (aI (aI (aI (aI tv0 e19) (congrArg not e20)) (congrArg not e20)) (congrArg not e20)) (aI (congrArg not e20) e22)) (congrArg not e20)) (congrArg not e20)) (congrArg not e23)) (congrArg not e23)) (congrArg not e23)) (aI (congrArg not e23) e25)) (congrArg not e23)) (congrArg not e23)) (congrArg not e26)) (congrArg not e26)) (congrArg not e26)) (aI (congrArg not e26) e28)) (congrArg not e26)) (congrArg not e26)) (congrArg not e29)) (congrArg not e29)) (congrArg not e29)) (congrArg not e29)) (congrArg not e29)) (congrArg not e29)) .normal [(0,0)] (body_Check.c2q a0 true)) (by kernel_rfl))))) (fun e26 =>
  oS (tW (body_Check.cok k) hmix [rS T4 y18,fF,fF,fF,fF,rS T4 y21,fF,fF,fF,fF,fF,fF,rS T4 y24,fF,fF,tT,tT,tT,tT,tT,tT,tT,tT,tT,tT,tT,tT,tT,tT] [] [(0,0)] (via (finP (aI (aI (aI (aI (aI (aI (aI (aI (aI (aI (aI (aI (aI (aI (aI (aI (aI (aI (aI (aI (aI (aI (aI (aI (aI tv0 e19) (congrArg not e20)) (congrArg not e20)) (congrArg not e20)) (aI (congrArg not e20) e22)) (congrArg not e20)) (congrArg not e20)) (congrArg not e23)) (congrArg not e23)) (congrArg not e23)) (aI (congrArg not e23) e25)) (congrArg not e23)) (congrArg not e23)) (congrArg not e26)) (congrArg not e26)) (congrArg not e26)) (congrArg not e26)) (congrArg not e26)) (congrArg not e26)) tt) tt) tt) tt) tt) tt) .normal [(0,0)] (body_Check.c2q a0 true)) (by kernel_rfl))))) (fun e23 =>
  oS (tW (body_Check.cok k) hmix [rS T4 y18,fF,fF,fF,fF,rS T4 y21,fF,fF,tT,tT,tT,tT,tT,tT,tT,tT,tT,tT,tT,tT,tT,tT,tT,tT,tT,tT,tT,tT,tT] [] [(0,0)] (via (finP (aI (aI (aI (aI (aI (aI (aI (aI (aI (aI (aI (aI (aI (aI (aI (aI (aI (aI (aI (aI (aI (aI (aI (aI (aI tv0 e19) (congrArg not e20)) (congrArg not e20)) (congrArg not e20)) (aI (congrArg not e20) e22)) (congrArg not e20)) (congrArg not e20)) (congrArg not e23)) (congrArg not e23)) (congrArg not e23)) (congrArg not e23)) (congrArg not e23)) (congrArg not e23)) tt) tt) tt) tt) tt) tt) tt) tt) tt) tt) tt) tt) .normal [(0,0)] (body_Check.c2q a0 true)) (by kernel_rfl))))) (fun e20 =>
  oS (tW (body_Check.cok k) hmix [rS T4 y18,tT,tT,tT,tT,tT,tT,tT,tT,tT,tT,tT,tT,tT,tT,tT,tT,tT,tT,tT,tT,tT,tT,tT,tT,tT,tT,tT,tT] [] [(0,0)] (via (finP (aI (aI (aI (aI (aI (aI (aI (aI (aI (aI (aI (aI (aI (aI (aI (aI (aI (aI (aI (aI (aI (aI (aI (aI (aI tv0 e19) (congrArg not e20)) (congrArg not e20)) (congrArg not e20)) (congrArg not e20)) (congrArg not e20)) (congrArg not e20)) tt) tt) tt) tt) tt) tt) tt) tt) tt) tt) tt) tt) tt) tt) tt) tt) tt) tt) .normal [(0,0)] (body_Check.c2q a0 true)) (by kernel_rfl))))
noncomputable def body_Check.c3p (a0:V45):SL:=⟨[(1,(.val .ptr ⟨0,0,(0:Int),0,0⟩))],[(0,.cells T45 a0)]⟩
noncomputable def body_Check.c3q (a0:V45) (o:Bool):SL:=(fun v=>⟨[(1,(.val .ptr ⟨0,0,(0:Int),0,0⟩)),(5,(.val T4 v))],[(0,.cells T45 a0)]⟩) o
noncomputable def body_Check.c3x (o:Bool):Ex:=(fun _=>.normal) o
noncomputable def body_Check.c3n (o:Bool):Nat:=(fun _=>1) o
theorem body_Check.c3_ok (k:Nat) (a0:V45):Owp (body_Check.c3 k a0) fun o=>Triple PR (body_Check.cx k) (sub body_Check.code [1,1,1,1,1,0]) 1 (body_Check.c3p a0) (body_Check.c3x o) (body_Check.c3n o) (body_Check.c3q a0 o):=by
 unfold body_Check.c3; exact
  oF (fun e35 =>
  oS (tW (body_Check.cok k) hmix [tT,tT,tT,tT] [] [(0,0)] (via (finP (aI (aI (aI (aI tv0 e35) e35) e35) e35) .normal [(0,0)] (body_Check.c3q a0 (ieq a0.2.2.2.1 (0:Int)))) (by kernel_rfl)))) (fun e35 =>
  oS (tW (body_Check.cok k) hmix [fF,fF,fF,fF] [] [(0,0)] (via (finP (aI (aI (aI (aI tv0 e35) e35) e35) e35) .normal [(0,0)] (body_Check.c3q a0 false)) (by kernel_rfl))))
noncomputable def body_Check.c4p (a0:V45) (o36:Bool):SL:=⟨[(1,(.val .ptr ⟨0,0,(0:Int),0,0⟩)),(5,(.val T4 o36))],[(0,.cells T45 a0)]⟩
noncomputable def body_Check.c4q (o:Bool):SL:=(fun v=>⟨[(110,(.val T4 v))],[]⟩) o
noncomputable def body_Check.c4x (o:Bool):Ex:=(fun _=>.normal) o
noncomputable def body_Check.c4n (o:Bool):Nat:=(fun _=>0) o
theorem body_Check.c4_ok (k:Nat) (a0:V45) (o36:Bool):Owp (body_Check.c4 k a0 o36) fun o=>Triple PR (body_Check.cx k) (sub body_Check.code [1,1,1,1,1,1,0,0]) 1 (body_Check.c4p a0 o36) (body_Check.c4x o) (body_Check.c4n o) (body_Check.c4q o):=by
 unfold body_Check.c4; exact
  oF (fun e38 =>
  oF (fun e39 =>
  oF (fun e40 =>
  oF (fun e41 =>
  oS (tW (body_Check.cok k) hmix [fF,fF,fF,fF,tT,tT,tT,fF,fF,tT,fF,tT,tT,tT,tT,tT,tT,fF,tT,fF,tT,tT,tT,tT,tT,tT,tT,tT] [] [] (via (finP (aI (aI (aI (aI (aI (aI (aI (aI (aI (aI (aI (aI (aI (aI (aI (aI (aI (aI (aI (aI (aI (aI tv0 (congrArg not e38)) (congrArg not e38)) (congrArg not e38)) (congrArg not e38)) e39) e39) e39) (congrArg not e40)) (congrArg not e40)) (aI e39 (congrArg not e40))) e39) e41) e41) e41) (aI e39 e41)) (aI (congrArg not e38) e39)) (congrArg not e38)) tt) tt) tt) tt) tt) .normal [] (body_Check.c4q true)) (by kernel_rfl)))) (fun e41 =>
  oF (fun e42 =>
  oS (tW (body_Check.cok k) hmix [fF,fF,fF,fF,tT,tT,tT,fF,fF,tT,fF,tT,fF,fF,fF,tT,fF,fF,tT,fF,tT,tT,tT,tT,tT,tT,tT,tT] [] [] (via (finP (aI (aI (aI (aI (aI (aI (aI (aI (aI (aI (aI (aI (aI (aI (aI (aI (aI (aI (aI (aI (aI (aI tv0 (congrArg not e38)) (congrArg not e38)) (congrArg not e38)) (congrArg not e38)) e39) e39) e39) (congrArg not e40)) (congrArg not e40)) (aI e39 (congrArg not e40))) e39) e41) e41) e41) (aI e39 e41)) (aI (congrArg not e38) e39)) (congrArg not e38)) e42) e42) e42) e42) e42) .normal [] (body_Check.c4q true)) (by kernel_rfl)))) (fun e42 =>
  oS (tW (body_Check.cok k) hmix [fF,fF,fF,fF,tT,tT,tT,fF,fF,tT,fF,tT,fF,fF,fF,tT,fF,fF,tT,fF,fF,fF,fF,fF,fF,fF,fF,fF] [] [] (via (finP (aI (aI (aI (aI (aI (aI (aI (aI (aI (aI (aI (aI (aI (aI (aI (aI (aI (aI (aI (aI (aI (aI (aI (aI tv0 (congrArg not e38)) (congrArg not e38)) (congrArg not e38)) (congrArg not e38)) e39) e39) e39) (congrArg not e40)) (congrArg not e40)) (aI e39 (congrArg not e40))) e39) e41) e41) e41) (aI e39 e41)) (aI (congrArg not e38) e39)) (congrArg not e38)) e42) e42) e42) e41) e41) (aI e42 e41)) e42) .normal [] (body_Check.c4q false)) (by kernel_rfl)))))) (fun e40 =>
  oS (tW (body_Check.cok k) hmix [fF,fF,fF,fF,tT,tT,tT,tT,tT,tT,tT,tT,tT,tT,tT,tT,tT,fF,tT,fF,tT,tT,tT,tT,tT,tT,tT,tT] [] [] (via (finP (aI (aI (aI (aI (aI (aI (aI (aI (aI (aI (aI (aI (aI (aI (aI (aI (aI (aI (aI (aI (aI (aI tv0 (congrArg not e38)) (congrArg not e38)) (congrArg not e38)) (congrArg not e38)) e39) e39) e39) (congrArg not e40)) (congrArg not e40)) (aI e39 (congrArg not e40))) e39) tt) tt) tt) (aI e39 tt)) (aI (congrArg not e38) e39)) (congrArg not e38)) tt) tt) tt) tt) tt) .normal [] (body_Check.c4q true)) (by kernel_rfl))))) (fun e39 =>
  oF (fun e43 =>
  oS (tW (body_Check.cok k) hmix [fF,fF,fF,fF,fF,fF,fF,tT,tT,fF,tT,fF,tT,tT,tT,fF,tT,fF,fF,fF,fF,fF,fF,tT,tT,fF,tT,fF] [] [] (via (finP (aI (aI (aI (aI (aI (aI (aI (aI (aI (aI (aI (aI (aI (aI (aI (aI (aI (aI (aI tv0 (congrArg not e38)) (congrArg not e38)) (congrArg not e38)) (congrArg not e38)) e39) e39) e39) e39) e39) e39) (aI (congrArg not e38) e39)) (congrArg not e38)) ff) ff) ff) e43) e43) (aI ff e43)) ff) .normal [] (body_Check.c4q (!o36))) (by kernel_rfl)))) (fun e43 =>
  oS (tW (body_Check.cok k) hmix [fF,fF,fF,fF,fF,fF,fF,tT,tT,fF,tT,fF,tT,tT,tT,fF,tT,fF,fF,fF,fF,fF,fF,fF,fF,fF,fF,fF] [] [] (via (finP (aI (aI (aI (aI (aI (aI (aI (aI (aI (aI (aI (aI (aI (aI (aI (aI (aI (aI (aI tv0 (congrArg not e38)) (congrArg not e38)) (congrArg not e38)) (congrArg not e38)) e39) e39) e39) e39) e39) e39) (aI (congrArg not e38) e39)) (congrArg not e38)) ff) ff) ff) e43) e43) (aI ff e43)) ff) .normal [] (body_Check.c4q false)) (by kernel_rfl)))))) (fun e38 =>
  oS (tW (body_Check.cok k) hmix [tT,tT,tT,tT,tT,tT,tT,tT,tT,tT,tT,tT,tT,tT,tT,tT,tT,tT,tT,tT,tT,tT,tT,tT,tT,tT,tT,tT] [] [] (via (finP (aI (aI (aI (aI (aI (aI (aI (aI (aI (aI (aI tv0 (congrArg not e38)) (congrArg not e38)) (congrArg not e38)) (congrArg not e38)) (congrArg not e38)) (congrArg not e38)) tt) tt) tt) tt) tt) .normal [] (body_Check.c4q true)) (by kernel_rfl))))
theorem body_Check.way (k:Nat) (a0:V45):Owp (body_Check k a0) fun y=>∃ w c0,exec PR (body_Check.cx k) body_Check.code 0 (entry (.pair T45 .unit) (a0,())).st w (Ret (body_Check.cx k) Tryz.f25 c0 (.one (.dp T2)) y):=by
 unfold body_Check; exact
  oB fun y1 e2 =>
  oF (fun e3 =>
  oS (⟨[rS T2 y1,tT],[],via (retP (aI (aI tv0 e2) e3) (.one (.dp T2)) (y1:Int)) (by kernel_rfl)⟩)) (fun e3 =>
  oB fun o15 e16 =>
  oF (fun e17 =>
  oS (⟨[rS T2 y1,fF,.cutR 5 ⟨[],[(0,0)],(body_Check.c1p a0),1,.normal,(body_Check.c1q a0 o15),1⟩,tT],[],via (cutP (aI (aI tv0 e2) e3) [(0,0)] (body_Check.c1p a0) (((body_Check.c1_ok k a0).ap e16)) (retP (aI tv0 e17) (.one (.dp T2)) ((1:Int):Int))) (by kernel_rfl)⟩)) (fun e17 =>
  oB fun o32 e33 =>
  oF (fun e34 =>
  oS (⟨[rS T2 y1,fF,.cutR 5 ⟨[],[(0,0)],(body_Check.c1p a0),1,.normal,(body_Check.c1q a0 o15),1⟩,fF,.cutR 7 ⟨[],[(0,0)],(body_Check.c2p a0),1,.normal,(body_Check.c2q a0 o32),1⟩,tT],[],via (cutP (aI (aI tv0 e2) e3) [(0,0)] (body_Check.c1p a0) (((body_Check.c1_ok k a0).ap e16)) (cutP (aI tv0 e17) [(0,0)] (body_Check.c2p a0) (((body_Check.c2_ok k a0).ap e33)) (retP (aI tv0 e34) (.one (.dp T2)) ((1:Int):Int)))) (by kernel_rfl)⟩)) (fun e34 =>
  oB fun o36 e37 =>
  oB fun o44 e45 =>
  oF (fun e46 =>
  oS (⟨[rS T2 y1,fF,.cutR 5 ⟨[],[(0,0)],(body_Check.c1p a0),1,.normal,(body_Check.c1q a0 o15),1⟩,fF,.cutR 7 ⟨[],[(0,0)],(body_Check.c2p a0),1,.normal,(body_Check.c2q a0 o32),1⟩,fF,.cutR 9 ⟨[],[(0,0)],(body_Check.c3p a0),1,.normal,(body_Check.c3q a0 o36),1⟩,.cutR 10 ⟨[],[(0,0)],(body_Check.c4p a0 o36),1,.normal,(body_Check.c4q o44),0⟩,tT],[],via (cutP (aI (aI tv0 e2) e3) [(0,0)] (body_Check.c1p a0) (((body_Check.c1_ok k a0).ap e16)) (cutP (aI tv0 e17) [(0,0)] (body_Check.c2p a0) (((body_Check.c2_ok k a0).ap e33)) (cutP (aI tv0 e34) [(0,0)] (body_Check.c3p a0) (((body_Check.c3_ok k a0).ap e37)) (cutP tv0 [(0,0)] (body_Check.c4p a0 o36) (((body_Check.c4_ok k a0 o36).ap e45)) (retP (aI tv0 e46) (.one (.dp T2)) ((3:Int):Int)))))) (by kernel_rfl)⟩)) (fun e46 =>
  oS (⟨[rS T2 y1,fF,.cutR 5 ⟨[],[(0,0)],(body_Check.c1p a0),1,.normal,(body_Check.c1q a0 o15),1⟩,fF,.cutR 7 ⟨[],[(0,0)],(body_Check.c2p a0),1,.normal,(body_Check.c2q a0 o32),1⟩,fF,.cutR 9 ⟨[],[(0,0)],(body_Check.c3p a0),1,.normal,(body_Check.c3q a0 o36),1⟩,.cutR 10 ⟨[],[(0,0)],(body_Check.c4p a0 o36),1,.normal,(body_Check.c4q o44),0⟩,fF],[],via (cutP (aI (aI tv0 e2) e3) [(0,0)] (body_Check.c1p a0) (((body_Check.c1_ok k a0).ap e16)) (cutP (aI tv0 e17) [(0,0)] (body_Check.c2p a0) (((body_Check.c2_ok k a0).ap e33)) (cutP (aI tv0 e34) [(0,0)] (body_Check.c3p a0) (((body_Check.c3_ok k a0).ap e37)) (cutP tv0 [(0,0)] (body_Check.c4p a0 o36) (((body_Check.c4_ok k a0 o36).ap e45)) (retP (aI tv0 e46) (.one (.dp T2)) ((0:Int):Int)))))) (by kernel_rfl)⟩)))))
theorem body_Check.ok (k:Nat):FnOk PR 25 (body_Check.sp k) :=
 fn_ok (body_Check.cok k) hmix Tryz.func25 (code:=body_Check.code) (by kernel_rfl) (by kernel_rfl) (by kernel_rfl) rfl rfl (by kernel_rfl) (by kernel_rfl) (by kernel_rfl) (fun x=>Nat.le_of_ble_eq_true (by kernel_rfl)) fun x y hy=>(body_Check.way k x.1).ap hy
noncomputable def body_Place.code:Code:=Func.cd Tryz.f26
def body_Place.c1 (k:Nat) (a0:V45):Nat→Int→(List V26)→Option ((List V26))
 | 0,_,_=>none
 | n+1,v4,v5 =>
  bif' (ilt v4 (len a0.2.2.2.2.2.2.2.2.1))
  (req (inL v4 a0.2.2.2.2.2.2.2.2.1) <|bnd (vec_Turn k (el Z26 a0.2.2.2.2.2.2.2.2.1 v4) a0.2.2.1) fun y8 =>
  bnd (vec_Add k y8 a0.1) fun y10 =>
  req (room 16 v5 [y10]) <|body_Place.c1 k a0 n (iadd .i64 v4 1) (v5++[y10]))
  (some v5)
def body_Place (k:Nat) (a0:V45):Option (List V26) :=
 bnd (body_Check k a0) fun y1 =>
 bif' (ine y1 0)
 (some ([]:(List V26)))
 (bnd (body_Place.c1 k a0 k 0 []) fun o13 =>
  req (NE o13) <|some o13)
noncomputable def body_Place.sp (k:Nat):Go.Sx.Spec:=⟨(.pair T45 .unit),(.one (.dn T26)),fun x=>body_Place k x.1,false⟩
noncomputable def body_Place.cx (k:Nat):Go.Sx.Ctx:=⟨tys,[(25,body_Check.sp k),(54,vec_Turn.sp k),(10,vec_Add.sp k)],eqs,28,0,[],false⟩
theorem body_Place.cok (k:Nat):CtxOk PR (body_Place.cx k):=ctx_ok tysOk eqsOk (fC (body_Check.ok k) (fC (vec_Turn.ok k) (fC (vec_Add.ok k) FnsOk.nil))) HsOk.nil
noncomputable def body_Place.c1p (a0:V45) (v4:Int) (v5:(List V26)):SL:=⟨[(1,(.val .ptr ⟨0,0,(0:Int),0,0⟩)),(3,(.val .own (1:Nat))),(10,(.val T36 a0.2.2.2.2.2.2.2.2.1)),(11,(.val T2 (len a0.2.2.2.2.2.2.2.2.1))),(12,(.val T2 v4))],[(0,.cells T45 a0),(1,.row T26 v5 27)]⟩
noncomputable def body_Place.c1q (o:(List V26)):SL:=(fun v=>⟨[(3,(.val .own (0:Nat)))],[(0,.row T26 v 27)]⟩) o
noncomputable def body_Place.c1x (o:(List V26)):Ex:=(fun _=>(.exit 0)) o
noncomputable def body_Place.c1n (o:(List V26)):Nat:=(fun _=>1) o
theorem body_Place.c1_ok (k:Nat) (a0:V45):∀ (n:Nat) (v4:Int) (v5:(List V26)),Owp (body_Place.c1 k a0 n v4 v5) fun o=>LTriple PR (body_Place.cx k) (sub body_Place.code [1,1,1,0,1,0,0]) 2 (body_Place.c1p a0 v4 v5) (body_Place.c1x o) (body_Place.c1n o) (body_Place.c1q o)
 | 0,_,_=>fun _ h=>nomatch h
 | n+1,v4,v5=>Owp.of (body_Place.c1.eq_2 ..) (
  oF (fun e6 =>
  oR fun h7 =>
  oB fun y8 e9 =>
  oB fun y10 e11 =>
  oR fun h12 =>
  fun y hy=>loop_back (body_Place.cok k) hmix 2 (body_Place.c1p a0 (iadd .i64 v4 (1:Int)) (v5++[y10])) [tT,rS T26 y8,rS T26 y10,tT] [] [(0,0),(1,16)] (via (finP (aI (aI (aI (aI (aI tv0 e6) h7) e9) e11) h12) .normal [(0,0),(1,16)] (body_Place.c1p a0 (iadd .i64 v4 (1:Int)) (v5++[y10]))) (by kernel_rfl)) ((body_Place.c1_ok k a0 n (iadd .i64 v4 (1:Int)) (v5++[y10])).ap hy)) (fun e6 =>
  oS (loop_exit (body_Place.cok k) hmix [fF] [] [(0,1)] (exne 0) (via (finP (aI tv0 e6) (.exit 0) [(0,1)] (body_Place.c1q v5)) (by kernel_rfl)))))
theorem body_Place.way (k:Nat) (a0:V45):Owp (body_Place k a0) fun y=>∃ w c0,exec PR (body_Place.cx k) body_Place.code 0 (entry (.pair T45 .unit) (a0,())).st w (Ret (body_Place.cx k) Tryz.f26 c0 (.one (.dn T26)) y):=by
 unfold body_Place; exact
  oB fun y1 e2 =>
  oF (fun e3 =>
  oS (⟨[rS T2 y1,tT],[],via (retnilP (aI (aI tv0 e2) e3)) (by kernel_rfl)⟩)) (fun e3 =>
  oB fun o13 e14 =>
  oR fun h15 =>
  oS (⟨[rS T2 y1,fF,.cut ⟨[.own 3 T26 27],[(0,0),(1,10)],(body_Place.c1p a0 (0:Int) []),2,(.exit 0),(body_Place.c1q o13),1⟩],[.freeze 2],via (cutP (aI (aI tv0 e2) e3) [(0,0),(1,10)] (body_Place.c1p a0 (0:Int) []) (((body_Place.c1_ok k a0 k (0:Int) []).ap e14).triple) (retnP tv0 T26 o13 h15)) (by kernel_rfl)⟩))
theorem body_Place.ok (k:Nat):FnOk PR 26 (body_Place.sp k) :=
 fn_ok (body_Place.cok k) hmix Tryz.func26 (code:=body_Place.code) (by kernel_rfl) (by kernel_rfl) (by kernel_rfl) rfl rfl (by kernel_rfl) (by kernel_rfl) (by kernel_rfl) (fun x=>Nat.le_of_ble_eq_true (by kernel_rfl)) fun x y hy=>(body_Place.way k x.1).ap hy
end Go.Proofs.T1
