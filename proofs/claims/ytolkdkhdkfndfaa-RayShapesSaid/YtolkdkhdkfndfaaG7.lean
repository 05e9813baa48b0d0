import Derived.Test.YtolkdkhdkfndfaaG0
import Derived.Test.YtolkdkhdkfndfaaG1
import Derived.Test.YtolkdkhdkfndfaaG2
import Derived.Test.YtolkdkhdkfndfaaG3
namespace Go.Proofs.T1
open Go Go.Sx Go.Proofs
set_option maxRecDepth 100000
set_option linter.unusedVariables false
noncomputable def r2_Corners.code:Code:=Func.cd Try.f176
def r2_Corners.c1 (k:Nat) (a0:(List V27)):Nat → Int → Option (Unit ⊕ Unit)
  | 0,_=>none
  | n+1,v4 =>
   bif' (ilt v4 (len a0))
   (req (inL v4 a0) <|
   bnd (r2_coord k (el Z27 a0 v4) 2097152) fun y7 =>
   bif' y7
   (r2_Corners.c1 k a0 n (iadd .i64 v4 1))
   (some (.inl ())))
   (some (.inr ()))
def r2_Corners.c3 (k:Nat) (a0:(List V27)) (v16:Int) (y21:V27):Nat → Int → Option (Unit ⊕ Unit)
  | 0,_=>none
  | n+1,v23 =>
   bif' (ilt v23 (len a0))
   (req (nz (len a0)) <|
   req (inL (irem (iadd .i64 v16 v23) (len a0)) a0) <|
   bnd (r2_sub k (el Z27 a0 (irem (iadd .i64 v16 v23) (len a0))) (el Z27 a0 v16)) fun y27 =>
   bnd (r2_Cross k y21 y27) fun y29 =>
   bnd (r2_Of k (imul .i64 8 (iadd .i64 (iadd .i64 (iadd .i64 (imax y21.1 (ineg .i64 y21.1)) (imax y21.2.1 (ineg .i64 y21.2.1))) (imax y27.1 (ineg .i64 y27.1))) (imax y27.2.1 (ineg .i64 y27.2.1))))) fun y31 =>
   bnd (r2_Big_Cmp k y29 y31) fun y33 =>
   bif' (ilt y33 0)
   (some (.inl ()))
   (r2_Corners.c3 k a0 v16 y21 n (iadd .i64 v23 1)))
   (some (.inr ()))
def r2_Corners.c2 (k:Nat) (a0:(List V27)):Nat → Int → Option (Unit ⊕ Unit)
  | 0,_=>none
  | n+1,v16 =>
   bif' (ilt v16 (len a0))
   (req (inL v16 a0) <|
   req (nz (len a0)) <|
   req (inL (irem (iadd .i64 v16 1) (len a0)) a0) <|
   bnd (r2_sub k (el Z27 a0 (irem (iadd .i64 v16 1) (len a0))) (el Z27 a0 v16)) fun y21 =>
   bnd (r2_Corners.c3 k a0 v16 y21 k 2) fun o36 =>
   two o36 (fun y38 =>
   some (.inl ())) (fun y40 =>
   r2_Corners.c2 k a0 n (iadd .i64 v16 1)))
   (some (.inr ()))
def r2_Corners (k:Nat) (a0:(List V27)):Option Int :=
  bnd (r2_Poly k a0) fun y1 =>
  bif' (ine y1 0)
  (some y1)
  (bnd (r2_Corners.c1 k a0 k 0) fun o10 =>
   two o10 (fun y12 =>
   some 1) (fun y14 =>
   bnd (r2_Corners.c2 k a0 k 0) fun o42 =>
   two o42 (fun y44 =>
   some 3) (fun y46 =>
   bnd (r2_Inside k a0 (0,0,())) fun y48 =>
   bif' y48
   (some 0)
   (some 3))))
noncomputable def r2_Corners.sp (k:Nat):Go.Sx.Spec:=⟨(.pair T22 .unit),(.one (.dp T2)),fun x=>r2_Corners k x.1,false⟩
noncomputable def r2_Corners.cx (k:Nat):Go.Sx.Ctx:=⟨tys,[(59,r2_Poly.sp k),(94,r2_coord.sp k),(135,r2_sub.sp k),(177,r2_Cross.sp k),(179,r2_Of.sp k),(136,r2_Big_Cmp.sp k),(131,r2_Inside.sp k)],eqs,99,0,[],false⟩
theorem r2_Corners.cok (k:Nat):CtxOk PR (r2_Corners.cx k):=ctx_ok tysOk eqsOk (FnsOk.cons (r2_Poly.ok k) (FnsOk.cons (r2_coord.ok k) (FnsOk.cons (r2_sub.ok k) (FnsOk.cons (r2_Cross.ok k) (FnsOk.cons (r2_Of.ok k) (FnsOk.cons (r2_Big_Cmp.ok k) (FnsOk.cons (r2_Inside.ok k) FnsOk.nil))))))) HsOk.nil
noncomputable def r2_Corners.c1p (a0:(List V27)) (v4:Int):SL:=⟨[(0,(.val T22 a0)),(16,(.val T22 a0)),(17,(.val T2 (len a0))),(18,(.val T2 v4))],[]⟩
noncomputable def r2_Corners.c1q (a0:(List V27)) (o:Unit ⊕ Unit):SL:=(fun o=>two o (fun v=>⟨[(2,(.val T2 (1:Int)))],[]⟩) (fun v=>⟨[(0,(.val T22 a0))],[]⟩)) o
noncomputable def r2_Corners.c1x (o:Unit ⊕ Unit):Ex:=(fun o=>two o (fun _=>.ret) (fun _=>(.exit 0))) o
noncomputable def r2_Corners.c1n (o:Unit ⊕ Unit):Nat:=(fun o=>two o (fun _=>0) (fun _=>0)) o
theorem r2_Corners.c1_ok (k:Nat) (a0:(List V27)):∀ (n:Nat) (v4:Int),Owp (r2_Corners.c1 k a0 n v4) fun o=>LTriple PR (r2_Corners.cx k) (sub r2_Corners.code [1,1,0,1,0,0]) 0 (r2_Corners.c1p a0 v4) (r2_Corners.c1x o) (r2_Corners.c1n o) (r2_Corners.c1q a0 o)
  | 0,_=>fun _ h=>nomatch h
  | n+1,v4=>Owp.of (r2_Corners.c1.eq_2 ..) (
   Owp.bif (fun e5 =>
   Owp.req fun h6 =>
   Owp.bnd fun y7 e8 =>
   Owp.bif (fun e9 =>
   fun y hy=>loop_back (r2_Corners.cok k) hmix 0 (r2_Corners.c1p a0 (iadd .i64 v4 (1:Int))) [tT,rS T4 y7,fF] [] [] (via (finP (aI (aI (aI (aI trivial e5) h6) e8) (congrArg not e9)) .normal [] (r2_Corners.c1p a0 (iadd .i64 v4 (1:Int)))) (by kernel_rfl)) ((r2_Corners.c1_ok k a0 n (iadd .i64 v4 (1:Int))).ap hy)) (fun e9 =>
   Owp.some (loop_exit (r2_Corners.cok k) hmix [tT,rS T4 y7,tT] [] [] exne_ret (via (finP (aI (aI (aI (aI trivial e5) h6) e8) (congrArg not e9)) .ret [] (r2_Corners.c1q a0 (.inl ()))) (by kernel_rfl))))) (fun e5 =>
   Owp.some (loop_exit (r2_Corners.cok k) hmix [fF] [] [] (exne 0) (via (finP (aI trivial e5) (.exit 0) [] (r2_Corners.c1q a0 (.inr ()))) (by kernel_rfl)))))
noncomputable def r2_Corners.c3p (a0:(List V27)) (v16:Int) (y21:V27) (v23:Int):SL:=⟨[(0,(.val T22 a0)),(6,(.val T2 v16)),(7,(.val .ptr ⟨0,0,(0:Int),0,0⟩)),(8,(.val .ptr ⟨1,0,(0:Int),0,0⟩)),(9,(.val T2 v23)),(26,(.val T22 a0)),(27,(.val T2 (len a0))),(28,(.val T2 v16))],[(0,.cells T27 (el Z27 a0 v16)),(1,.cells T27 y21)]⟩
noncomputable def r2_Corners.c3q (a0:(List V27)) (v16:Int) (o:Unit ⊕ Unit):SL:=(fun o=>two o (fun v=>⟨[(2,(.val T2 (3:Int)))],[]⟩) (fun v=>⟨[(0,(.val T22 a0)),(26,(.val T22 a0)),(27,(.val T2 (len a0))),(28,(.val T2 v16))],[]⟩)) o
noncomputable def r2_Corners.c3x (o:Unit ⊕ Unit):Ex:=(fun o=>two o (fun _=>.ret) (fun _=>(.exit 4))) o
noncomputable def r2_Corners.c3n (o:Unit ⊕ Unit):Nat:=(fun o=>two o (fun _=>0) (fun _=>0)) o
theorem r2_Corners.c3_ok (k:Nat) (a0:(List V27)) (v16:Int) (y21:V27):∀ (n:Nat) (v23:Int),Owp (r2_Corners.c3 k a0 v16 y21 n v23) fun o=>LTriple PR (r2_Corners.cx k) (sub r2_Corners.code [1,1,1,0,1,0,0,1,1,0,0,1,1,1,0,0]) 2 (r2_Corners.c3p a0 v16 y21 v23) (r2_Corners.c3x o) (r2_Corners.c3n o) (r2_Corners.c3q a0 v16 o)
  | 0,_=>fun _ h=>nomatch h
  | n+1,v23=>Owp.of (r2_Corners.c3.eq_2 ..) (
   Owp.bif (fun e24 =>
   Owp.req fun h25 =>
   Owp.req fun h26 =>
   Owp.bnd fun y27 e28 =>
   Owp.bnd fun y29 e30 =>
   Owp.bnd fun y31 e32 =>
   Owp.bnd fun y33 e34 =>
   Owp.bif (fun e35 =>
   Owp.some (loop_exit (r2_Corners.cok k) hmix [tT,rS T27 y27,rS T141 y29,rS T141 y31,rS T2 y33,tT] [] [] exne_ret (via (finP (aI (aI (aI (aI (aI (aI (aI (aI trivial e24) h25) h26) e28) e30) e32) e34) e35) .ret [] (r2_Corners.c3q a0 v16 (.inl ()))) (by kernel_rfl)))) (fun e35 =>
   fun y hy=>loop_back (r2_Corners.cok k) hmix 2 (r2_Corners.c3p a0 v16 y21 (iadd .i64 v23 (1:Int))) [tT,rS T27 y27,rS T141 y29,rS T141 y31,rS T2 y33,fF] [] [(0,0),(1,1)] (via (finP (aI (aI (aI (aI (aI (aI (aI (aI trivial e24) h25) h26) e28) e30) e32) e34) e35) .normal [(0,0),(1,1)] (r2_Corners.c3p a0 v16 y21 (iadd .i64 v23 (1:Int)))) (by kernel_rfl)) ((r2_Corners.c3_ok k a0 v16 y21 n (iadd .i64 v23 (1:Int))).ap hy))) (fun e24 =>
   Owp.some (loop_exit (r2_Corners.cok k) hmix [fF] [] [] (exne 4) (via (finP (aI trivial e24) (.exit 4) [] (r2_Corners.c3q a0 v16 (.inr ()))) (by kernel_rfl)))))
noncomputable def r2_Corners.c2p (a0:(List V27)) (v16:Int):SL:=⟨[(0,(.val T22 a0)),(26,(.val T22 a0)),(27,(.val T2 (len a0))),(28,(.val T2 v16))],[]⟩
noncomputable def r2_Corners.c2q (a0:(List V27)) (o:Unit ⊕ Unit):SL:=(fun o=>two o (fun v=>⟨[(2,(.val T2 (3:Int)))],[]⟩) (fun v=>⟨[(0,(.val T22 a0))],[]⟩)) o
noncomputable def r2_Corners.c2x (o:Unit ⊕ Unit):Ex:=(fun o=>two o (fun _=>.ret) (fun _=>(.exit 2))) o
noncomputable def r2_Corners.c2n (o:Unit ⊕ Unit):Nat:=(fun o=>two o (fun _=>0) (fun _=>0)) o
theorem r2_Corners.c2_ok (k:Nat) (a0:(List V27)):∀ (n:Nat) (v16:Int),Owp (r2_Corners.c2 k a0 n v16) fun o=>LTriple PR (r2_Corners.cx k) (sub r2_Corners.code [1,1,1,0,1,0,0]) 0 (r2_Corners.c2p a0 v16) (r2_Corners.c2x o) (r2_Corners.c2n o) (r2_Corners.c2q a0 o)
  | 0,_=>fun _ h=>nomatch h
  | n+1,v16=>Owp.of (r2_Corners.c2.eq_2 ..) (
   Owp.bif (fun e17 =>
   Owp.req fun h18 =>
   Owp.req fun h19 =>
   Owp.req fun h20 =>
   Owp.bnd fun y21 e22 =>
   Owp.bnd fun o36 e37 =>
   Owp.two (fun y38 e39 =>
   Owp.some (loop_exit (r2_Corners.cok k) hmix [tT,rS T27 y21,.cut ⟨[],[(0,4),(1,17)],(r2_Corners.c3p a0 v16 y21 (2:Int)),2,.ret,(r2_Corners.c3q a0 v16 (.inl ())),0⟩] [] [] exne_ret (via (cutP (aI (aI (aI (aI (aI trivial e17) h18) h19) h20) e22) [(0,4),(1,17)] (r2_Corners.c3p a0 v16 y21 (2:Int)) (((r2_Corners.c3_ok k a0 v16 y21 k (2:Int)).ap (e37.trans (congrArg some e39))).triple) (finP trivial .ret [] (r2_Corners.c2q a0 (.inl ())))) (by kernel_rfl)))) (fun y40 e41 =>
   fun y hy=>loop_back (r2_Corners.cok k) hmix 0 (r2_Corners.c2p a0 (iadd .i64 v16 (1:Int))) [tT,rS T27 y21,.cut ⟨[],[(0,4),(1,17)],(r2_Corners.c3p a0 v16 y21 (2:Int)),2,(.exit 4),(r2_Corners.c3q a0 v16 (.inr ())),0⟩] [] [] (via (cutP (aI (aI (aI (aI (aI trivial e17) h18) h19) h20) e22) [(0,4),(1,17)] (r2_Corners.c3p a0 v16 y21 (2:Int)) (((r2_Corners.c3_ok k a0 v16 y21 k (2:Int)).ap (e37.trans (congrArg some e41))).triple) (finP trivial .normal [] (r2_Corners.c2p a0 (iadd .i64 v16 (1:Int))))) (by kernel_rfl)) ((r2_Corners.c2_ok k a0 n (iadd .i64 v16 (1:Int))).ap hy))) (fun e17 =>
   Owp.some (loop_exit (r2_Corners.cok k) hmix [fF] [] [] (exne 2) (via (finP (aI trivial e17) (.exit 2) [] (r2_Corners.c2q a0 (.inr ()))) (by kernel_rfl)))))
theorem r2_Corners.way (k:Nat) (a0:(List V27)):Owp (r2_Corners k a0) fun y=>∃ w c0,exec PR (r2_Corners.cx k) r2_Corners.code 0 (entry (.pair T22 .unit) (a0,())).st w (Ret (r2_Corners.cx k) Try.f176 c0 (.one (.dp T2)) y):=by
  unfold r2_Corners; exact
   Owp.bnd fun y1 e2 =>
   Owp.bif (fun e3 =>
   Owp.some (⟨[rS T2 y1,tT],[],via (retP (aI (aI trivial e2) e3) (.one (.dp T2)) (y1:Int)) (by kernel_rfl)⟩)) (fun e3 =>
   Owp.bnd fun o10 e11 =>
   Owp.two (fun y12 e13 =>
   Owp.some (⟨[rS T2 y1,fF,.cut ⟨[],[],(r2_Corners.c1p a0 (0:Int)),0,.ret,(r2_Corners.c1q a0 (.inl ())),0⟩],[],via (cutP (aI (aI trivial e2) e3) [] (r2_Corners.c1p a0 (0:Int)) (((r2_Corners.c1_ok k a0 k (0:Int)).ap (e11.trans (congrArg some e13))).triple) (retP trivial (.one (.dp T2)) ((1:Int):Int))) (by kernel_rfl)⟩)) (fun y14 e15 =>
   Owp.bnd fun o42 e43 =>
   Owp.two (fun y44 e45 =>
   Owp.some (⟨[rS T2 y1,fF,.cut ⟨[],[],(r2_Corners.c1p a0 (0:Int)),0,(.exit 0),(r2_Corners.c1q a0 (.inr ())),0⟩,.cut ⟨[],[],(r2_Corners.c2p a0 (0:Int)),0,.ret,(r2_Corners.c2q a0 (.inl ())),0⟩],[],via (cutP (aI (aI trivial e2) e3) [] (r2_Corners.c1p a0 (0:Int)) (((r2_Corners.c1_ok k a0 k (0:Int)).ap (e11.trans (congrArg some e15))).triple) (cutP trivial [] (r2_Corners.c2p a0 (0:Int)) (((r2_Corners.c2_ok k a0 k (0:Int)).ap (e43.trans (congrArg some e45))).triple) (retP trivial (.one (.dp T2)) ((3:Int):Int)))) (by kernel_rfl)⟩)) (fun y46 e47 =>
   Owp.bnd fun y48 e49 =>
   Owp.bif (fun e50 =>
   Owp.some (⟨[rS T2 y1,fF,.cut ⟨[],[],(r2_Corners.c1p a0 (0:Int)),0,(.exit 0),(r2_Corners.c1q a0 (.inr ())),0⟩,.cut ⟨[],[],(r2_Corners.c2p a0 (0:Int)),0,(.exit 2),(r2_Corners.c2q a0 (.inr ())),0⟩,rS T4 y48,fF],[],via (cutP (aI (aI trivial e2) e3) [] (r2_Corners.c1p a0 (0:Int)) (((r2_Corners.c1_ok k a0 k (0:Int)).ap (e11.trans (congrArg some e15))).triple) (cutP trivial [] (r2_Corners.c2p a0 (0:Int)) (((r2_Corners.c2_ok k a0 k (0:Int)).ap (e43.trans (congrArg some e47))).triple) (retP (aI (aI trivial e49) (congrArg not e50)) (.one (.dp T2)) ((0:Int):Int)))) (by kernel_rfl)⟩)) (fun e50 =>
   Owp.some (⟨[rS T2 y1,fF,.cut ⟨[],[],(r2_Corners.c1p a0 (0:Int)),0,(.exit 0),(r2_Corners.c1q a0 (.inr ())),0⟩,.cut ⟨[],[],(r2_Corners.c2p a0 (0:Int)),0,(.exit 2),(r2_Corners.c2q a0 (.inr ())),0⟩,rS T4 y48,tT],[],via (cutP (aI (aI trivial e2) e3) [] (r2_Corners.c1p a0 (0:Int)) (((r2_Corners.c1_ok k a0 k (0:Int)).ap (e11.trans (congrArg some e15))).triple) (cutP trivial [] (r2_Corners.c2p a0 (0:Int)) (((r2_Corners.c2_ok k a0 k (0:Int)).ap (e43.trans (congrArg some e47))).triple) (retP (aI (aI trivial e49) (congrArg not e50)) (.one (.dp T2)) ((3:Int):Int)))) (by kernel_rfl)⟩)))))
theorem r2_Corners.ok (k:Nat):FnOk PR 176 (r2_Corners.sp k) :=
  fn_ok (r2_Corners.cok k) hmix Try.func176 (code:=r2_Corners.code) (by kernel_rfl) (by kernel_rfl) (by kernel_rfl) rfl rfl (by kernel_rfl) (by kernel_rfl) (by kernel_rfl) (fun x=>Nat.le_of_ble_eq_true (by kernel_rfl)) fun x y hy=>(r2_Corners.way k x.1).ap hy
noncomputable def r2_between.code:Code:=Func.cd Try.f139
def r2_between (k:Nat) (a0 a1 a2:Int):Option Bool :=
  bif' (ile a1 a0)
  (some (ile a0 a2))
  (some false)
noncomputable def r2_between.sp (k:Nat):Go.Sx.Spec:=⟨(.pair T2 T27),(.one (.dp T4)),fun x=>r2_between k x.1 x.2.1 x.2.2.1,false⟩
noncomputable def r2_between.cx (k:Nat):Go.Sx.Ctx:=⟨tys,[],eqs,15,0,[],false⟩
theorem r2_between.cok (k:Nat):CtxOk PR (r2_between.cx k):=ctx_ok tysOk eqsOk FnsOk.nil HsOk.nil
theorem r2_between.way (k:Nat) (a0 a1 a2:Int):Owp (r2_between k a0 a1 a2) fun y=>∃ w c0,exec PR (r2_between.cx k) r2_between.code 0 (entry (.pair T2 T27) (a0,a1,a2,())).st w (Ret (r2_between.cx k) Try.f139 c0 (.one (.dp T4)) y):=by
  unfold r2_between; exact
   Owp.bif (fun e1 =>
   Owp.some (⟨[tT,tT,tT,tT],[],via (retP (aI (aI (aI (aI trivial e1) e1) e1) e1) (.one (.dp T4)) ((ile a0 a2):Bool)) (by kernel_rfl)⟩)) (fun e1 =>
   Owp.some (⟨[fF,fF,fF,fF],[],via (retP (aI (aI (aI (aI trivial e1) e1) e1) e1) (.one (.dp T4)) (false:Bool)) (by kernel_rfl)⟩))
theorem r2_between.ok (k:Nat):FnOk PR 139 (r2_between.sp k) :=
  fn_ok (r2_between.cok k) hmix Try.func139 (code:=r2_between.code) (by kernel_rfl) (by kernel_rfl) (by kernel_rfl) rfl rfl (by kernel_rfl) (by kernel_rfl) (by kernel_rfl) (fun x=>Nat.le_of_ble_eq_true (by kernel_rfl)) fun x y hy=>(r2_between.way k x.1 x.2.1 x.2.2.1).ap hy
noncomputable def r2_Body.code:Code:=Func.cd Try.f129
def r2_Body.c1 (k:Nat) (a0:V67):Option (Bool) :=
  bnd (r2_coord k a0.1 58982400) fun y4 =>
  bif' y4
  (bnd (r2_coord k a0.2.1 268435456) fun y7 =>
   bif' y7
   (bnd (r2_between k a0.2.2.2.1 (-16777216) 16777216) fun y10 =>
   bif' y10
   (bnd (r2_between k a0.2.2.1 0 65535) fun y13 =>
   some (!y13))
   (some true))
   (some true))
  (some true)
def r2_Body.c2 (k:Nat) (a0:V67):Option (Bool) :=
  bnd (r2_between k a0.2.2.2.2.1 0 1099511627776) fun y18 =>
  bif' y18
  (bnd (r2_between k a0.2.2.2.2.2.1 0 1099511627776) fun y21 =>
   bif' y21
   (bnd (r2_between k a0.2.2.2.2.2.2.1 0 65536) fun y24 =>
   bif' y24
   (bnd (r2_between k a0.2.2.2.2.2.2.2.1 0 65536) fun y27 =>
   bif' y27
   (bnd (r2_between k a0.2.2.2.2.2.2.2.2.2.2.1 0 1000) fun y30 =>
   some (!y30))
   (some true))
   (some true))
   (some true))
  (some true)
def r2_Body.c3 (k:Nat) (a0:V67):Option (Bool) :=
  bif' (ine a0.2.1.1 0)
  (some true)
  (bif' (ine a0.2.1.2.1 0)
   (some true)
   (some (ine a0.2.2.2.1 0)))
def r2_Body.c4 (k:Nat) (a0:V67):Option (Bool) :=
  bif' (ieq a0.2.2.2.2.1 0)
  (some (igt a0.2.2.2.2.2.1 0))
  (some false)
def r2_Body.c5 (k:Nat) (a0:V67) (o40:Bool):Option (Bool) :=
  bif' o40
  (some o40)
  (bif' (igt a0.2.2.2.2.1 0)
   (some (ieq a0.2.2.2.2.2.1 0))
   (some false))
def r2_Body.c6 (k:Nat) (a0:V67) (o37:Bool):Option (Bool) :=
  bif' (ieq a0.2.2.2.2.1 0)
  (bif' o37
   (some true)
   (bif' a0.2.2.2.2.2.2.2.2.2.1
   (some true)
   (some (igt a0.2.2.2.2.2.2.2.2.2.2.1 0))))
  (some false)
def r2_Body.c7 (k:Nat) (a0:V67) (o37:Bool):Option (Bool) :=
  bif' a0.2.2.2.2.2.2.2.2.2.1
  (some o37)
  (some false)
def r2_Body (k:Nat) (a0:V67):Option Int :=
  bnd (r2_Corners k a0.2.2.2.2.2.2.2.2.1) fun y1 =>
  bif' (ine y1 0)
  (some y1)
  (bnd (r2_Body.c1 k a0) fun o15 =>
   bif' o15
   (some 1)
   (bnd (r2_Body.c2 k a0) fun o32 =>
   bif' o32
   (some 1)
   (bnd (r2_Body.c3 k a0) fun o37 =>
   bnd (r2_Body.c4 k a0) fun o40 =>
   bnd (r2_Body.c5 k a0 o40) fun o44 =>
   bif' o44
   (some 3)
   (bnd (r2_Body.c6 k a0 o37) fun o50 =>
   bif' o50
   (some 3)
   (bnd (r2_Body.c7 k a0 o37) fun o54 =>
   bif' o54
   (some 3)
   (some 0))))))
noncomputable def r2_Body.sp (k:Nat):Go.Sx.Spec:=⟨(.pair T67 .unit),(.one (.dp T2)),fun x=>r2_Body k x.1,false⟩
noncomputable def r2_Body.cx (k:Nat):Go.Sx.Ctx:=⟨tys,[(176,r2_Corners.sp k),(94,r2_coord.sp k),(139,r2_between.sp k)],eqs,115,0,[],false⟩
theorem r2_Body.cok (k:Nat):CtxOk PR (r2_Body.cx k):=ctx_ok tysOk eqsOk (FnsOk.cons (r2_Corners.ok k) (FnsOk.cons (r2_coord.ok k) (FnsOk.cons (r2_between.ok k) FnsOk.nil))) HsOk.nil
noncomputable def r2_Body.c1p (a0:V67):SL:=⟨[(1,(.val .ptr ⟨0,0,(0:Int),0,0⟩))],[(0,.cells T67 a0)]⟩
noncomputable def r2_Body.c1q (a0:V67) (o:Bool):SL:=(fun v=>⟨[(1,(.val .ptr ⟨0,0,(0:Int),0,0⟩)),(32,(.val T4 v))],[(0,.cells T67 a0)]⟩) o
noncomputable def r2_Body.c1x (o:Bool):Ex:=(fun _=>.normal) o
noncomputable def r2_Body.c1n (o:Bool):Nat:=(fun _=>1) o
theorem r2_Body.c1_ok (k:Nat) (a0:V67):Owp (r2_Body.c1 k a0) fun o=>Triple PR (r2_Body.cx k) (sub r2_Body.code [1,1,0,0]) 1 (r2_Body.c1p a0) (r2_Body.c1x o) (r2_Body.c1n o) (r2_Body.c1q a0 o):=by
  unfold r2_Body.c1; exact
   Owp.bnd fun y4 e5 =>
   Owp.bif (fun e6 =>
   Owp.bnd fun y7 e8 =>
   Owp.bif (fun e9 =>
   Owp.bnd fun y10 e11 =>
   Owp.bif (fun e12 =>
   Owp.bnd fun y13 e14 =>
   Owp.some (triple_way (r2_Body.cok k) hmix [rS T4 y4,fF,fF,fF,rS T4 y7,fF,fF,fF,fF,fF,rS T4 y10,fF,fF,fF,fF,fF,rS T4 y13,fF,fF] [] [(0,0)] (via (finP (aI (aI (aI (aI (aI (aI (aI (aI (aI (aI (aI (aI (aI (aI (aI (aI trivial e5) (congrArg not e6)) (congrArg not e6)) (aI (congrArg not e6) e8)) (congrArg not e6)) (congrArg not e6)) (congrArg not e9)) (congrArg not e9)) (aI (congrArg not e9) e11)) (congrArg not e9)) (congrArg not e9)) (congrArg not e12)) (congrArg not e12)) (aI (congrArg not e12) e14)) (congrArg not e12)) (congrArg not e12)) .normal [(0,0)] (r2_Body.c1q a0 (!y13))) (by kernel_rfl)))) (fun e12 =>
   Owp.some (triple_way (r2_Body.cok k) hmix [rS T4 y4,fF,fF,fF,rS T4 y7,fF,fF,fF,fF,fF,rS T4 y10,fF,fF,tT,tT,tT,tT,tT,tT] [] [(0,0)] (via (finP (aI (aI (aI (aI (aI (aI (aI (aI (aI (aI (aI (aI (aI (aI (aI (aI trivial e5) (congrArg not e6)) (congrArg not e6)) (aI (congrArg not e6) e8)) (congrArg not e6)) (congrArg not e6)) (congrArg not e9)) (congrArg not e9)) (aI (congrArg not e9) e11)) (congrArg not e9)) (congrArg not e9)) (congrArg not e12)) (congrArg not e12)) (congrArg not e12)) (congrArg not e12)) (congrArg not e12)) .normal [(0,0)] (r2_Body.c1q a0 true)) (by kernel_rfl))))) (fun e9 =>
   Owp.some (triple_way (r2_Body.cok k) hmix [rS T4 y4,fF,fF,fF,rS T4 y7,fF,fF,tT,tT,tT,tT,tT,tT,tT,tT,tT,tT,tT,tT] [] [(0,0)] (via (finP (aI (aI (aI (aI (aI (aI (aI (aI (aI (aI (aI (aI (aI (aI (aI (aI trivial e5) (congrArg not e6)) (congrArg not e6)) (aI (congrArg not e6) e8)) (congrArg not e6)) (congrArg not e6)) (congrArg not e9)) (congrArg not e9)) (congrArg not e9)) (congrArg not e9)) (congrArg not e9)) tt) tt) tt) tt) tt) .normal [(0,0)] (r2_Body.c1q a0 true)) (by kernel_rfl))))) (fun e6 =>
   Owp.some (triple_way (r2_Body.cok k) hmix [rS T4 y4,tT,tT,tT,tT,tT,tT,tT,tT,tT,tT,tT,tT,tT,tT,tT,tT,tT,tT] [] [(0,0)] (via (finP (aI (aI (aI (aI (aI (aI (aI (aI (aI (aI (aI (aI (aI (aI (aI (aI trivial e5) (congrArg not e6)) (congrArg not e6)) (congrArg not e6)) (congrArg not e6)) (congrArg not e6)) tt) tt) tt) tt) tt) tt) tt) tt) tt) tt) .normal [(0,0)] (r2_Body.c1q a0 true)) (by kernel_rfl))))
noncomputable def r2_Body.c2p (a0:V67):SL:=⟨[(1,(.val .ptr ⟨0,0,(0:Int),0,0⟩))],[(0,.cells T67 a0)]⟩
noncomputable def r2_Body.c2q (a0:V67) (o:Bool):SL:=(fun v=>⟨[(1,(.val .ptr ⟨0,0,(0:Int),0,0⟩)),(60,(.val T4 v))],[(0,.cells T67 a0)]⟩) o
noncomputable def r2_Body.c2x (o:Bool):Ex:=(fun _=>.normal) o
noncomputable def r2_Body.c2n (o:Bool):Nat:=(fun _=>1) o
theorem r2_Body.c2_ok (k:Nat) (a0:V67):Owp (r2_Body.c2 k a0) fun o=>Triple PR (r2_Body.cx k) (sub r2_Body.code [1,1,1,0,0]) 1 (r2_Body.c2p a0) (r2_Body.c2x o) (r2_Body.c2n o) (r2_Body.c2q a0 o):=by
  unfold r2_Body.c2; exact
   Owp.bnd fun y18 e19 =>
   Owp.bif (fun e20 =>
   Owp.bnd fun y21 e22 =>
   Owp.bif (fun e23 =>
   Owp.bnd fun y24 e25 =>
   Owp.bif (fun e26 =>
   Owp.bnd fun y27 e28 =>
   Owp.bif (fun e29 =>
   Owp.bnd fun y30 e31 =>
   Owp.some (triple_way (r2_Body.cok k) hmix [rS T4 y18,fF,fF,fF,rS T4 y21,fF,fF,fF,fF,fF,rS T4 y24,fF,fF,fF,fF,fF,rS T4 y27,fF,fF,fF,fF,fF,rS T4 y30,fF,fF] [] [(0,0)] (via (finP (aI (aI (aI (aI (aI (aI (aI (aI (aI (aI (aI (aI (aI (aI (aI (aI (aI (aI (aI (aI (aI trivial e19) (congrArg not e20)) (congrArg not e20)) (aI (congrArg not e20) e22)) (congrArg not e20)) (congrArg not e20)) (congrArg not e23)) (congrArg not e23)) (aI (congrArg not e23) e25)) (congrArg not e23)) (congrArg not e23)) (congrArg not e26)) (congrArg not e26)) (aI (congrArg not e26) e28)) (congrArg not e26)) (congrArg not e26)) (congrArg not e29)) (congrArg not e29)) (aI (congrArg not e29) e31)) (congrArg not e29)) (congrArg not e29)) .normal [(0,0)] (r2_Body.c2q a0 (!y30))) (by kernel_rfl)))) (fun e29 =>
   Owp.some (triple_way (r2_Body.cok k) hmix [rS T4 y18,fF,fF,fF,rS T4 y21,fF,fF,fF,fF,fF,rS T4 y24,fF,fF,fF,fF,fF,rS T4 y27,fF,fF,tT,tT,tT,tT,tT,tT] [] [(0,0)] (via (finP (aI (aI (aI (aI (aI (aI (aI (aI (aI (aI (aI (aI (aI (aI (aI (aI (aI (aI (aI (aI (aI trivial e19) (congrArg not e20)) (congrArg not e20)) (aI (congrArg not e20) e22)) (congrArg not e20)) (congrArg not e20)) (congrArg not e23)) (congrArg not e23)) (aI (congrArg not e23) e25)) (congrArg not e23)) (congrArg not e23)) (congrArg not e26)) (congrArg not e26)) (aI (congrArg not e26) e28)) (congrArg not e26)) (congrArg not e26)) (congrArg not e29)) (congrArg not e29)) (congrArg not e29)) (congrArg not e29)) (congrArg not e29)) .normal [(0,0)] (r2_Body.c2q a0 true)) (by kernel_rfl))))) (fun e26 =>
   Owp.some (triple_way (r2_Body.cok k) hmix [rS T4 y18,fF,fF,fF,rS T4 y21,fF,fF,fF,fF,fF,rS T4 y24,fF,fF,tT,tT,tT,tT,tT,tT,tT,tT,tT,tT,tT,tT] [] [(0,0)] (via (finP (aI (aI (aI (aI (aI (aI (aI (aI (aI (aI (aI (aI (aI (aI (aI (aI (aI (aI (aI (aI (aI trivial e19) (congrArg not e20)) (congrArg not e20)) (aI (congrArg not e20) e22)) (congrArg not e20)) (congrArg not e20)) (congrArg not e23)) (congrArg not e23)) (aI (congrArg not e23) e25)) (congrArg not e23)) (congrArg not e23)) (congrArg not e26)) (congrArg not e26)) (congrArg not e26)) (congrArg not e26)) (congrArg not e26)) tt) tt) tt) tt) tt) .normal [(0,0)] (r2_Body.c2q a0 true)) (by kernel_rfl))))) (fun e23 =>
   Owp.some (triple_way (r2_Body.cok k) hmix [rS T4 y18,fF,fF,fF,rS T4 y21,fF,fF,tT,tT,tT,tT,tT,tT,tT,tT,tT,tT,tT,tT,tT,tT,tT,tT,tT,tT] [] [(0,0)] (via (finP (aI (aI (aI (aI (aI (aI (aI (aI (aI (aI (aI (aI (aI (aI (aI (aI (aI (aI (aI (aI (aI trivial e19) (congrArg not e20)) (congrArg not e20)) (aI (congrArg not e20) e22)) (congrArg not e20)) (congrArg not e20)) (congrArg not e23)) (congrArg not e23)) (congrArg not e23)) (congrArg not e23)) (congrArg not e23)) tt) tt) tt) tt) tt) tt) tt) tt) tt) tt) .normal [(0,0)] (r2_Body.c2q a0 true)) (by kernel_rfl))))) (fun e20 =>
   Owp.some (triple_way (r2_Body.cok k) hmix [rS T4 y18,tT,tT,tT,tT,tT,tT,tT,tT,tT,tT,tT,tT,tT,tT,tT,tT,tT,tT,tT,tT,tT,tT,tT,tT] [] [(0,0)] (via (finP (aI (aI (aI (aI (aI (aI (aI (aI (aI (aI (aI (aI (aI (aI (aI (aI (aI (aI (aI (aI (aI trivial e19) (congrArg not e20)) (congrArg not e20)) (congrArg not e20)) (congrArg not e20)) (congrArg not e20)) tt) tt) tt) tt) tt) tt) tt) tt) tt) tt) tt) tt) tt) tt) tt) .normal [(0,0)] (r2_Body.c2q a0 true)) (by kernel_rfl))))
noncomputable def r2_Body.c3p (a0:V67):SL:=⟨[(1,(.val .ptr ⟨0,0,(0:Int),0,0⟩))],[(0,.cells T67 a0)]⟩
noncomputable def r2_Body.c3q (a0:V67) (o:Bool):SL:=(fun v=>⟨[(1,(.val .ptr ⟨0,0,(0:Int),0,0⟩)),(4,(.val T4 v))],[(0,.cells T67 a0)]⟩) o
noncomputable def r2_Body.c3x (o:Bool):Ex:=(fun _=>.normal) o
noncomputable def r2_Body.c3n (o:Bool):Nat:=(fun _=>1) o
theorem r2_Body.c3_ok (k:Nat) (a0:V67):Owp (r2_Body.c3 k a0) fun o=>Triple PR (r2_Body.cx k) (sub r2_Body.code [1,1,1,1,0]) 1 (r2_Body.c3p a0) (r2_Body.c3x o) (r2_Body.c3n o) (r2_Body.c3q a0 o):=by
  unfold r2_Body.c3; exact
   Owp.bif (fun e35 =>
   Owp.some (triple_way (r2_Body.cok k) hmix [tT,tT,tT,tT,tT,tT,tT,tT,tT] [] [(0,0)] (via (finP (aI (aI (aI (aI (aI (aI (aI (aI (aI trivial e35) e35) e35) e35) e35) tt) tt) tt) tt) .normal [(0,0)] (r2_Body.c3q a0 true)) (by kernel_rfl)))) (fun e35 =>
   Owp.bif (fun e36 =>
   Owp.some (triple_way (r2_Body.cok k) hmix [fF,fF,fF,fF,fF,tT,tT,tT,tT] [] [(0,0)] (via (finP (aI (aI (aI (aI (aI (aI (aI (aI (aI trivial e35) e35) e35) e35) e35) e36) e36) e36) e36) .normal [(0,0)] (r2_Body.c3q a0 true)) (by kernel_rfl)))) (fun e36 =>
   Owp.some (triple_way (r2_Body.cok k) hmix [fF,fF,fF,fF,fF,fF,fF,fF,fF] [] [(0,0)] (via (finP (aI (aI (aI (aI (aI (aI (aI (aI (aI trivial e35) e35) e35) e35) e35) e36) e36) e36) e36) .normal [(0,0)] (r2_Body.c3q a0 (ine a0.2.2.2.1 (0:Int)))) (by kernel_rfl)))))
noncomputable def r2_Body.c4p (a0:V67) (o37:Bool):SL:=⟨[(1,(.val .ptr ⟨0,0,(0:Int),0,0⟩)),(4,(.val T4 o37))],[(0,.cells T67 a0)]⟩
noncomputable def r2_Body.c4q (a0:V67) (o37 o:Bool):SL:=(fun v=>⟨[(1,(.val .ptr ⟨0,0,(0:Int),0,0⟩)),(4,(.val T4 o37)),(76,(.val T4 v))],[(0,.cells T67 a0)]⟩) o
noncomputable def r2_Body.c4x (o:Bool):Ex:=(fun _=>.normal) o
noncomputable def r2_Body.c4n (o:Bool):Nat:=(fun _=>1) o
theorem r2_Body.c4_ok (k:Nat) (a0:V67) (o37:Bool):Owp (r2_Body.c4 k a0) fun o=>Triple PR (r2_Body.cx k) (sub r2_Body.code [1,1,1,1,1,0,0,0,0]) 1 (r2_Body.c4p a0 o37) (r2_Body.c4x o) (r2_Body.c4n o) (r2_Body.c4q a0 o37 o):=by
  unfold r2_Body.c4; exact
   Owp.bif (fun e39 =>
   Owp.some (triple_way (r2_Body.cok k) hmix [tT,tT,tT,tT] [] [(0,0)] (via (finP (aI (aI (aI (aI trivial e39) e39) e39) e39) .normal [(0,0)] (r2_Body.c4q a0 o37 (igt a0.2.2.2.2.2.1 (0:Int)))) (by kernel_rfl)))) (fun e39 =>
   Owp.some (triple_way (r2_Body.cok k) hmix [fF,fF,fF,fF] [] [(0,0)] (via (finP (aI (aI (aI (aI trivial e39) e39) e39) e39) .normal [(0,0)] (r2_Body.c4q a0 o37 false)) (by kernel_rfl))))
noncomputable def r2_Body.c5p (a0:V67) (o37 o40:Bool):SL:=⟨[(1,(.val .ptr ⟨0,0,(0:Int),0,0⟩)),(4,(.val T4 o37)),(76,(.val T4 o40))],[(0,.cells T67 a0)]⟩
noncomputable def r2_Body.c5q (a0:V67) (o37 o:Bool):SL:=(fun v=>⟨[(1,(.val .ptr ⟨0,0,(0:Int),0,0⟩)),(4,(.val T4 o37)),(76,(.val T4 v))],[(0,.cells T67 a0)]⟩) o
noncomputable def r2_Body.c5x (o:Bool):Ex:=(fun _=>.normal) o
noncomputable def r2_Body.c5n (o:Bool):Nat:=(fun _=>1) o
theorem r2_Body.c5_ok (k:Nat) (a0:V67) (o37 o40:Bool):Owp (r2_Body.c5 k a0 o40) fun o=>Triple PR (r2_Body.cx k) (sub r2_Body.code [1,1,1,1,1,0,0,0,1]) 1 (r2_Body.c5p a0 o37 o40) (r2_Body.c5x o) (r2_Body.c5n o) (r2_Body.c5q a0 o37 o):=by
  unfold r2_Body.c5; exact
   Owp.bif (fun e42 =>
   Owp.some (triple_way (r2_Body.cok k) hmix [tT] [] [(0,0)] (via (finP (aI trivial e42) .normal [(0,0)] (r2_Body.c5q a0 o37 o40)) (by kernel_rfl)))) (fun e42 =>
   Owp.bif (fun e43 =>
   Owp.some (triple_way (r2_Body.cok k) hmix [fF,tT,tT,tT,tT] [] [(0,0)] (via (finP (aI (aI (aI (aI (aI trivial e42) e43) e43) e43) e43) .normal [(0,0)] (r2_Body.c5q a0 o37 (ieq a0.2.2.2.2.2.1 (0:Int)))) (by kernel_rfl)))) (fun e43 =>
   Owp.some (triple_way (r2_Body.cok k) hmix [fF,fF,fF,fF,fF] [] [(0,0)] (via (finP (aI (aI (aI (aI (aI trivial e42) e43) e43) e43) e43) .normal [(0,0)] (r2_Body.c5q a0 o37 false)) (by kernel_rfl)))))
noncomputable def r2_Body.c6p (a0:V67) (o37:Bool):SL:=⟨[(1,(.val .ptr ⟨0,0,(0:Int),0,0⟩)),(4,(.val T4 o37))],[(0,.cells T67 a0)]⟩
noncomputable def r2_Body.c6q (a0:V67) (o37 o:Bool):SL:=(fun v=>⟨[(1,(.val .ptr ⟨0,0,(0:Int),0,0⟩)),(4,(.val T4 o37)),(93,(.val T4 v))],[(0,.cells T67 a0)]⟩) o
noncomputable def r2_Body.c6x (o:Bool):Ex:=(fun _=>.normal) o
noncomputable def r2_Body.c6n (o:Bool):Nat:=(fun _=>1) o
theorem r2_Body.c6_ok (k:Nat) (a0:V67) (o37:Bool):Owp (r2_Body.c6 k a0 o37) fun o=>Triple PR (r2_Body.cx k) (sub r2_Body.code [1,1,1,1,1,0,0,1,1,0]) 1 (r2_Body.c6p a0 o37) (r2_Body.c6x o) (r2_Body.c6n o) (r2_Body.c6q a0 o37 o):=by
  unfold r2_Body.c6; exact
   Owp.bif (fun e47 =>
   Owp.bif (fun e48 =>
   Owp.some (triple_way (r2_Body.cok k) hmix [tT,tT,tT,tT,tT,tT,tT,tT,tT,tT,tT,tT,tT] [] [(0,0)] (via (finP (aI (aI (aI (aI (aI (aI (aI (aI (aI (aI (aI trivial e47) e47) e48) e48) (aI e47 e48)) e47) tt) tt) tt) (aI e47 tt)) e47) .normal [(0,0)] (r2_Body.c6q a0 o37 true)) (by kernel_rfl)))) (fun e48 =>
   Owp.bif (fun e49 =>
   Owp.some (triple_way (r2_Body.cok k) hmix [tT,tT,fF,fF,tT,fF,tT,tT,tT,tT,tT,tT,tT] [] [(0,0)] (via (finP (aI (aI (aI (aI (aI (aI (aI (aI (aI (aI (aI trivial e47) e47) e48) e48) (aI e47 e48)) e47) e49) e49) e49) (aI e47 e49)) e47) .normal [(0,0)] (r2_Body.c6q a0 o37 true)) (by kernel_rfl)))) (fun e49 =>
   Owp.some (triple_way (r2_Body.cok k) hmix [tT,tT,fF,fF,tT,fF,tT,fF,fF,fF,tT,fF,tT] [] [(0,0)] (via (finP (aI (aI (aI (aI (aI (aI (aI (aI (aI (aI (aI trivial e47) e47) e48) e48) (aI e47 e48)) e47) e49) e49) e49) (aI e47 e49)) e47) .normal [(0,0)] (r2_Body.c6q a0 o37 (igt a0.2.2.2.2.2.2.2.2.2.2.1 (0:Int)))) (by kernel_rfl)))))) (fun e47 =>
   Owp.some (triple_way (r2_Body.cok k) hmix [fF,fF,tT,tT,fF,tT,fF,tT,tT,tT,fF,tT,fF] [] [(0,0)] (via (finP (aI (aI (aI (aI (aI (aI trivial e47) e47) e47) e47) e47) e47) .normal [(0,0)] (r2_Body.c6q a0 o37 false)) (by kernel_rfl))))
noncomputable def r2_Body.c7p (a0:V67) (o37:Bool):SL:=⟨[(1,(.val .ptr ⟨0,0,(0:Int),0,0⟩)),(4,(.val T4 o37))],[(0,.cells T67 a0)]⟩
noncomputable def r2_Body.c7q (o:Bool):SL:=(fun v=>⟨[(109,(.val T4 v))],[]⟩) o
noncomputable def r2_Body.c7x (o:Bool):Ex:=(fun _=>.normal) o
noncomputable def r2_Body.c7n (o:Bool):Nat:=(fun _=>0) o
theorem r2_Body.c7_ok (k:Nat) (a0:V67) (o37:Bool):Owp (r2_Body.c7 k a0 o37) fun o=>Triple PR (r2_Body.cx k) (sub r2_Body.code [1,1,1,1,1,0,0,1,1,1,1,0]) 1 (r2_Body.c7p a0 o37) (r2_Body.c7x o) (r2_Body.c7n o) (r2_Body.c7q o):=by
  unfold r2_Body.c7; exact
   Owp.bif (fun e53 =>
   Owp.some (triple_way (r2_Body.cok k) hmix [tT,tT] [] [] (via (finP (aI (aI trivial e53) e53) .normal [] (r2_Body.c7q o37)) (by kernel_rfl)))) (fun e53 =>
   Owp.some (triple_way (r2_Body.cok k) hmix [fF,fF] [] [] (via (finP (aI (aI trivial e53) e53) .normal [] (r2_Body.c7q false)) (by kernel_rfl))))
theorem r2_Body.way (k:Nat) (a0:V67):Owp (r2_Body k a0) fun y=>∃ w c0,exec PR (r2_Body.cx k) r2_Body.code 0 (entry (.pair T67 .unit) (a0,())).st w (Ret (r2_Body.cx k) Try.f129 c0 (.one (.dp T2)) y):=by
  unfold r2_Body; exact
   Owp.bnd fun y1 e2 =>
   Owp.bif (fun e3 =>
   Owp.some (⟨[rS T2 y1,tT],[],via (retP (aI (aI trivial e2) e3) (.one (.dp T2)) (y1:Int)) (by kernel_rfl)⟩)) (fun e3 =>
   Owp.bnd fun o15 e16 =>
   Owp.bif (fun e17 =>
   Owp.some (⟨[rS T2 y1,fF,.cutR 4 ⟨[],[(0,0)],(r2_Body.c1p a0),1,.normal,(r2_Body.c1q a0 o15),1⟩,tT],[],via (cutP (aI (aI trivial e2) e3) [(0,0)] (r2_Body.c1p a0) (((r2_Body.c1_ok k a0).ap e16)) (retP (aI trivial e17) (.one (.dp T2)) ((1:Int):Int))) (by kernel_rfl)⟩)) (fun e17 =>
   Owp.bnd fun o32 e33 =>
   Owp.bif (fun e34 =>
   Owp.some (⟨[rS T2 y1,fF,.cutR 4 ⟨[],[(0,0)],(r2_Body.c1p a0),1,.normal,(r2_Body.c1q a0 o15),1⟩,fF,.cutR 6 ⟨[],[(0,0)],(r2_Body.c2p a0),1,.normal,(r2_Body.c2q a0 o32),1⟩,tT],[],via (cutP (aI (aI trivial e2) e3) [(0,0)] (r2_Body.c1p a0) (((r2_Body.c1_ok k a0).ap e16)) (cutP (aI trivial e17) [(0,0)] (r2_Body.c2p a0) (((r2_Body.c2_ok k a0).ap e33)) (retP (aI trivial e34) (.one (.dp T2)) ((1:Int):Int)))) (by kernel_rfl)⟩)) (fun e34 =>
   Owp.bnd fun o37 e38 =>
   Owp.bnd fun o40 e41 =>
   Owp.bnd fun o44 e45 =>
   Owp.bif (fun e46 =>
   Owp.some (⟨[rS T2 y1,fF,.cutR 4 ⟨[],[(0,0)],(r2_Body.c1p a0),1,.normal,(r2_Body.c1q a0 o15),1⟩,fF,.cutR 6 ⟨[],[(0,0)],(r2_Body.c2p a0),1,.normal,(r2_Body.c2q a0 o32),1⟩,fF,.cutR 8 ⟨[],[(0,0)],(r2_Body.c3p a0),1,.normal,(r2_Body.c3q a0 o37),1⟩,.cutR 9 ⟨[],[(0,0)],(r2_Body.c4p a0 o37),1,.normal,(r2_Body.c4q a0 o37 o40),1⟩,.cut ⟨[],[(0,0)],(r2_Body.c5p a0 o37 o40),1,.normal,(r2_Body.c5q a0 o37 o44),1⟩,tT],[],via (cutP (aI (aI trivial e2) e3) [(0,0)] (r2_Body.c1p a0) (((r2_Body.c1_ok k a0).ap e16)) (cutP (aI trivial e17) [(0,0)] (r2_Body.c2p a0) (((r2_Body.c2_ok k a0).ap e33)) (cutP (aI trivial e34) [(0,0)] (r2_Body.c3p a0) (((r2_Body.c3_ok k a0).ap e38)) (cutP trivial [(0,0)] (r2_Body.c4p a0 o37) (((r2_Body.c4_ok k a0 o37).ap e41)) (cutP trivial [(0,0)] (r2_Body.c5p a0 o37 o40) (((r2_Body.c5_ok k a0 o37 o40).ap e45)) (retP (aI trivial e46) (.one (.dp T2)) ((3:Int):Int))))))) (by kernel_rfl)⟩)) (fun e46 =>
   Owp.bnd fun o50 e51 =>
   Owp.bif (fun e52 =>
   Owp.some (⟨[rS T2 y1,fF,.cutR 4 ⟨[],[(0,0)],(r2_Body.c1p a0),1,.normal,(r2_Body.c1q a0 o15),1⟩,fF,.cutR 6 ⟨[],[(0,0)],(r2_Body.c2p a0),1,.normal,(r2_Body.c2q a0 o32),1⟩,fF,.cutR 8 ⟨[],[(0,0)],(r2_Body.c3p a0),1,.normal,(r2_Body.c3q a0 o37),1⟩,.cutR 9 ⟨[],[(0,0)],(r2_Body.c4p a0 o37),1,.normal,(r2_Body.c4q a0 o37 o40),1⟩,.cut ⟨[],[(0,0)],(r2_Body.c5p a0 o37 o40),1,.normal,(r2_Body.c5q a0 o37 o44),1⟩,fF,.cutR 12 ⟨[],[(0,0)],(r2_Body.c6p a0 o37),1,.normal,(r2_Body.c6q a0 o37 o50),1⟩,tT],[],via (cutP (aI (aI trivial e2) e3) [(0,0)] (r2_Body.c1p a0) (((r2_Body.c1_ok k a0).ap e16)) (cutP (aI trivial e17) [(0,0)] (r2_Body.c2p a0) (((r2_Body.c2_ok k a0).ap e33)) (cutP (aI trivial e34) [(0,0)] (r2_Body.c3p a0) (((r2_Body.c3_ok k a0).ap e38)) (cutP trivial [(0,0)] (r2_Body.c4p a0 o37) (((r2_Body.c4_ok k a0 o37).ap e41)) (cutP trivial [(0,0)] (r2_Body.c5p a0 o37 o40) (((r2_Body.c5_ok k a0 o37 o40).ap e45)) (cutP (aI trivial e46) [(0,0)] (r2_Body.c6p a0 o37) (((r2_Body.c6_ok k a0 o37).ap e51)) (retP (aI trivial e52) (.one (.dp T2)) ((3:Int):Int)))))))) (by kernel_rfl)⟩)) (fun e52 =>
   Owp.bnd fun o54 e55 =>
   Owp.bif (fun e56 =>
   Owp.some (⟨[rS T2 y1,fF,.cutR 4 ⟨[],[(0,0)],(r2_Body.c1p a0),1,.normal,(r2_Body.c1q a0 o15),1⟩,fF,.cutR 6 ⟨[],[(0,0)],(r2_Body.c2p a0),1,.normal,(r2_Body.c2q a0 o32),1⟩,fF,.cutR 8 ⟨[],[(0,0)],(r2_Body.c3p a0),1,.normal,(r2_Body.c3q a0 o37),1⟩,.cutR 9 ⟨[],[(0,0)],(r2_Body.c4p a0 o37),1,.normal,(r2_Body.c4q a0 o37 o40),1⟩,.cut ⟨[],[(0,0)],(r2_Body.c5p a0 o37 o40),1,.normal,(r2_Body.c5q a0 o37 o44),1⟩,fF,.cutR 12 ⟨[],[(0,0)],(r2_Body.c6p a0 o37),1,.normal,(r2_Body.c6q a0 o37 o50),1⟩,fF,.cutR 14 ⟨[],[(0,0)],(r2_Body.c7p a0 o37),1,.normal,(r2_Body.c7q o54),0⟩,tT],[],via (cutP (aI (aI trivial e2) e3) [(0,0)] (r2_Body.c1p a0) (((r2_Body.c1_ok k a0).ap e16)) (cutP (aI trivial e17) [(0,0)] (r2_Body.c2p a0) (((r2_Body.c2_ok k a0).ap e33)) (cutP (aI trivial e34) [(0,0)] (r2_Body.c3p a0) (((r2_Body.c3_ok k a0).ap e38)) (cutP trivial [(0,0)] (r2_Body.c4p a0 o37) (((r2_Body.c4_ok k a0 o37).ap e41)) (cutP trivial [(0,0)] (r2_Body.c5p a0 o37 o40) (((r2_Body.c5_ok k a0 o37 o40).ap e45)) (cutP (aI trivial e46) [(0,0)] (r2_Body.c6p a0 o37) (((r2_Body.c6_ok k a0 o37).ap e51)) (cutP (aI trivial e52) [(0,0)] (r2_Body.c7p a0 o37) (((r2_Body.c7_ok k a0 o37).ap e55)) (retP (aI trivial e56) (.one (.dp T2)) ((3:Int):Int))))))))) (by kernel_rfl)⟩)) (fun e56 =>
   Owp.some (⟨[rS T2 y1,fF,.cutR 4 ⟨[],[(0,0)],(r2_Body.c1p a0),1,.normal,(r2_Body.c1q a0 o15),1⟩,fF,.cutR 6 ⟨[],[(0,0)],(r2_Body.c2p a0),1,.normal,(r2_Body.c2q a0 o32),1⟩,fF,.cutR 8 ⟨[],[(0,0)],(r2_Body.c3p a0),1,.normal,(r2_Body.c3q a0 o37),1⟩,.cutR 9 ⟨[],[(0,0)],(r2_Body.c4p a0 o37),1,.normal,(r2_Body.c4q a0 o37 o40),1⟩,.cut ⟨[],[(0,0)],(r2_Body.c5p a0 o37 o40),1,.normal,(r2_Body.c5q a0 o37 o44),1⟩,fF,.cutR 12 ⟨[],[(0,0)],(r2_Body.c6p a0 o37),1,.normal,(r2_Body.c6q a0 o37 o50),1⟩,fF,.cutR 14 ⟨[],[(0,0)],(r2_Body.c7p a0 o37),1,.normal,(r2_Body.c7q o54),0⟩,fF],[],via (cutP (aI (aI trivial e2) e3) [(0,0)] (r2_Body.c1p a0) (((r2_Body.c1_ok k a0).ap e16)) (cutP (aI trivial e17) [(0,0)] (r2_Body.c2p a0) (((r2_Body.c2_ok k a0).ap e33)) (cutP (aI trivial e34) [(0,0)] (r2_Body.c3p a0) (((r2_Body.c3_ok k a0).ap e38)) (cutP trivial [(0,0)] (r2_Body.c4p a0 o37) (((r2_Body.c4_ok k a0 o37).ap e41)) (cutP trivial [(0,0)] (r2_Body.c5p a0 o37 o40) (((r2_Body.c5_ok k a0 o37 o40).ap e45)) (cutP (aI trivial e46) [(0,0)] (r2_Body.c6p a0 o37) (((r2_Body.c6_ok k a0 o37).ap e51)) (cutP (aI trivial e52) [(0,0)] (r2_Body.c7p a0 o37) (((r2_Body.c7_ok k a0 o37).ap e55)) (retP (aI trivial e56) (.one (.dp T2)) ((0:Int):Int))))))))) (by kernel_rfl)⟩)))))))
theorem r2_Body.ok (k:Nat):FnOk PR 129 (r2_Body.sp k) :=
  fn_ok (r2_Body.cok k) hmix Try.func129 (code:=r2_Body.code) (by kernel_rfl) (by kernel_rfl) (by kernel_rfl) rfl rfl (by kernel_rfl) (by kernel_rfl) (by kernel_rfl) (fun x=>Nat.le_of_ble_eq_true (by kernel_rfl)) fun x y hy=>(r2_Body.way k x.1).ap hy
noncomputable def r2_Bodies.code:Code:=Func.cd Try.f58
def r2_Bodies.c1 (k:Nat) (a0:(List V67)):Nat → Int → Option (Int ⊕ Unit)
  | 0,_=>none
  | n+1,v2 =>
   bif' (ilt v2 (len a0))
   (req (inL v2 a0) <|
   bnd (r2_Body k (el Z67 a0 v2)) fun y5 =>
   bif' (ine y5 0)
   (some (.inl y5))
   (r2_Bodies.c1 k a0 n (iadd .i64 v2 1)))
   (some (.inr ()))
def r2_Bodies (k:Nat) (a0:(List V67)):Option Int :=
  bif' (igt (len a0) 64)
  (some 2)
  (bnd (r2_Bodies.c1 k a0 k 0) fun o8 =>
   two o8 (fun y10 =>
   some y10) (fun y12 =>
   some 0))
noncomputable def r2_Bodies.sp (k:Nat):Go.Sx.Spec:=⟨(.pair (.slice T67) .unit),(.one (.dp T2)),fun x=>r2_Bodies k x.1,false⟩
noncomputable def r2_Bodies.cx (k:Nat):Go.Sx.Ctx:=⟨tys,[(129,r2_Body.sp k)],eqs,21,0,[],false⟩
theorem r2_Bodies.cok (k:Nat):CtxOk PR (r2_Bodies.cx k):=ctx_ok tysOk eqsOk (FnsOk.cons (r2_Body.ok k) FnsOk.nil) HsOk.nil
noncomputable def r2_Bodies.c1p (a0:(List V67)) (v2:Int):SL:=⟨[(9,(.val (.slice T67) a0)),(10,(.val T2 (len a0))),(11,(.val T2 v2))],[]⟩
noncomputable def r2_Bodies.c1q (o:Int ⊕ Unit):SL:=(fun o=>two o (fun v=>⟨[(2,(.val T2 v))],[]⟩) (fun v=>⟨[],[]⟩)) o
noncomputable def r2_Bodies.c1x (o:Int ⊕ Unit):Ex:=(fun o=>two o (fun _=>.ret) (fun _=>(.exit 0))) o
noncomputable def r2_Bodies.c1n (o:Int ⊕ Unit):Nat:=(fun o=>two o (fun _=>0) (fun _=>0)) o
theorem r2_Bodies.c1_ok (k:Nat) (a0:(List V67)):∀ (n:Nat) (v2:Int),Owp (r2_Bodies.c1 k a0 n v2) fun o=>LTriple PR (r2_Bodies.cx k) (sub r2_Bodies.code [1,1,0,1,0,0]) 0 (r2_Bodies.c1p a0 v2) (r2_Bodies.c1x o) (r2_Bodies.c1n o) (r2_Bodies.c1q o)
  | 0,_=>fun _ h=>nomatch h
  | n+1,v2=>Owp.of (r2_Bodies.c1.eq_2 ..) (
   Owp.bif (fun e3 =>
   Owp.req fun h4 =>
   Owp.bnd fun y5 e6 =>
   Owp.bif (fun e7 =>
   Owp.some (loop_exit (r2_Bodies.cok k) hmix [tT,rS T2 y5,tT] [] [] exne_ret (via (finP (aI (aI (aI (aI trivial e3) h4) e6) e7) .ret [] (r2_Bodies.c1q (.inl y5))) (by kernel_rfl)))) (fun e7 =>
   fun y hy=>loop_back (r2_Bodies.cok k) hmix 0 (r2_Bodies.c1p a0 (iadd .i64 v2 (1:Int))) [tT,rS T2 y5,fF] [] [] (via (finP (aI (aI (aI (aI trivial e3) h4) e6) e7) .normal [] (r2_Bodies.c1p a0 (iadd .i64 v2 (1:Int)))) (by kernel_rfl)) ((r2_Bodies.c1_ok k a0 n (iadd .i64 v2 (1:Int))).ap hy))) (fun e3 =>
   Owp.some (loop_exit (r2_Bodies.cok k) hmix [fF] [] [] (exne 0) (via (finP (aI trivial e3) (.exit 0) [] (r2_Bodies.c1q (.inr ()))) (by kernel_rfl)))))
theorem r2_Bodies.way (k:Nat) (a0:(List V67)):Owp (r2_Bodies k a0) fun y=>∃ w c0,exec PR (r2_Bodies.cx k) r2_Bodies.code 0 (entry (.pair (.slice T67) .unit) (a0,())).st w (Ret (r2_Bodies.cx k) Try.f58 c0 (.one (.dp T2)) y):=by
  unfold r2_Bodies; exact
   Owp.bif (fun e1 =>
   Owp.some (⟨[tT],[],via (retP (aI trivial e1) (.one (.dp T2)) ((2:Int):Int)) (by kernel_rfl)⟩)) (fun e1 =>
   Owp.bnd fun o8 e9 =>
   Owp.two (fun y10 e11 =>
   Owp.some (⟨[fF,.cut ⟨[],[],(r2_Bodies.c1p a0 (0:Int)),0,.ret,(r2_Bodies.c1q (.inl y10)),0⟩],[],via (cutP (aI trivial e1) [] (r2_Bodies.c1p a0 (0:Int)) (((r2_Bodies.c1_ok k a0 k (0:Int)).ap (e9.trans (congrArg some e11))).triple) (retP trivial (.one (.dp T2)) (y10:Int))) (by kernel_rfl)⟩)) (fun y12 e13 =>
   Owp.some (⟨[fF,.cut ⟨[],[],(r2_Bodies.c1p a0 (0:Int)),0,(.exit 0),(r2_Bodies.c1q (.inr ())),0⟩],[],via (cutP (aI trivial e1) [] (r2_Bodies.c1p a0 (0:Int)) (((r2_Bodies.c1_ok k a0 k (0:Int)).ap (e9.trans (congrArg some e13))).triple) (retP trivial (.one (.dp T2)) ((0:Int):Int))) (by kernel_rfl)⟩)))
theorem r2_Bodies.ok (k:Nat):FnOk PR 58 (r2_Bodies.sp k) :=
  fn_ok (r2_Bodies.cok k) hmix Try.func58 (code:=r2_Bodies.code) (by kernel_rfl) (by kernel_rfl) (by kernel_rfl) rfl rfl (by kernel_rfl) (by kernel_rfl) (by kernel_rfl) (fun x=>Nat.le_of_ble_eq_true (by kernel_rfl)) fun x y hy=>(r2_Bodies.way k x.1).ap hy
end Go.Proofs.T1
