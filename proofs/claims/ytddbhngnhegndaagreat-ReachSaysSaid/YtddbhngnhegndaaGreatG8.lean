import Derived.Test.YtddbhngnhegndaaGreatG7
namespace Go.Proofs.T1
open Go Go.Sx Go.Proofs
set_option maxRecDepth 100000
set_option linter.unusedVariables false
noncomputable def r2_Dot.code:Code:=Func.cd Tryz.f94
def r2_Dot (k:Nat) (a0 a1:V22):Option (List Int) :=
  bnd (r2_Of k a0.1) fun y1 =>
  bnd (r2_Of k a1.1) fun y3 =>
  bnd (r2_Big_Mul k y1 y3) fun y5 =>
  bnd (r2_Of k a0.2.1) fun y7 =>
  bnd (r2_Of k a1.2.1) fun y9 =>
  bnd (r2_Big_Mul k y7 y9) fun y11 =>
  bnd (r2_Big_Add k y5 y11) fun y13 =>
  some y13
noncomputable def r2_Dot.sp (k:Nat):Go.Sx.Spec:=⟨(.pair T22 (.pair T22 .unit)),(.one (.dp T72)),fun x=>r2_Dot k x.1 x.2.1,false⟩
noncomputable def r2_Dot.cx (k:Nat):Go.Sx.Ctx:=⟨tys,[(53,r2_Of.sp k),(90,r2_Big_Mul.sp k),(110,r2_Big_Add.sp k)],eqs,20,false⟩
theorem r2_Dot.cok (k:Nat):CtxOk PR (r2_Dot.cx k):=ctx_ok tysOk eqsOk (FnsOk.cons (r2_Of.ok k) (FnsOk.cons (r2_Big_Mul.ok k) (FnsOk.cons (r2_Big_Add.ok k) FnsOk.nil)))
theorem r2_Dot.way (k:Nat) (a0 a1:V22):Owp (r2_Dot k a0 a1) fun y=>∃ w c0,exec PR (r2_Dot.cx k) r2_Dot.code 0 (entry (.pair T22 (.pair T22 .unit)) (a0,a1,())).st w (Ret (r2_Dot.cx k) Tryz.f94 c0 (.one (.dp T72)) y):=by
  unfold r2_Dot; exact
   Owp.bnd fun y1 e2 =>
   Owp.bnd fun y3 e4 =>
   Owp.bnd fun y5 e6 =>
   Owp.bnd fun y7 e8 =>
   Owp.bnd fun y9 e10 =>
   Owp.bnd fun y11 e12 =>
   Owp.bnd fun y13 e14 =>
   Owp.some (⟨[rS T72 y1,rS T72 y3,rS T72 y5,rS T72 y7,rS T72 y9,rS T72 y11,rS T72 y13],[],via (retP (aI (aI (aI (aI (aI (aI (aI trivial e2) e4) e6) e8) e10) e12) e14) (.one (.dp T72)) (y13:(List Int))) (by kernel_rfl)⟩)
theorem r2_Dot.ok (k:Nat):FnOk PR 94 (r2_Dot.sp k) :=
  fn_ok (r2_Dot.cok k) hmix Tryz.func94 (code:=r2_Dot.code) (by kernel_rfl) (by kernel_rfl) (by kernel_rfl) rfl (by kernel_rfl) (by kernel_rfl) (by kernel_rfl) (fun x=>Nat.le_of_ble_eq_true (by kernel_rfl)) fun x y hy=>(r2_Dot.way k x.1 x.2.1).ap hy
noncomputable def r2_Root.code:Code:=Func.cd Tryz.f95
def r2_Root.c2 (k:Nat) (a0 v1 v2:Int):Option (Int) :=
  bif' (ile (imul .i64 (iadd .i64 v1 v2) (iadd .i64 v1 v2)) a0)
  (some (iadd .i64 v1 v2))
  (some v1)
def r2_Root.c1 (k:Nat) (a0:Int):Nat → Int → Int → Option (Int)
  | 0,_,_=>none
  | n+1,v1,v2 =>
   bif' (igt v2 0)
   (bnd (r2_Root.c2 k a0 v1 v2) fun o5 =>
   r2_Root.c1 k a0 n o5 (iquo .i64 v2 2))
   (some v1)
def r2_Root (k:Nat) (a0:Int):Option Int :=
  bnd (r2_Root.c1 k a0 k 0 1073741824) fun o7 =>
  some o7
noncomputable def r2_Root.sp (k:Nat):Go.Sx.Spec:=⟨(.pair T2 .unit),(.one (.dp T2)),fun x=>r2_Root k x.1,false⟩
noncomputable def r2_Root.cx (k:Nat):Go.Sx.Ctx:=⟨tys,[],eqs,22,false⟩
theorem r2_Root.cok (k:Nat):CtxOk PR (r2_Root.cx k):=ctx_ok tysOk eqsOk FnsOk.nil
noncomputable def r2_Root.c2p (a0 v1 v2:Int):SL:=⟨[(0,(.val T2 a0)),(3,(.val T2 v1)),(4,(.val T2 v2)),(17,(.val T4 (ile (imul .i64 (iadd .i64 v1 v2) (iadd .i64 v1 v2)) a0)))],[]⟩
noncomputable def r2_Root.c2q (a0 v2 o:Int):SL:=(fun v=>⟨[(0,(.val T2 a0)),(3,(.val T2 v)),(4,(.val T2 v2))],[]⟩) o
noncomputable def r2_Root.c2x (o:Int):Ex:=(fun _=>.normal) o
noncomputable def r2_Root.c2n (o:Int):Nat:=(fun _=>0) o
theorem r2_Root.c2_ok (k:Nat) (a0 v1 v2:Int):Owp (r2_Root.c2 k a0 v1 v2) fun o=>Triple PR (r2_Root.cx k) (sub r2_Root.code [1,1,0,1,0,0,1,0,0,1]) 0 (r2_Root.c2p a0 v1 v2) (r2_Root.c2x o) (r2_Root.c2n o) (r2_Root.c2q a0 v2 o):=by
  unfold r2_Root.c2; exact
   Owp.bif (fun e4 =>
   Owp.some (triple_way (r2_Root.cok k) hmix [tT] [] [] (via (finP (aI trivial e4) .normal [] (r2_Root.c2q a0 v2 (iadd .i64 v1 v2))) (by kernel_rfl)))) (fun e4 =>
   Owp.some (triple_way (r2_Root.cok k) hmix [fF] [] [] (via (finP (aI trivial e4) .normal [] (r2_Root.c2q a0 v2 v1)) (by kernel_rfl))))
noncomputable def r2_Root.c1p (a0 v1 v2:Int):SL:=⟨[(0,(.val T2 a0)),(3,(.val T2 v1)),(4,(.val T2 v2))],[]⟩
noncomputable def r2_Root.c1q (o:Int):SL:=(fun v=>⟨[(3,(.val T2 v))],[]⟩) o
noncomputable def r2_Root.c1x (o:Int):Ex:=(fun _=>(.exit 0)) o
noncomputable def r2_Root.c1n (o:Int):Nat:=(fun _=>0) o
theorem r2_Root.c1_ok (k:Nat) (a0:Int):∀ (n:Nat) (v1 v2:Int),Owp (r2_Root.c1 k a0 n v1 v2) fun o=>LTriple PR (r2_Root.cx k) (sub r2_Root.code [1,1,0,1,0,0]) 0 (r2_Root.c1p a0 v1 v2) (r2_Root.c1x o) (r2_Root.c1n o) (r2_Root.c1q o)
  | 0,_,_=>fun _ h=>nomatch h
  | n+1,v1,v2=>Owp.of (r2_Root.c1.eq_2 ..) (
   Owp.bif (fun e3 =>
   Owp.bnd fun o5 e6 =>
   fun y hy=>loop_back (r2_Root.cok k) hmix 0 (r2_Root.c1p a0 o5 (iquo .i64 v2 (2:Int))) [tT,.cut ⟨[],[],(r2_Root.c2p a0 v1 v2),0,.normal,(r2_Root.c2q a0 v2 o5),0⟩] [] [] (via (cutP (aI trivial e3) [] (r2_Root.c2p a0 v1 v2) (((r2_Root.c2_ok k a0 v1 v2).ap e6)) (finP (aI trivial (by decide:nz (2:Int))) .normal [] (r2_Root.c1p a0 o5 (iquo .i64 v2 (2:Int))))) (by kernel_rfl)) ((r2_Root.c1_ok k a0 n o5 (iquo .i64 v2 (2:Int))).ap hy)) (fun e3 =>
   Owp.some (loop_exit (r2_Root.cok k) hmix [fF] [] [] (exne 0) (via (finP (aI trivial e3) (.exit 0) [] (r2_Root.c1q v1)) (by kernel_rfl)))))
theorem r2_Root.way (k:Nat) (a0:Int):Owp (r2_Root k a0) fun y=>∃ w c0,exec PR (r2_Root.cx k) r2_Root.code 0 (entry (.pair T2 .unit) (a0,())).st w (Ret (r2_Root.cx k) Tryz.f95 c0 (.one (.dp T2)) y):=by
  unfold r2_Root; exact
   Owp.bnd fun o7 e8 =>
   Owp.some (⟨[.cut ⟨[],[],(r2_Root.c1p a0 (0:Int) (1073741824:Int)),0,(.exit 0),(r2_Root.c1q o7),0⟩],[],via (cutP trivial [] (r2_Root.c1p a0 (0:Int) (1073741824:Int)) (((r2_Root.c1_ok k a0 k (0:Int) (1073741824:Int)).ap e8).triple) (retP trivial (.one (.dp T2)) (o7:Int))) (by kernel_rfl)⟩)
theorem r2_Root.ok (k:Nat):FnOk PR 95 (r2_Root.sp k) :=
  fn_ok (r2_Root.cok k) hmix Tryz.func95 (code:=r2_Root.code) (by kernel_rfl) (by kernel_rfl) (by kernel_rfl) rfl (by kernel_rfl) (by kernel_rfl) (by kernel_rfl) (fun x=>Nat.le_of_ble_eq_true (by kernel_rfl)) fun x y hy=>(r2_Root.way k x.1).ap hy
noncomputable def r2_apart.code:Code:=Func.cd Tryz.f59
def r2_apart.c2 (k:Nat) (v25 v26 y38:Int):Option (Int) :=
  bif' (ile y38 0)
  (some (iadd .i64 v25 v26))
  (some v25)
def r2_apart.c1 (k:Nat) (y21 y23:(List Int)):Nat → Int → Int → Option (Int)
  | 0,_,_=>none
  | n+1,v25,v26 =>
   bif' (igt v26 0)
   (bnd (r2_Of k (iadd .i64 v25 v26)) fun y28 =>
   bnd (r2_Of k (iadd .i64 v25 v26)) fun y30 =>
   bnd (r2_Big_Mul k y28 y30) fun y32 =>
   bnd (r2_Big_Mul k y32 y23) fun y34 =>
   bnd (r2_Big_Mul k y21 y21) fun y36 =>
   bnd (r2_Big_Cmp k y34 y36) fun y38 =>
   bnd (r2_apart.c2 k v25 v26 y38) fun o41 =>
   r2_apart.c1 k y21 y23 n o41 (iquo .i64 v26 2))
   (some v25)
def r2_apart (k:Nat) (a0 a1 a2:V22):Option Int :=
  bnd (r2_sub k a2 a1) fun y1 =>
  bnd (r2_sub k a0 a1) fun y3 =>
  bnd (r2_Dot k y3 y1) fun y5 =>
  bnd (r2_Big_Cmp k y5 (List.replicate 8 0)) fun y7 =>
  bif' (ile y7 0)
  (bnd (r2_Root k (iadd .i64 (imul .i64 y3.1 y3.1) (imul .i64 y3.2.1 y3.2.1))) fun y10 =>
   some y10)
  (bnd (r2_sub k a0 a2) fun y12 =>
   bnd (r2_Dot k y12 y1) fun y14 =>
   bnd (r2_Big_Cmp k y14 (List.replicate 8 0)) fun y16 =>
   bif' (ige y16 0)
   (bnd (r2_Root k (iadd .i64 (imul .i64 y12.1 y12.1) (imul .i64 y12.2.1 y12.2.1))) fun y19 =>
   some y19)
   (bnd (r2_Cross k y1 y3) fun y21 =>
   bnd (r2_Dot k y1 y1) fun y23 =>
   bnd (r2_apart.c1 k y21 y23 k 0 536870912) fun o43 =>
   some o43))
noncomputable def r2_apart.sp (k:Nat):Go.Sx.Spec:=⟨(.pair T22 (.pair T22 (.pair T22 .unit))),(.one (.dp T2)),fun x=>r2_apart k x.1 x.2.1 x.2.2.1,false⟩
noncomputable def r2_apart.cx (k:Nat):Go.Sx.Ctx:=⟨tys,[(50,r2_sub.sp k),(94,r2_Dot.sp k),(52,r2_Big_Cmp.sp k),(95,r2_Root.sp k),(51,r2_Cross.sp k),(53,r2_Of.sp k),(90,r2_Big_Mul.sp k)],eqs,87,false⟩
theorem r2_apart.cok (k:Nat):CtxOk PR (r2_apart.cx k):=ctx_ok tysOk eqsOk (FnsOk.cons (r2_sub.ok k) (FnsOk.cons (r2_Dot.ok k) (FnsOk.cons (r2_Big_Cmp.ok k) (FnsOk.cons (r2_Root.ok k) (FnsOk.cons (r2_Cross.ok k) (FnsOk.cons (r2_Of.ok k) (FnsOk.cons (r2_Big_Mul.ok k) FnsOk.nil)))))))
noncomputable def r2_apart.c2p (v25 v26:Int) (y21 y23:(List Int)) (y38:Int):SL:=⟨[(10,(.val .ptr ⟨0,0,(0:Int),0,0⟩)),(11,(.val .ptr ⟨1,0,(0:Int),0,0⟩)),(12,(.val T2 v25)),(13,(.val T2 v26)),(14,(.val T2 (iadd .i64 v25 v26))),(84,(.val T4 (ile y38 (0:Int))))],[(0,.cells T72 y21),(1,.cells T72 y23)]⟩
noncomputable def r2_apart.c2q (v26:Int) (y21 y23:(List Int)) (o:Int):SL:=(fun v=>⟨[(10,(.val .ptr ⟨0,0,(0:Int),0,0⟩)),(11,(.val .ptr ⟨1,0,(0:Int),0,0⟩)),(12,(.val T2 v)),(13,(.val T2 v26))],[(0,.cells T72 y21),(1,.cells T72 y23)]⟩) o
noncomputable def r2_apart.c2x (o:Int):Ex:=(fun _=>.normal) o
noncomputable def r2_apart.c2n (o:Int):Nat:=(fun _=>2) o
theorem r2_apart.c2_ok (k:Nat) (v25 v26:Int) (y21 y23:(List Int)) (y38:Int):Owp (r2_apart.c2 k v25 v26 y38) fun o=>Triple PR (r2_apart.cx k) (sub r2_apart.code [1,1,1,1,1,1,0,1,0,0,1,0,0,1,1]) 2 (r2_apart.c2p v25 v26 y21 y23 y38) (r2_apart.c2x o) (r2_apart.c2n o) (r2_apart.c2q v26 y21 y23 o):=by
  unfold r2_apart.c2; exact
   Owp.bif (fun e40 =>
   Owp.some (triple_way (r2_apart.cok k) hmix [tT] [] [(0,0),(1,1)] (via (finP (aI trivial e40) .normal [(0,0),(1,1)] (r2_apart.c2q v26 y21 y23 (iadd .i64 v25 v26))) (by kernel_rfl)))) (fun e40 =>
   Owp.some (triple_way (r2_apart.cok k) hmix [fF] [] [(0,0),(1,1)] (via (finP (aI trivial e40) .normal [(0,0),(1,1)] (r2_apart.c2q v26 y21 y23 v25)) (by kernel_rfl))))
noncomputable def r2_apart.c1p (y21 y23:(List Int)) (v25 v26:Int):SL:=⟨[(10,(.val .ptr ⟨0,0,(0:Int),0,0⟩)),(11,(.val .ptr ⟨1,0,(0:Int),0,0⟩)),(12,(.val T2 v25)),(13,(.val T2 v26))],[(0,.cells T72 y21),(1,.cells T72 y23)]⟩
noncomputable def r2_apart.c1q (o:Int):SL:=(fun v=>⟨[(12,(.val T2 v))],[]⟩) o
noncomputable def r2_apart.c1x (o:Int):Ex:=(fun _=>(.exit 0)) o
noncomputable def r2_apart.c1n (o:Int):Nat:=(fun _=>0) o
theorem r2_apart.c1_ok (k:Nat) (y21 y23:(List Int)):∀ (n:Nat) (v25 v26:Int),Owp (r2_apart.c1 k y21 y23 n v25 v26) fun o=>LTriple PR (r2_apart.cx k) (sub r2_apart.code [1,1,1,1,1,1,0,1,0,0]) 2 (r2_apart.c1p y21 y23 v25 v26) (r2_apart.c1x o) (r2_apart.c1n o) (r2_apart.c1q o)
  | 0,_,_=>fun _ h=>nomatch h
  | n+1,v25,v26=>Owp.of (r2_apart.c1.eq_2 ..) (
   Owp.bif (fun e27 =>
   Owp.bnd fun y28 e29 =>
   Owp.bnd fun y30 e31 =>
   Owp.bnd fun y32 e33 =>
   Owp.bnd fun y34 e35 =>
   Owp.bnd fun y36 e37 =>
   Owp.bnd fun y38 e39 =>
   Owp.bnd fun o41 e42 =>
   fun y hy=>loop_back (r2_apart.cok k) hmix 2 (r2_apart.c1p y21 y23 o41 (iquo .i64 v26 (2:Int))) [tT,rS T72 y28,rS T72 y30,rS T72 y32,rS T72 y34,rS T72 y36,rS T2 y38,.cut ⟨[],[(0,0),(1,1)],(r2_apart.c2p v25 v26 y21 y23 y38),2,.normal,(r2_apart.c2q v26 y21 y23 o41),2⟩] [] [(0,0),(1,1)] (via (cutP (aI (aI (aI (aI (aI (aI (aI trivial e27) e29) e31) e33) e35) e37) e39) [(0,0),(1,1)] (r2_apart.c2p v25 v26 y21 y23 y38) (((r2_apart.c2_ok k v25 v26 y21 y23 y38).ap e42)) (finP (aI trivial (by decide:nz (2:Int))) .normal [(0,0),(1,1)] (r2_apart.c1p y21 y23 o41 (iquo .i64 v26 (2:Int))))) (by kernel_rfl)) ((r2_apart.c1_ok k y21 y23 n o41 (iquo .i64 v26 (2:Int))).ap hy)) (fun e27 =>
   Owp.some (loop_exit (r2_apart.cok k) hmix [fF] [] [] (exne 0) (via (finP (aI trivial e27) (.exit 0) [] (r2_apart.c1q v25)) (by kernel_rfl)))))
theorem r2_apart.way (k:Nat) (a0 a1 a2:V22):Owp (r2_apart k a0 a1 a2) fun y=>∃ w c0,exec PR (r2_apart.cx k) r2_apart.code 0 (entry (.pair T22 (.pair T22 (.pair T22 .unit))) (a0,a1,a2,())).st w (Ret (r2_apart.cx k) Tryz.f59 c0 (.one (.dp T2)) y):=by
  unfold r2_apart; exact
   Owp.bnd fun y1 e2 =>
   Owp.bnd fun y3 e4 =>
   Owp.bnd fun y5 e6 =>
   Owp.bnd fun y7 e8 =>
   Owp.bif (fun e9 =>
   Owp.bnd fun y10 e11 =>
   Owp.some (⟨[rS T22 y1,rS T22 y3,rS T72 y5,rS T2 y7,tT,rS T2 y10],[],via (retP (aI (aI (aI (aI (aI (aI trivial e2) e4) e6) e8) e9) e11) (.one (.dp T2)) (y10:Int)) (by kernel_rfl)⟩)) (fun e9 =>
   Owp.bnd fun y12 e13 =>
   Owp.bnd fun y14 e15 =>
   Owp.bnd fun y16 e17 =>
   Owp.bif (fun e18 =>
   Owp.bnd fun y19 e20 =>
   Owp.some (⟨[rS T22 y1,rS T22 y3,rS T72 y5,rS T2 y7,fF,rS T22 y12,rS T72 y14,rS T2 y16,tT,rS T2 y19],[],via (retP (aI (aI (aI (aI (aI (aI (aI (aI (aI (aI trivial e2) e4) e6) e8) e9) e13) e15) e17) e18) e20) (.one (.dp T2)) (y19:Int)) (by kernel_rfl)⟩)) (fun e18 =>
   Owp.bnd fun y21 e22 =>
   Owp.bnd fun y23 e24 =>
   Owp.bnd fun o43 e44 =>
   Owp.some (⟨[rS T22 y1,rS T22 y3,rS T72 y5,rS T2 y7,fF,rS T22 y12,rS T72 y14,rS T2 y16,fF,rS T72 y21,rS T72 y23,.cut ⟨[],[(0,37),(1,38)],(r2_apart.c1p y21 y23 (0:Int) (536870912:Int)),2,(.exit 0),(r2_apart.c1q o43),0⟩],[],via (cutP (aI (aI (aI (aI (aI (aI (aI (aI (aI (aI (aI trivial e2) e4) e6) e8) e9) e13) e15) e17) e18) e22) e24) [(0,37),(1,38)] (r2_apart.c1p y21 y23 (0:Int) (536870912:Int)) (((r2_apart.c1_ok k y21 y23 k (0:Int) (536870912:Int)).ap e44).triple) (retP trivial (.one (.dp T2)) (o43:Int))) (by kernel_rfl)⟩)))
theorem r2_apart.ok (k:Nat):FnOk PR 59 (r2_apart.sp k) :=
  fn_ok (r2_apart.cok k) hmix Tryz.func59 (code:=r2_apart.code) (by kernel_rfl) (by kernel_rfl) (by kernel_rfl) rfl (by kernel_rfl) (by kernel_rfl) (by kernel_rfl) (fun x=>Nat.le_of_ble_eq_true (by kernel_rfl)) fun x y hy=>(r2_apart.way k x.1 x.2.1 x.2.2.1).ap hy
noncomputable def r2_Apart.code:Code:=Func.cd Tryz.f31
def r2_Apart.c3 (k:Nat) (a0 a1:(List V22)) (v5 v9:Int):Nat → Int → Int → Option (Int)
  | 0,_,_=>none
  | n+1,v12,v13 =>
   bif' (ilt v13 (len (el ([]:(List V22)) (el (List.replicate 2 []) [[a0,a1],[a1,a0]] v5) 1)))
   (req (inL v13 (el ([]:(List V22)) (el (List.replicate 2 []) [[a0,a1],[a1,a0]] v5) 1)) <|
   req (nz (len (el ([]:(List V22)) (el (List.replicate 2 []) [[a0,a1],[a1,a0]] v5) 1))) <|
   req (inL (irem (iadd .i64 v13 1) (len (el ([]:(List V22)) (el (List.replicate 2 []) [[a0,a1],[a1,a0]] v5) 1))) (el ([]:(List V22)) (el (List.replicate 2 []) [[a0,a1],[a1,a0]] v5) 1)) <|
   bnd (r2_apart k (el Z22 (el ([]:(List V22)) (el (List.replicate 2 []) [[a0,a1],[a1,a0]] v5) 0) v9) (el Z22 (el ([]:(List V22)) (el (List.replicate 2 []) [[a0,a1],[a1,a0]] v5) 1) v13) (el Z22 (el ([]:(List V22)) (el (List.replicate 2 []) [[a0,a1],[a1,a0]] v5) 1) (irem (iadd .i64 v13 1) (len (el ([]:(List V22)) (el (List.replicate 2 []) [[a0,a1],[a1,a0]] v5) 1))))) fun y18 =>
   r2_Apart.c3 k a0 a1 v5 v9 n (imin v12 y18) (iadd .i64 v13 1))
   (some v12)
def r2_Apart.c2 (k:Nat) (a0 a1:(List V22)) (v5:Int):Nat → Int → Int → Option (Int)
  | 0,_,_=>none
  | n+1,v8,v9 =>
   bif' (ilt v9 (len (el ([]:(List V22)) (el (List.replicate 2 []) [[a0,a1],[a1,a0]] v5) 0)))
   (req (inL v9 (el ([]:(List V22)) (el (List.replicate 2 []) [[a0,a1],[a1,a0]] v5) 0)) <|
   bnd (r2_Apart.c3 k a0 a1 v5 v9 k v8 0) fun o20 =>
   r2_Apart.c2 k a0 a1 v5 n o20 (iadd .i64 v9 1))
   (some v8)
def r2_Apart.c1 (k:Nat) (a0 a1:(List V22)):Nat → Int → Int → Option (Int)
  | 0,_,_=>none
  | n+1,v4,v5 =>
   bif' (ilt v5 (len [[a0,a1],[a1,a0]]))
   (req (inL v5 [[a0,a1],[a1,a0]]) <|
   bnd (r2_Apart.c2 k a0 a1 v5 k v4 0) fun o22 =>
   r2_Apart.c1 k a0 a1 n o22 (iadd .i64 v5 1))
   (some v4)
def r2_Apart (k:Nat) (a0 a1:(List V22)):Option Int :=
  bnd (r2_Meet k a0 a1) fun y1 =>
  bif' y1
  (some 0)
  (bnd (r2_Apart.c1 k a0 a1 k 1099511627776 0) fun o24 =>
   some o24)
noncomputable def r2_Apart.sp (k:Nat):Go.Sx.Spec:=⟨(.pair T24 (.pair T24 .unit)),(.one (.dp T2)),fun x=>r2_Apart k x.1 x.2.1,false⟩
noncomputable def r2_Apart.cx (k:Nat):Go.Sx.Ctx:=⟨tys,[(30,r2_Meet.sp k),(59,r2_apart.sp k)],eqs,61,false⟩
theorem r2_Apart.cok (k:Nat):CtxOk PR (r2_Apart.cx k):=ctx_ok tysOk eqsOk (FnsOk.cons (r2_Meet.ok k) (FnsOk.cons (r2_apart.ok k) FnsOk.nil))
noncomputable def r2_Apart.c3p (a0 a1:(List V22)) (v5 v9 v12 v13:Int):SL:=⟨[(5,(.val T2 v12)),(7,(.val .ptr ⟨0,0,(0:Int),0,0⟩)),(9,(.val .ptr ⟨1,0,(0:Int),0,0⟩)),(21,(.val .own (2:Nat))),(22,(.val T2 (len [[a0,a1],[a1,a0]]))),(23,(.val T2 v5)),(28,(.val T24 (el ([]:(List V22)) (el (List.replicate 2 []) [[a0,a1],[a1,a0]] v5) (0:Int)))),(29,(.val T2 (len (el ([]:(List V22)) (el (List.replicate 2 []) [[a0,a1],[a1,a0]] v5) (0:Int))))),(30,(.val T2 v9)),(35,(.val T24 (el ([]:(List V22)) (el (List.replicate 2 []) [[a0,a1],[a1,a0]] v5) (1:Int)))),(36,(.val T2 (len (el ([]:(List V22)) (el (List.replicate 2 []) [[a0,a1],[a1,a0]] v5) (1:Int))))),(37,(.val T2 v13))],[(0,.cells (.arr 2 T24) (el (List.replicate 2 []) [[a0,a1],[a1,a0]] v5)),(1,.cells T22 (el Z22 (el ([]:(List V22)) (el (List.replicate 2 []) [[a0,a1],[a1,a0]] v5) (0:Int)) v9)),(2,.row (.arr 2 T24) [[a0,a1],[a1,a0]] 82)]⟩
noncomputable def r2_Apart.c3q (a0 a1:(List V22)) (v5 v9 o:Int):SL:=(fun v=>⟨[(5,(.val T2 v)),(7,(.val .ptr ⟨0,0,(0:Int),0,0⟩)),(21,(.val .own (1:Nat))),(22,(.val T2 (len [[a0,a1],[a1,a0]]))),(23,(.val T2 v5)),(28,(.val T24 (el ([]:(List V22)) (el (List.replicate 2 []) [[a0,a1],[a1,a0]] v5) (0:Int)))),(29,(.val T2 (len (el ([]:(List V22)) (el (List.replicate 2 []) [[a0,a1],[a1,a0]] v5) (0:Int))))),(30,(.val T2 v9))],[(0,.cells (.arr 2 T24) (el (List.replicate 2 []) [[a0,a1],[a1,a0]] v5)),(1,.row (.arr 2 T24) [[a0,a1],[a1,a0]] 82)]⟩) o
noncomputable def r2_Apart.c3x (o:Int):Ex:=(fun _=>(.exit 4)) o
noncomputable def r2_Apart.c3n (o:Int):Nat:=(fun _=>2) o
theorem r2_Apart.c3_ok (k:Nat) (a0 a1:(List V22)) (v5 v9:Int):∀ (n:Nat) (v12 v13:Int),Owp (r2_Apart.c3 k a0 a1 v5 v9 n v12 v13) fun o=>LTriple PR (r2_Apart.cx k) (sub r2_Apart.code [1,1,1,0,1,0,0,1,1,0,0,1,1,0,0,1,1,0,0,1,1,0,0]) 3 (r2_Apart.c3p a0 a1 v5 v9 v12 v13) (r2_Apart.c3x o) (r2_Apart.c3n o) (r2_Apart.c3q a0 a1 v5 v9 o)
  | 0,_,_=>fun _ h=>nomatch h
  | n+1,v12,v13=>Owp.of (r2_Apart.c3.eq_2 ..) (
   Owp.bif (fun e14 =>
   Owp.req fun h15 =>
   Owp.req fun h16 =>
   Owp.req fun h17 =>
   Owp.bnd fun y18 e19 =>
   fun y hy=>loop_back (r2_Apart.cok k) hmix 3 (r2_Apart.c3p a0 a1 v5 v9 (imin v12 y18) (iadd .i64 v13 (1:Int))) [tT,rS T2 y18] [] [(0,0),(1,1),(2,2)] (via (finP (aI (aI (aI (aI (aI (aI (aI (aI (aI trivial e14) h15) (by decide:inR (1:Int) 2)) (by decide:inR (1:Int) 2)) (by decide:inR (1:Int) 2)) (by decide:inR (1:Int) 2)) h16) h17) e19) .normal [(0,0),(1,1),(2,2)] (r2_Apart.c3p a0 a1 v5 v9 (imin v12 y18) (iadd .i64 v13 (1:Int)))) (by kernel_rfl)) ((r2_Apart.c3_ok k a0 a1 v5 v9 n (imin v12 y18) (iadd .i64 v13 (1:Int))).ap hy)) (fun e14 =>
   Owp.some (loop_exit (r2_Apart.cok k) hmix [fF] [] [(0,0),(1,2)] (exne 4) (via (finP (aI trivial e14) (.exit 4) [(0,0),(1,2)] (r2_Apart.c3q a0 a1 v5 v9 v12)) (by kernel_rfl)))))
noncomputable def r2_Apart.c2p (a0 a1:(List V22)) (v5 v8 v9:Int):SL:=⟨[(5,(.val T2 v8)),(7,(.val .ptr ⟨0,0,(0:Int),0,0⟩)),(21,(.val .own (1:Nat))),(22,(.val T2 (len [[a0,a1],[a1,a0]]))),(23,(.val T2 v5)),(28,(.val T24 (el ([]:(List V22)) (el (List.replicate 2 []) [[a0,a1],[a1,a0]] v5) (0:Int)))),(29,(.val T2 (len (el ([]:(List V22)) (el (List.replicate 2 []) [[a0,a1],[a1,a0]] v5) (0:Int))))),(30,(.val T2 v9))],[(0,.cells (.arr 2 T24) (el (List.replicate 2 []) [[a0,a1],[a1,a0]] v5)),(1,.row (.arr 2 T24) [[a0,a1],[a1,a0]] 82)]⟩
noncomputable def r2_Apart.c2q (a0 a1:(List V22)) (v5 o:Int):SL:=(fun v=>⟨[(5,(.val T2 v)),(21,(.val .own (0:Nat))),(22,(.val T2 (len [[a0,a1],[a1,a0]]))),(23,(.val T2 v5))],[(0,.row (.arr 2 T24) [[a0,a1],[a1,a0]] 82)]⟩) o
noncomputable def r2_Apart.c2x (o:Int):Ex:=(fun _=>(.exit 2)) o
noncomputable def r2_Apart.c2n (o:Int):Nat:=(fun _=>1) o
theorem r2_Apart.c2_ok (k:Nat) (a0 a1:(List V22)) (v5:Int):∀ (n:Nat) (v8 v9:Int),Owp (r2_Apart.c2 k a0 a1 v5 n v8 v9) fun o=>LTriple PR (r2_Apart.cx k) (sub r2_Apart.code [1,1,1,0,1,0,0,1,1,0,0,1,1,0,0]) 2 (r2_Apart.c2p a0 a1 v5 v8 v9) (r2_Apart.c2x o) (r2_Apart.c2n o) (r2_Apart.c2q a0 a1 v5 o)
  | 0,_,_=>fun _ h=>nomatch h
  | n+1,v8,v9=>Owp.of (r2_Apart.c2.eq_2 ..) (
   Owp.bif (fun e10 =>
   Owp.req fun h11 =>
   Owp.bnd fun o20 e21 =>
   fun y hy=>loop_back (r2_Apart.cok k) hmix 2 (r2_Apart.c2p a0 a1 v5 o20 (iadd .i64 v9 (1:Int))) [tT,.cut ⟨[],[(0,0),(1,5),(2,1)],(r2_Apart.c3p a0 a1 v5 v9 v8 (0:Int)),3,(.exit 4),(r2_Apart.c3q a0 a1 v5 v9 o20),2⟩] [] [(0,0),(1,1)] (via (cutP (aI (aI (aI (aI trivial e10) h11) (by decide:inR (1:Int) 2)) (by decide:inR (1:Int) 2)) [(0,0),(1,5),(2,1)] (r2_Apart.c3p a0 a1 v5 v9 v8 (0:Int)) (((r2_Apart.c3_ok k a0 a1 v5 v9 k v8 (0:Int)).ap e21).triple) (finP trivial .normal [(0,0),(1,1)] (r2_Apart.c2p a0 a1 v5 o20 (iadd .i64 v9 (1:Int))))) (by kernel_rfl)) ((r2_Apart.c2_ok k a0 a1 v5 n o20 (iadd .i64 v9 (1:Int))).ap hy)) (fun e10 =>
   Owp.some (loop_exit (r2_Apart.cok k) hmix [fF] [] [(0,1)] (exne 2) (via (finP (aI trivial e10) (.exit 2) [(0,1)] (r2_Apart.c2q a0 a1 v5 v8)) (by kernel_rfl)))))
noncomputable def r2_Apart.c1p (a0 a1:(List V22)) (v4 v5:Int):SL:=⟨[(5,(.val T2 v4)),(21,(.val .own (0:Nat))),(22,(.val T2 (len [[a0,a1],[a1,a0]]))),(23,(.val T2 v5))],[(0,.row (.arr 2 T24) [[a0,a1],[a1,a0]] 82)]⟩
noncomputable def r2_Apart.c1q (o:Int):SL:=(fun v=>⟨[(5,(.val T2 v))],[]⟩) o
noncomputable def r2_Apart.c1x (o:Int):Ex:=(fun _=>(.exit 0)) o
noncomputable def r2_Apart.c1n (o:Int):Nat:=(fun _=>0) o
theorem r2_Apart.c1_ok (k:Nat) (a0 a1:(List V22)):∀ (n:Nat) (v4 v5:Int),Owp (r2_Apart.c1 k a0 a1 n v4 v5) fun o=>LTriple PR (r2_Apart.cx k) (sub r2_Apart.code [1,1,1,0,1,0,0]) 1 (r2_Apart.c1p a0 a1 v4 v5) (r2_Apart.c1x o) (r2_Apart.c1n o) (r2_Apart.c1q o)
  | 0,_,_=>fun _ h=>nomatch h
  | n+1,v4,v5=>Owp.of (r2_Apart.c1.eq_2 ..) (
   Owp.bif (fun e6 =>
   Owp.req fun h7 =>
   Owp.bnd fun o22 e23 =>
   fun y hy=>loop_back (r2_Apart.cok k) hmix 1 (r2_Apart.c1p a0 a1 o22 (iadd .i64 v5 (1:Int))) [tT,.cut ⟨[],[(0,4),(1,0)],(r2_Apart.c2p a0 a1 v5 v4 (0:Int)),2,(.exit 2),(r2_Apart.c2q a0 a1 v5 o22),1⟩] [] [(0,0)] (via (cutP (aI (aI (aI (aI (aI trivial e6) h7) h7) (by decide:inR (0:Int) 2)) (by decide:inR (0:Int) 2)) [(0,4),(1,0)] (r2_Apart.c2p a0 a1 v5 v4 (0:Int)) (((r2_Apart.c2_ok k a0 a1 v5 k v4 (0:Int)).ap e23).triple) (finP trivial .normal [(0,0)] (r2_Apart.c1p a0 a1 o22 (iadd .i64 v5 (1:Int))))) (by kernel_rfl)) ((r2_Apart.c1_ok k a0 a1 n o22 (iadd .i64 v5 (1:Int))).ap hy)) (fun e6 =>
   Owp.some (loop_exit (r2_Apart.cok k) hmix [fF] [] [] (exne 0) (via (finP (aI trivial e6) (.exit 0) [] (r2_Apart.c1q v4)) (by kernel_rfl)))))
theorem r2_Apart.way (k:Nat) (a0 a1:(List V22)):Owp (r2_Apart k a0 a1) fun y=>∃ w c0,exec PR (r2_Apart.cx k) r2_Apart.code 0 (entry (.pair T24 (.pair T24 .unit)) (a0,a1,())).st w (Ret (r2_Apart.cx k) Tryz.f31 c0 (.one (.dp T2)) y):=by
  unfold r2_Apart; exact
   Owp.bnd fun y1 e2 =>
   Owp.bif (fun e3 =>
   Owp.some (⟨[rS T4 y1,tT],[],via (retP (aI (aI trivial e2) e3) (.one (.dp T2)) ((0:Int):Int)) (by kernel_rfl)⟩)) (fun e3 =>
   Owp.bnd fun o24 e25 =>
   Owp.some (⟨[rS T4 y1,fF,tT,.cut ⟨[],[(0,11)],(r2_Apart.c1p a0 a1 (1099511627776:Int) (0:Int)),1,(.exit 0),(r2_Apart.c1q o24),0⟩],[],via (cutP (aI (aI trivial e2) e3) [(0,11)] (r2_Apart.c1p a0 a1 (1099511627776:Int) (0:Int)) (((r2_Apart.c1_ok k a0 a1 k (1099511627776:Int) (0:Int)).ap e25).triple) (retP trivial (.one (.dp T2)) (o24:Int))) (by kernel_rfl)⟩))
theorem r2_Apart.ok (k:Nat):FnOk PR 31 (r2_Apart.sp k) :=
  fn_ok (r2_Apart.cok k) hmix Tryz.func31 (code:=r2_Apart.code) (by kernel_rfl) (by kernel_rfl) (by kernel_rfl) rfl (by kernel_rfl) (by kernel_rfl) (by kernel_rfl) (fun x=>Nat.le_of_ble_eq_true (by kernel_rfl)) fun x y hy=>(r2_Apart.way k x.1 x.2.1).ap hy
noncomputable def r2_Time.code:Code:=Func.cd Tryz.f9
def r2_Time.c1 (k:Nat) (a0 a1:V25):Nat → Int → Int → Option (Int)
  | 0,_,_=>none
  | n+1,v5,v6 =>
   bif' (ilt v6 (len [a0,a1]))
   (req (inL v6 [a0,a1]) <|
   bnd (r2_Free k (el Z25 [a0,a1] v6)) fun y9 =>
   bif' y9
   (bnd (r2_reachOf k (el Z25 [a0,a1] v6)) fun y12 =>
   r2_Time.c1 k a0 a1 n (iadd .i64 v5 (iquo .i64 (imul .i64 14 y12) 65536)) (iadd .i64 v6 1))
   (r2_Time.c1 k a0 a1 n v5 (iadd .i64 v6 1)))
   (some v5)
def r2_Time.c3 (k:Nat) (o14 y1 y33:Int):Option (Bool) :=
  bif' (igt y33 o14)
  (req (nz y1) <|
   some (igt (iquo .i64 (imul .i64 (isub .i64 y33 o14) 65536) y1) 256))
  (some false)
def r2_Time.c4 (k:Nat) (o14:Int) (o37:Bool) (y1 y33:Int):Option (Int) :=
  bif' o37
  (req (nz y1) <|
   some (iquo .i64 (imul .i64 (isub .i64 y33 o14) 65536) y1))
  (some 256)
def r2_Time.c2 (k:Nat) (a0 a1:V25) (a2 o14 y1:Int):Nat → Int → Int → Option ((Int × Bool) ⊕ Int)
  | 0,_,_=>none
  | n+1,v16,v17 =>
   bif' (ilt v17 300)
   (bnd (fix_Mul k a2 v16) fun y19 =>
   bnd (r2_Step k a0 y19) fun y21 =>
   bnd (r2_Placed k y21) fun y23 =>
   bnd (r2_Step k a1 y19) fun y25 =>
   bnd (r2_Placed k y25) fun y27 =>
   bnd (r2_Meet k y23 y27) fun y29 =>
   bif' y29
   (some (.inl (v16,true)))
   (bif' (ieq v16 65536)
   (some (.inl (0,false)))
   (bnd (r2_Apart k y23 y27) fun y33 =>
   bnd (r2_Time.c3 k o14 y1 y33) fun o37 =>
   bnd (r2_Time.c4 k o14 o37 y1 y33) fun o41 =>
   bif' (igt (iadd .i64 v16 o41) 65536)
   (r2_Time.c2 k a0 a1 a2 o14 y1 n 65536 (iadd .i64 v17 1))
   (r2_Time.c2 k a0 a1 a2 o14 y1 n (iadd .i64 v16 o41) (iadd .i64 v17 1)))))
   (some (.inr v16))
def r2_Time (k:Nat) (a0 a1:V25) (a2:Int):Option (Int × Bool) :=
  bnd (r2_Bound k a0 a1 a2) fun y1 =>
  bnd (r2_Bound k a0 a1 65536) fun y3 =>
  bnd (r2_Time.c1 k a0 a1 k (iadd .i64 16 (imul .i64 (iquo .i64 y3 65536) 2)) 0) fun o14 =>
  bnd (r2_Time.c2 k a0 a1 a2 o14 y1 k 0 0) fun o44 =>
  two o44 (fun y46 =>
  some (y46.1,y46.2)) (fun y48 =>
  some (y48,true))
noncomputable def r2_Time.sp (k:Nat):Go.Sx.Spec:=⟨(.pair T25 (.pair T25 (.pair T2 .unit))),(.more (.dp T2) (.one (.dp T4))),fun x=>r2_Time k x.1 x.2.1 x.2.2.1,false⟩
noncomputable def r2_Time.cx (k:Nat):Go.Sx.Ctx:=⟨tys,[(10,r2_Bound.sp k),(26,r2_Free.sp k),(27,r2_reachOf.sp k),(14,fix_Mul.sp k),(29,r2_Step.sp k),(28,r2_Placed.sp k),(30,r2_Meet.sp k),(31,r2_Apart.sp k)],eqs,92,false⟩
theorem r2_Time.cok (k:Nat):CtxOk PR (r2_Time.cx k):=ctx_ok tysOk eqsOk (FnsOk.cons (r2_Bound.ok k) (FnsOk.cons (r2_Free.ok k) (FnsOk.cons (r2_reachOf.ok k) (FnsOk.cons (fix_Mul.ok k) (FnsOk.cons (r2_Step.ok k) (FnsOk.cons (r2_Placed.ok k) (FnsOk.cons (r2_Meet.ok k) (FnsOk.cons (r2_Apart.ok k) FnsOk.nil))))))))
noncomputable def r2_Time.c1p (a0 a1:V25) (a2 y1 v5 v6:Int):SL:=⟨[(2,(.val T2 a2)),(3,(.val .ptr ⟨0,0,(0:Int),0,0⟩)),(4,(.val .ptr ⟨1,0,(0:Int),0,0⟩)),(8,(.val T2 y1)),(9,(.val T2 v5)),(30,(.val .own (2:Nat))),(31,(.val T2 (len [a0,a1]))),(32,(.val T2 v6))],[(0,.cells T25 a0),(1,.cells T25 a1),(2,.row T25 [a0,a1] 26)]⟩
noncomputable def r2_Time.c1q (a0 a1:V25) (a2 y1 o:Int):SL:=(fun v=>⟨[(2,(.val T2 a2)),(3,(.val .ptr ⟨0,0,(0:Int),0,0⟩)),(4,(.val .ptr ⟨1,0,(0:Int),0,0⟩)),(8,(.val T2 y1)),(9,(.val T2 v))],[(0,.cells T25 a0),(1,.cells T25 a1)]⟩) o
noncomputable def r2_Time.c1x (o:Int):Ex:=(fun _=>(.exit 0)) o
noncomputable def r2_Time.c1n (o:Int):Nat:=(fun _=>2) o
theorem r2_Time.c1_ok (k:Nat) (a0 a1:V25) (a2 y1:Int):∀ (n:Nat) (v5 v6:Int),Owp (r2_Time.c1 k a0 a1 n v5 v6) fun o=>LTriple PR (r2_Time.cx k) (sub r2_Time.code [1,1,1,0,1,0,0]) 3 (r2_Time.c1p a0 a1 a2 y1 v5 v6) (r2_Time.c1x o) (r2_Time.c1n o) (r2_Time.c1q a0 a1 a2 y1 o)
  | 0,_,_=>fun _ h=>nomatch h
  | n+1,v5,v6=>Owp.of (r2_Time.c1.eq_2 ..) (
   Owp.bif (fun e7 =>
   Owp.req fun h8 =>
   Owp.bnd fun y9 e10 =>
   Owp.bif (fun e11 =>
   Owp.bnd fun y12 e13 =>
   fun y hy=>loop_back (r2_Time.cok k) hmix 3 (r2_Time.c1p a0 a1 a2 y1 (iadd .i64 v5 (iquo .i64 (imul .i64 (14:Int) y12) (65536:Int))) (iadd .i64 v6 (1:Int))) [tT,rS T4 y9,tT,rS T2 y12] [] [(0,0),(1,1),(2,2)] (via (finP (aI (aI (aI (aI (aI (aI (aI trivial e7) h8) h8) e10) e11) e13) (by decide:nz (65536:Int))) .normal [(0,0),(1,1),(2,2)] (r2_Time.c1p a0 a1 a2 y1 (iadd .i64 v5 (iquo .i64 (imul .i64 (14:Int) y12) (65536:Int))) (iadd .i64 v6 (1:Int)))) (by kernel_rfl)) ((r2_Time.c1_ok k a0 a1 a2 y1 n (iadd .i64 v5 (iquo .i64 (imul .i64 (14:Int) y12) (65536:Int))) (iadd .i64 v6 (1:Int))).ap hy)) (fun e11 =>
   fun y hy=>loop_back (r2_Time.cok k) hmix 3 (r2_Time.c1p a0 a1 a2 y1 v5 (iadd .i64 v6 (1:Int))) [tT,rS T4 y9,fF] [] [(0,0),(1,1),(2,2)] (via (finP (aI (aI (aI (aI (aI trivial e7) h8) h8) e10) e11) .normal [(0,0),(1,1),(2,2)] (r2_Time.c1p a0 a1 a2 y1 v5 (iadd .i64 v6 (1:Int)))) (by kernel_rfl)) ((r2_Time.c1_ok k a0 a1 a2 y1 n v5 (iadd .i64 v6 (1:Int))).ap hy))) (fun e7 =>
   Owp.some (loop_exit (r2_Time.cok k) hmix [fF] [] [(0,0),(1,1)] (exne 0) (via (finP (aI trivial e7) (.exit 0) [(0,0),(1,1)] (r2_Time.c1q a0 a1 a2 y1 v5)) (by kernel_rfl)))))
noncomputable def r2_Time.c3p (a0 a1:V25) (a2 o14 v16 v17 y1 y33:Int):SL:=⟨[(2,(.val T2 a2)),(3,(.val .ptr ⟨0,0,(0:Int),0,0⟩)),(4,(.val .ptr ⟨1,0,(0:Int),0,0⟩)),(8,(.val T2 y1)),(9,(.val T2 o14)),(12,(.val T2 v16)),(16,(.val T2 (256:Int))),(17,(.val T2 y33)),(45,(.val T2 v17))],[(0,.cells T25 a0),(1,.cells T25 a1)]⟩
noncomputable def r2_Time.c3q (a0 a1:V25) (a2 o14 v16 v17 y1 y33:Int) (o:Bool):SL:=(fun v=>⟨[(2,(.val T2 a2)),(3,(.val .ptr ⟨0,0,(0:Int),0,0⟩)),(4,(.val .ptr ⟨1,0,(0:Int),0,0⟩)),(8,(.val T2 y1)),(9,(.val T2 o14)),(12,(.val T2 v16)),(16,(.val T2 (256:Int))),(17,(.val T2 y33)),(45,(.val T2 v17)),(78,(.val T4 v))],[(0,.cells T25 a0),(1,.cells T25 a1)]⟩) o
noncomputable def r2_Time.c3x (o:Bool):Ex:=(fun _=>.normal) o
noncomputable def r2_Time.c3n (o:Bool):Nat:=(fun _=>2) o
theorem r2_Time.c3_ok (k:Nat) (a0 a1:V25) (a2 o14 v16 v17 y1 y33:Int):Owp (r2_Time.c3 k o14 y1 y33) fun o=>Triple PR (r2_Time.cx k) (sub r2_Time.code [1,1,1,1,1,0,1,0,0,1,1,0,0,1,1,1,1,1,0,1,0]) 2 (r2_Time.c3p a0 a1 a2 o14 v16 v17 y1 y33) (r2_Time.c3x o) (r2_Time.c3n o) (r2_Time.c3q a0 a1 a2 o14 v16 v17 y1 y33 o):=by
  unfold r2_Time.c3; exact
   Owp.bif (fun e35 =>
   Owp.req fun h36 =>
   Owp.some (triple_way (r2_Time.cok k) hmix [tT,tT,tT,tT,tT,tT,tT,tT] [] [(0,0),(1,1)] (via (finP (aI (aI (aI (aI (aI (aI (aI (aI trivial e35) e35) e35) e35) e35) (aI e35 h36)) e35) e35) .normal [(0,0),(1,1)] (r2_Time.c3q a0 a1 a2 o14 v16 v17 y1 y33 (igt (iquo .i64 (imul .i64 (isub .i64 y33 o14) (65536:Int)) y1) (256:Int)))) (by kernel_rfl)))) (fun e35 =>
   Owp.some (triple_way (r2_Time.cok k) hmix [fF,fF,fF,fF,fF,fF,fF,fF] [] [(0,0),(1,1)] (via (finP (aI (aI (aI (aI (aI (aI (aI (aI trivial e35) e35) e35) e35) e35) e35) e35) e35) .normal [(0,0),(1,1)] (r2_Time.c3q a0 a1 a2 o14 v16 v17 y1 y33 false)) (by kernel_rfl))))
noncomputable def r2_Time.c4p (a0 a1:V25) (a2 o14:Int) (o37:Bool) (v16 v17 y1 y33:Int):SL:=⟨[(2,(.val T2 a2)),(3,(.val .ptr ⟨0,0,(0:Int),0,0⟩)),(4,(.val .ptr ⟨1,0,(0:Int),0,0⟩)),(8,(.val T2 y1)),(9,(.val T2 o14)),(12,(.val T2 v16)),(16,(.val T2 (256:Int))),(17,(.val T2 y33)),(45,(.val T2 v17)),(78,(.val T4 o37))],[(0,.cells T25 a0),(1,.cells T25 a1)]⟩
noncomputable def r2_Time.c4q (a0 a1:V25) (a2 o14 v16 v17 y1 o:Int):SL:=(fun v=>⟨[(2,(.val T2 a2)),(3,(.val .ptr ⟨0,0,(0:Int),0,0⟩)),(4,(.val .ptr ⟨1,0,(0:Int),0,0⟩)),(8,(.val T2 y1)),(9,(.val T2 o14)),(12,(.val T2 v16)),(16,(.val T2 v)),(45,(.val T2 v17))],[(0,.cells T25 a0),(1,.cells T25 a1)]⟩) o
noncomputable def r2_Time.c4x (o:Int):Ex:=(fun _=>.normal) o
noncomputable def r2_Time.c4n (o:Int):Nat:=(fun _=>2) o
theorem r2_Time.c4_ok (k:Nat) (a0 a1:V25) (a2 o14:Int) (o37:Bool) (v16 v17 y1 y33:Int):Owp (r2_Time.c4 k o14 o37 y1 y33) fun o=>Triple PR (r2_Time.cx k) (sub r2_Time.code [1,1,1,1,1,0,1,0,0,1,1,0,0,1,1,1,1,1,0,1,1]) 2 (r2_Time.c4p a0 a1 a2 o14 o37 v16 v17 y1 y33) (r2_Time.c4x o) (r2_Time.c4n o) (r2_Time.c4q a0 a1 a2 o14 v16 v17 y1 o):=by
  unfold r2_Time.c4; exact
   Owp.bif (fun e39 =>
   Owp.req fun h40 =>
   Owp.some (triple_way (r2_Time.cok k) hmix [tT] [] [(0,0),(1,1)] (via (finP (aI (aI trivial e39) h40) .normal [(0,0),(1,1)] (r2_Time.c4q a0 a1 a2 o14 v16 v17 y1 (iquo .i64 (imul .i64 (isub .i64 y33 o14) (65536:Int)) y1))) (by kernel_rfl)))) (fun e39 =>
   Owp.some (triple_way (r2_Time.cok k) hmix [fF] [] [(0,0),(1,1)] (via (finP (aI trivial e39) .normal [(0,0),(1,1)] (r2_Time.c4q a0 a1 a2 o14 v16 v17 y1 (256:Int))) (by kernel_rfl))))
noncomputable def r2_Time.c2p (a0 a1:V25) (a2 o14 y1 v16 v17:Int):SL:=⟨[(2,(.val T2 a2)),(3,(.val .ptr ⟨0,0,(0:Int),0,0⟩)),(4,(.val .ptr ⟨1,0,(0:Int),0,0⟩)),(8,(.val T2 y1)),(9,(.val T2 o14)),(12,(.val T2 v16)),(45,(.val T2 v17))],[(0,.cells T25 a0),(1,.cells T25 a1)]⟩
noncomputable def r2_Time.c2q (o:(Int × Bool) ⊕ Int):SL:=(fun o=>two o (fun v=>⟨[(6,(.val T2 v.1)),(7,(.val T4 v.2))],[]⟩) (fun v=>⟨[(12,(.val T2 v))],[]⟩)) o
noncomputable def r2_Time.c2x (o:(Int × Bool) ⊕ Int):Ex:=(fun o=>two o (fun _=>.ret) (fun _=>(.exit 2))) o
noncomputable def r2_Time.c2n (o:(Int × Bool) ⊕ Int):Nat:=(fun o=>two o (fun _=>0) (fun _=>0)) o
theorem r2_Time.c2_ok (k:Nat) (a0 a1:V25) (a2 o14 y1:Int):∀ (n:Nat) (v16 v17:Int),Owp (r2_Time.c2 k a0 a1 a2 o14 y1 n v16 v17) fun o=>LTriple PR (r2_Time.cx k) (sub r2_Time.code [1,1,1,1,1,0,1,0,0]) 2 (r2_Time.c2p a0 a1 a2 o14 y1 v16 v17) (r2_Time.c2x o) (r2_Time.c2n o) (r2_Time.c2q o)
  | 0,_,_=>fun _ h=>nomatch h
  | n+1,v16,v17=>Owp.of (r2_Time.c2.eq_2 ..) (
   Owp.bif (fun e18 =>
   Owp.bnd fun y19 e20 =>
   Owp.bnd fun y21 e22 =>
   Owp.bnd fun y23 e24 =>
   Owp.bnd fun y25 e26 =>
   Owp.bnd fun y27 e28 =>
   Owp.bnd fun y29 e30 =>
   Owp.bif (fun e31 =>
   Owp.some (loop_exit (r2_Time.cok k) hmix [tT,rS T2 y19,rS T25 y21,.res (.one (.ow T22 23)) y23,rS T25 y25,.res (.one (.ow T22 23)) y27,rS T4 y29,tT] [] [] exne_ret (via (finP (aI (aI (aI (aI (aI (aI (aI (aI trivial e18) e20) e22) e24) e26) e28) e30) e31) .ret [] (r2_Time.c2q (.inl (v16,true)))) (by kernel_rfl)))) (fun e31 =>
   Owp.bif (fun e32 =>
   Owp.some (loop_exit (r2_Time.cok k) hmix [tT,rS T2 y19,rS T25 y21,.res (.one (.ow T22 23)) y23,rS T25 y25,.res (.one (.ow T22 23)) y27,rS T4 y29,fF,tT] [] [] exne_ret (via (finP (aI (aI (aI (aI (aI (aI (aI (aI (aI trivial e18) e20) e22) e24) e26) e28) e30) e31) e32) .ret [] (r2_Time.c2q (.inl ((0:Int),false)))) (by kernel_rfl)))) (fun e32 =>
   Owp.bnd fun y33 e34 =>
   Owp.bnd fun o37 e38 =>
   Owp.bnd fun o41 e42 =>
   Owp.bif (fun e43 =>
   fun y hy=>loop_back (r2_Time.cok k) hmix 2 (r2_Time.c2p a0 a1 a2 o14 y1 (65536:Int) (iadd .i64 v17 (1:Int))) [tT,rS T2 y19,rS T25 y21,.res (.one (.ow T22 23)) y23,rS T25 y25,.res (.one (.ow T22 23)) y27,rS T4 y29,fF,fF,rS T2 y33,.cutR 20 ⟨[],[(0,0),(1,1)],(r2_Time.c3p a0 a1 a2 o14 v16 v17 y1 y33),2,.normal,(r2_Time.c3q a0 a1 a2 o14 v16 v17 y1 y33 o37),2⟩,.cut ⟨[],[(0,0),(1,1)],(r2_Time.c4p a0 a1 a2 o14 o37 v16 v17 y1 y33),2,.normal,(r2_Time.c4q a0 a1 a2 o14 v16 v17 y1 o41),2⟩,tT] [] [(0,0),(1,1)] (via (cutP (aI (aI (aI (aI (aI (aI (aI (aI (aI (aI trivial e18) e20) e22) e24) e26) e28) e30) e31) e32) e34) [(0,0),(1,1)] (r2_Time.c3p a0 a1 a2 o14 v16 v17 y1 y33) (((r2_Time.c3_ok k a0 a1 a2 o14 v16 v17 y1 y33).ap e38)) (cutP trivial [(0,0),(1,1)] (r2_Time.c4p a0 a1 a2 o14 o37 v16 v17 y1 y33) (((r2_Time.c4_ok k a0 a1 a2 o14 o37 v16 v17 y1 y33).ap e42)) (finP (aI trivial e43) .normal [(0,0),(1,1)] (r2_Time.c2p a0 a1 a2 o14 y1 (65536:Int) (iadd .i64 v17 (1:Int)))))) (by kernel_rfl)) ((r2_Time.c2_ok k a0 a1 a2 o14 y1 n (65536:Int) (iadd .i64 v17 (1:Int))).ap hy)) (fun e43 =>
   fun y hy=>loop_back (r2_Time.cok k) hmix 2 (r2_Time.c2p a0 a1 a2 o14 y1 (iadd .i64 v16 o41) (iadd .i64 v17 (1:Int))) [tT,rS T2 y19,rS T25 y21,.res (.one (.ow T22 23)) y23,rS T25 y25,.res (.one (.ow T22 23)) y27,rS T4 y29,fF,fF,rS T2 y33,.cutR 20 ⟨[],[(0,0),(1,1)],(r2_Time.c3p a0 a1 a2 o14 v16 v17 y1 y33),2,.normal,(r2_Time.c3q a0 a1 a2 o14 v16 v17 y1 y33 o37),2⟩,.cut ⟨[],[(0,0),(1,1)],(r2_Time.c4p a0 a1 a2 o14 o37 v16 v17 y1 y33),2,.normal,(r2_Time.c4q a0 a1 a2 o14 v16 v17 y1 o41),2⟩,fF] [] [(0,0),(1,1)] (via (cutP (aI (aI (aI (aI (aI (aI (aI (aI (aI (aI trivial e18) e20) e22) e24) e26) e28) e30) e31) e32) e34) [(0,0),(1,1)] (r2_Time.c3p a0 a1 a2 o14 v16 v17 y1 y33) (((r2_Time.c3_ok k a0 a1 a2 o14 v16 v17 y1 y33).ap e38)) (cutP trivial [(0,0),(1,1)] (r2_Time.c4p a0 a1 a2 o14 o37 v16 v17 y1 y33) (((r2_Time.c4_ok k a0 a1 a2 o14 o37 v16 v17 y1 y33).ap e42)) (finP (aI trivial e43) .normal [(0,0),(1,1)] (r2_Time.c2p a0 a1 a2 o14 y1 (iadd .i64 v16 o41) (iadd .i64 v17 (1:Int)))))) (by kernel_rfl)) ((r2_Time.c2_ok k a0 a1 a2 o14 y1 n (iadd .i64 v16 o41) (iadd .i64 v17 (1:Int))).ap hy))))) (fun e18 =>
   Owp.some (loop_exit (r2_Time.cok k) hmix [fF] [] [] (exne 2) (via (finP (aI trivial e18) (.exit 2) [] (r2_Time.c2q (.inr v16))) (by kernel_rfl)))))
theorem r2_Time.way (k:Nat) (a0 a1:V25) (a2:Int):Owp (r2_Time k a0 a1 a2) fun y=>∃ w c0,exec PR (r2_Time.cx k) r2_Time.code 0 (entry (.pair T25 (.pair T25 (.pair T2 .unit))) (a0,a1,a2,())).st w (Ret (r2_Time.cx k) Tryz.f9 c0 (.more (.dp T2) (.one (.dp T4))) y):=by
  unfold r2_Time; exact
   Owp.bnd fun y1 e2 =>
   Owp.bnd fun y3 e4 =>
   Owp.bnd fun o14 e15 =>
   Owp.bnd fun o44 e45 =>
   Owp.two (fun y46 e47 =>
   Owp.some (⟨[rS T2 y1,rS T2 y3,tT,.cut ⟨[],[(0,0),(1,1),(2,18)],(r2_Time.c1p a0 a1 a2 y1 (iadd .i64 (16:Int) (imul .i64 (iquo .i64 y3 (65536:Int)) (2:Int))) (0:Int)),3,(.exit 0),(r2_Time.c1q a0 a1 a2 y1 o14),2⟩,.cut ⟨[],[(0,0),(1,1)],(r2_Time.c2p a0 a1 a2 o14 y1 (0:Int) (0:Int)),2,.ret,(r2_Time.c2q (.inl y46)),0⟩],[],via (cutP (aI (aI (aI trivial e2) e4) (by decide:nz (65536:Int))) [(0,0),(1,1),(2,18)] (r2_Time.c1p a0 a1 a2 y1 (iadd .i64 (16:Int) (imul .i64 (iquo .i64 y3 (65536:Int)) (2:Int))) (0:Int)) (((r2_Time.c1_ok k a0 a1 a2 y1 k (iadd .i64 (16:Int) (imul .i64 (iquo .i64 y3 (65536:Int)) (2:Int))) (0:Int)).ap e15).triple) (cutP trivial [(0,0),(1,1)] (r2_Time.c2p a0 a1 a2 o14 y1 (0:Int) (0:Int)) (((r2_Time.c2_ok k a0 a1 a2 o14 y1 k (0:Int) (0:Int)).ap (e45.trans (congrArg some e47))).triple) (retP trivial (.more (.dp T2) (.one (.dp T4))) ((y46.1,y46.2):(Int × Bool))))) (by kernel_rfl)⟩)) (fun y48 e49 =>
   Owp.some (⟨[rS T2 y1,rS T2 y3,tT,.cut ⟨[],[(0,0),(1,1),(2,18)],(r2_Time.c1p a0 a1 a2 y1 (iadd .i64 (16:Int) (imul .i64 (iquo .i64 y3 (65536:Int)) (2:Int))) (0:Int)),3,(.exit 0),(r2_Time.c1q a0 a1 a2 y1 o14),2⟩,.cut ⟨[],[(0,0),(1,1)],(r2_Time.c2p a0 a1 a2 o14 y1 (0:Int) (0:Int)),2,(.exit 2),(r2_Time.c2q (.inr y48)),0⟩],[],via (cutP (aI (aI (aI trivial e2) e4) (by decide:nz (65536:Int))) [(0,0),(1,1),(2,18)] (r2_Time.c1p a0 a1 a2 y1 (iadd .i64 (16:Int) (imul .i64 (iquo .i64 y3 (65536:Int)) (2:Int))) (0:Int)) (((r2_Time.c1_ok k a0 a1 a2 y1 k (iadd .i64 (16:Int) (imul .i64 (iquo .i64 y3 (65536:Int)) (2:Int))) (0:Int)).ap e15).triple) (cutP trivial [(0,0),(1,1)] (r2_Time.c2p a0 a1 a2 o14 y1 (0:Int) (0:Int)) (((r2_Time.c2_ok k a0 a1 a2 o14 y1 k (0:Int) (0:Int)).ap (e45.trans (congrArg some e49))).triple) (retP trivial (.more (.dp T2) (.one (.dp T4))) ((y48,true):(Int × Bool))))) (by kernel_rfl)⟩))
theorem r2_Time.ok (k:Nat):FnOk PR 9 (r2_Time.sp k) :=
  fn_ok (r2_Time.cok k) hmix Tryz.func9 (code:=r2_Time.code) (by kernel_rfl) (by kernel_rfl) (by kernel_rfl) rfl (by kernel_rfl) (by kernel_rfl) (by kernel_rfl) (fun x=>Nat.le_of_ble_eq_true (by kernel_rfl)) fun x y hy=>(r2_Time.way k x.1 x.2.1 x.2.2.1).ap hy
noncomputable def r2_Out.code:Code:=Func.cd Tryz.f96
def r2_Out (k:Nat) (a0:(List V22)) (a1:Int):Option V22 :=
  req (nz (len a0)) <|
  req (inL (irem (iadd .i64 a1 1) (len a0)) a0) <|
  req (inL a1 a0) <|
  bnd (r2_sub k (el Z22 a0 (irem (iadd .i64 a1 1) (len a0))) (el Z22 a0 a1)) fun y4 =>
  some (y4.2.1,(ineg .i64 y4.1),())
noncomputable def r2_Out.sp (k:Nat):Go.Sx.Spec:=⟨(.pair T24 (.pair T2 .unit)),(.one (.dp T22)),fun x=>r2_Out k x.1 x.2.1,false⟩
noncomputable def r2_Out.cx (k:Nat):Go.Sx.Ctx:=⟨tys,[(50,r2_sub.sp k)],eqs,25,false⟩
theorem r2_Out.cok (k:Nat):CtxOk PR (r2_Out.cx k):=ctx_ok tysOk eqsOk (FnsOk.cons (r2_sub.ok k) FnsOk.nil)
theorem r2_Out.way (k:Nat) (a0:(List V22)) (a1:Int):Owp (r2_Out k a0 a1) fun y=>∃ w c0,exec PR (r2_Out.cx k) r2_Out.code 0 (entry (.pair T24 (.pair T2 .unit)) (a0,a1,())).st w (Ret (r2_Out.cx k) Tryz.f96 c0 (.one (.dp T22)) y):=by
  unfold r2_Out; exact
   Owp.req fun h1 =>
   Owp.req fun h2 =>
   Owp.req fun h3 =>
   Owp.bnd fun y4 e5 =>
   Owp.some (⟨[rS T22 y4],[],via (retP (aI (aI (aI (aI trivial h1) h2) h3) e5) (.one (.dp T22)) ((y4.2.1,(ineg .i64 y4.1),()):V22)) (by kernel_rfl)⟩)
theorem r2_Out.ok (k:Nat):FnOk PR 96 (r2_Out.sp k) :=
  fn_ok (r2_Out.cok k) hmix Tryz.func96 (code:=r2_Out.code) (by kernel_rfl) (by kernel_rfl) (by kernel_rfl) rfl (by kernel_rfl) (by kernel_rfl) (by kernel_rfl) (fun x=>Nat.le_of_ble_eq_true (by kernel_rfl)) fun x y hy=>(r2_Out.way k x.1 x.2.1).ap hy
noncomputable def r2_depth.code:Code:=Func.cd Tryz.f60
def r2_depth (k:Nat) (a0:(List V22)) (a1:Int) (a2:V22):Option (Int × Bool) :=
  bnd (r2_Out k a0 a1) fun y1 =>
  req (inL a1 a0) <|
  bnd (r2_sub k (el Z22 a0 a1) a2) fun y4 =>
  bnd (r2_Dot k y1 y4) fun y6 =>
  bnd (r2_Root k (iadd .i64 (imul .i64 y1.1 y1.1) (imul .i64 y1.2.1 y1.2.1))) fun y8 =>
  bnd (r2_Big_Over k y6 y8) fun y10 =>
  bnd (r2_Big_Cmp k y6 (List.replicate 8 0)) fun y12 =>
  some (y10.1,(ige y12 0))
noncomputable def r2_depth.sp (k:Nat):Go.Sx.Spec:=⟨(.pair T24 (.pair T2 (.pair T22 .unit))),(.more (.dp T2) (.one (.dp T4))),fun x=>r2_depth k x.1 x.2.1 x.2.2.1,false⟩
noncomputable def r2_depth.cx (k:Nat):Go.Sx.Ctx:=⟨tys,[(96,r2_Out.sp k),(50,r2_sub.sp k),(94,r2_Dot.sp k),(95,r2_Root.sp k),(97,r2_Big_Over.sp k),(52,r2_Big_Cmp.sp k)],eqs,45,false⟩
theorem r2_depth.cok (k:Nat):CtxOk PR (r2_depth.cx k):=ctx_ok tysOk eqsOk (FnsOk.cons (r2_Out.ok k) (FnsOk.cons (r2_sub.ok k) (FnsOk.cons (r2_Dot.ok k) (FnsOk.cons (r2_Root.ok k) (FnsOk.cons (r2_Big_Over.ok k) (FnsOk.cons (r2_Big_Cmp.ok k) FnsOk.nil))))))
theorem r2_depth.way (k:Nat) (a0:(List V22)) (a1:Int) (a2:V22):Owp (r2_depth k a0 a1 a2) fun y=>∃ w c0,exec PR (r2_depth.cx k) r2_depth.code 0 (entry (.pair T24 (.pair T2 (.pair T22 .unit))) (a0,a1,a2,())).st w (Ret (r2_depth.cx k) Tryz.f60 c0 (.more (.dp T2) (.one (.dp T4))) y):=by
  unfold r2_depth; exact
   Owp.bnd fun y1 e2 =>
   Owp.req fun h3 =>
   Owp.bnd fun y4 e5 =>
   Owp.bnd fun y6 e7 =>
   Owp.bnd fun y8 e9 =>
   Owp.bnd fun y10 e11 =>
   Owp.bnd fun y12 e13 =>
   Owp.some (⟨[rS T22 y1,rS T22 y4,rS T72 y6,rS T2 y8,.res (.more (.dp T2) (.one (.dp T2))) y10,rS T2 y12],[],via (retP (aI (aI (aI (aI (aI (aI (aI trivial e2) h3) e5) e7) e9) e11) e13) (.more (.dp T2) (.one (.dp T4))) ((y10.1,(ige y12 (0:Int))):(Int × Bool))) (by kernel_rfl)⟩)
theorem r2_depth.ok (k:Nat):FnOk PR 60 (r2_depth.sp k) :=
  fn_ok (r2_depth.cok k) hmix Tryz.func60 (code:=r2_depth.code) (by kernel_rfl) (by kernel_rfl) (by kernel_rfl) rfl (by kernel_rfl) (by kernel_rfl) (by kernel_rfl) (fun x=>Nat.le_of_ble_eq_true (by kernel_rfl)) fun x y hy=>(r2_depth.way k x.1 x.2.1 x.2.2.1).ap hy
noncomputable def r2_Least.code:Code:=Func.cd Tryz.f33
def r2_Least.c2 (k:Nat) (a0 a1:(List V22)) (v1:Int):Option (((List V22) × (List V22))) :=
  bif' (ieq v1 1)
  (some (a1,a0))
  (some (a0,a1))
def r2_Least.c4 (k:Nat) (o7:((List V22) × (List V22))) (v9:Int):Nat → Int → Int → Option (Int)
  | 0,_,_=>none
  | n+1,v14,v15 =>
   bif' (ilt v15 (len o7.2))
   (req (inL v15 o7.2) <|
   bnd (r2_depth k o7.1 v9 (el Z22 o7.2 v15)) fun y18 =>
   r2_Least.c4 k o7 v9 n (imax v14 y18.1) (iadd .i64 v15 1))
   (some v14)
def r2_Least.c5 (k:Nat) (o20 v12:Int):Option (Bool) :=
  bif' (ilt v12 0)
  (some true)
  (some (ilt o20 v12))
def r2_Least.c3 (k:Nat) (o7:((List V22) × (List V22))) (v1:Int):Nat → Int → Bool → Int → Int → Option ((Bool × (Int × Int)))
  | 0,_,_,_,_=>none
  | n+1,v9,v10,v11,v12 =>
   bif' (ilt v9 (len o7.1))
   (bnd (r2_Least.c4 k o7 v9 k 0 0) fun o20 =>
   bnd (r2_Least.c5 k o20 v12) fun o23 =>
   bif' o23
   (r2_Least.c3 k o7 v1 n (iadd .i64 v9 1) (ieq v1 1) v9 o20)
   (r2_Least.c3 k o7 v1 n (iadd .i64 v9 1) v10 v11 v12))
   (some (v10,v11,v12))
def r2_Least.c1 (k:Nat) (a0 a1:(List V22)):Nat → Int → Bool → Int → Int → Option ((Bool × (Int × Int)))
  | 0,_,_,_,_=>none
  | n+1,v1,v2,v3,v4 =>
   bif' (ilt v1 2)
   (bnd (r2_Least.c2 k a0 a1 v1) fun o7 =>
   bnd (r2_Least.c3 k o7 v1 k 0 v2 v3 v4) fun o26 =>
   r2_Least.c1 k a0 a1 n (iadd .i64 v1 1) o26.1 o26.2.1 o26.2.2)
   (some (v2,v3,v4))
def r2_Least (k:Nat) (a0 a1:(List V22)):Option (Bool × V22) :=
  bnd (r2_Least.c1 k a0 a1 k 0 false 0 (-1)) fun o28 =>
  some (o28.1,o28.2.1,o28.2.2,())
noncomputable def r2_Least.sp (k:Nat):Go.Sx.Spec:=⟨(.pair T24 (.pair T24 .unit)),(.one (.dp (.pair T4 T22))),fun x=>r2_Least k x.1 x.2.1,false⟩
noncomputable def r2_Least.cx (k:Nat):Go.Sx.Ctx:=⟨tys,[(60,r2_depth.sp k)],eqs,64,false⟩
theorem r2_Least.cok (k:Nat):CtxOk PR (r2_Least.cx k):=ctx_ok tysOk eqsOk (FnsOk.cons (r2_depth.ok k) FnsOk.nil)
noncomputable def r2_Least.c2p (a0 a1:(List V22)) (v1:Int) (v2:Bool) (v3 v4:Int):SL:=⟨[(0,(.val T24 a0)),(1,(.val T24 a1)),(4,(.val .ptr ⟨0,0,(0:Int),0,0⟩)),(5,(.val .ptr ⟨1,0,(0:Int),0,0⟩)),(6,(.val T2 v1)),(7,(.val T24 a0)),(8,(.val T24 a1)),(16,(.val T2 v1)),(22,(.val T4 (ieq v1 (1:Int))))],[(0,.cells (.pair T4 T22) (false,(0:Int),(0:Int),())),(1,.cells (.pair T4 T22) (v2,v3,v4,()))]⟩
noncomputable def r2_Least.c2q (a0 a1:(List V22)) (v1:Int) (v2:Bool) (v3 v4:Int) (o:((List V22) × (List V22))):SL:=(fun v=>⟨[(0,(.val T24 a0)),(1,(.val T24 a1)),(4,(.val .ptr ⟨0,0,(0:Int),0,0⟩)),(5,(.val .ptr ⟨1,0,(0:Int),0,0⟩)),(6,(.val T2 v1)),(7,(.val T24 v.1)),(8,(.val T24 v.2)),(16,(.val T2 v1))],[(0,.cells (.pair T4 T22) (false,(0:Int),(0:Int),())),(1,.cells (.pair T4 T22) (v2,v3,v4,()))]⟩) o
noncomputable def r2_Least.c2x (o:((List V22) × (List V22))):Ex:=(fun _=>.normal) o
noncomputable def r2_Least.c2n (o:((List V22) × (List V22))):Nat:=(fun _=>2) o
theorem r2_Least.c2_ok (k:Nat) (a0 a1:(List V22)) (v1:Int) (v2:Bool) (v3 v4:Int):Owp (r2_Least.c2 k a0 a1 v1) fun o=>Triple PR (r2_Least.cx k) (sub r2_Least.code [1,1,0,1,0,0,1,1,0,0,1,1,0,1]) 2 (r2_Least.c2p a0 a1 v1 v2 v3 v4) (r2_Least.c2x o) (r2_Least.c2n o) (r2_Least.c2q a0 a1 v1 v2 v3 v4 o):=by
  unfold r2_Least.c2; exact
   Owp.bif (fun e6 =>
   Owp.some (triple_way (r2_Least.cok k) hmix [tT] [] [(0,0),(1,1)] (via (finP (aI trivial e6) .normal [(0,0),(1,1)] (r2_Least.c2q a0 a1 v1 v2 v3 v4 (a1,a0))) (by kernel_rfl)))) (fun e6 =>
   Owp.some (triple_way (r2_Least.cok k) hmix [fF] [] [(0,0),(1,1)] (via (finP (aI trivial e6) .normal [(0,0),(1,1)] (r2_Least.c2q a0 a1 v1 v2 v3 v4 (a0,a1))) (by kernel_rfl))))
noncomputable def r2_Least.c4p (a0 a1:(List V22)) (o7:((List V22) × (List V22))) (v1 v9:Int) (v10:Bool) (v11 v12 v14 v15:Int):SL:=⟨[(0,(.val T24 a0)),(1,(.val T24 a1)),(4,(.val .ptr ⟨0,0,(0:Int),0,0⟩)),(5,(.val .ptr ⟨1,0,(0:Int),0,0⟩)),(6,(.val T2 v1)),(7,(.val T24 o7.1)),(8,(.val T24 o7.2)),(9,(.val T2 v9)),(10,(.val T2 v14)),(16,(.val T2 v1)),(26,(.val T2 (len o7.1))),(27,(.val T2 v9)),(30,(.val T24 o7.2)),(31,(.val T2 (len o7.2))),(32,(.val T2 v15))],[(0,.cells (.pair T4 T22) (false,(0:Int),(0:Int),())),(1,.cells (.pair T4 T22) (v10,v11,v12,()))]⟩
noncomputable def r2_Least.c4q (a0 a1:(List V22)) (o7:((List V22) × (List V22))) (v1 v9:Int) (v10:Bool) (v11 v12 o:Int):SL:=(fun v=>⟨[(0,(.val T24 a0)),(1,(.val T24 a1)),(4,(.val .ptr ⟨0,0,(0:Int),0,0⟩)),(5,(.val .ptr ⟨1,0,(0:Int),0,0⟩)),(6,(.val T2 v1)),(7,(.val T24 o7.1)),(8,(.val T24 o7.2)),(9,(.val T2 v9)),(10,(.val T2 v)),(16,(.val T2 v1)),(26,(.val T2 (len o7.1))),(27,(.val T2 v9))],[(0,.cells (.pair T4 T22) (false,(0:Int),(0:Int),())),(1,.cells (.pair T4 T22) (v10,v11,v12,()))]⟩) o
noncomputable def r2_Least.c4x (o:Int):Ex:=(fun _=>(.exit 4)) o
noncomputable def r2_Least.c4n (o:Int):Nat:=(fun _=>2) o
theorem r2_Least.c4_ok (k:Nat) (a0 a1:(List V22)) (o7:((List V22) × (List V22))) (v1 v9:Int) (v10:Bool) (v11 v12:Int):∀ (n:Nat) (v14 v15:Int),Owp (r2_Least.c4 k o7 v9 n v14 v15) fun o=>LTriple PR (r2_Least.cx k) (sub r2_Least.code [1,1,0,1,0,0,1,1,0,0,1,1,1,1,0,0,1,1,0,0,1,1,0,1,0,0]) 2 (r2_Least.c4p a0 a1 o7 v1 v9 v10 v11 v12 v14 v15) (r2_Least.c4x o) (r2_Least.c4n o) (r2_Least.c4q a0 a1 o7 v1 v9 v10 v11 v12 o)
  | 0,_,_=>fun _ h=>nomatch h
  | n+1,v14,v15=>Owp.of (r2_Least.c4.eq_2 ..) (
   Owp.bif (fun e16 =>
   Owp.req fun h17 =>
   Owp.bnd fun y18 e19 =>
   fun y hy=>loop_back (r2_Least.cok k) hmix 2 (r2_Least.c4p a0 a1 o7 v1 v9 v10 v11 v12 (imax v14 y18.1) (iadd .i64 v15 (1:Int))) [tT,.res (.more (.dp T2) (.one (.dp T4))) y18] [] [(0,0),(1,1)] (via (finP (aI (aI (aI trivial e16) h17) e19) .normal [(0,0),(1,1)] (r2_Least.c4p a0 a1 o7 v1 v9 v10 v11 v12 (imax v14 y18.1) (iadd .i64 v15 (1:Int)))) (by kernel_rfl)) ((r2_Least.c4_ok k a0 a1 o7 v1 v9 v10 v11 v12 n (imax v14 y18.1) (iadd .i64 v15 (1:Int))).ap hy)) (fun e16 =>
   Owp.some (loop_exit (r2_Least.cok k) hmix [fF] [] [(0,0),(1,1)] (exne 4) (via (finP (aI trivial e16) (.exit 4) [(0,0),(1,1)] (r2_Least.c4q a0 a1 o7 v1 v9 v10 v11 v12 v14)) (by kernel_rfl)))))
noncomputable def r2_Least.c5p (a0 a1:(List V22)) (o7:((List V22) × (List V22))) (o20 v1 v9:Int) (v10:Bool) (v11 v12:Int):SL:=⟨[(0,(.val T24 a0)),(1,(.val T24 a1)),(4,(.val .ptr ⟨0,0,(0:Int),0,0⟩)),(5,(.val .ptr ⟨1,0,(0:Int),0,0⟩)),(6,(.val T2 v1)),(7,(.val T24 o7.1)),(8,(.val T24 o7.2)),(9,(.val T2 v9)),(10,(.val T2 o20)),(16,(.val T2 v1)),(26,(.val T2 (len o7.1))),(27,(.val T2 v9))],[(0,.cells (.pair T4 T22) (false,(0:Int),(0:Int),())),(1,.cells (.pair T4 T22) (v10,v11,v12,()))]⟩
noncomputable def r2_Least.c5q (a0 a1:(List V22)) (o7:((List V22) × (List V22))) (o20 v1 v9:Int) (v10:Bool) (v11 v12:Int) (o:Bool):SL:=(fun v=>⟨[(0,(.val T24 a0)),(1,(.val T24 a1)),(4,(.val .ptr ⟨0,0,(0:Int),0,0⟩)),(5,(.val .ptr ⟨1,0,(0:Int),0,0⟩)),(6,(.val T2 v1)),(7,(.val T24 o7.1)),(8,(.val T24 o7.2)),(9,(.val T2 v9)),(10,(.val T2 o20)),(16,(.val T2 v1)),(26,(.val T2 (len o7.1))),(27,(.val T2 v9)),(55,(.val T4 v))],[(0,.cells (.pair T4 T22) (false,(0:Int),(0:Int),())),(1,.cells (.pair T4 T22) (v10,v11,v12,()))]⟩) o
noncomputable def r2_Least.c5x (o:Bool):Ex:=(fun _=>.normal) o
noncomputable def r2_Least.c5n (o:Bool):Nat:=(fun _=>2) o
theorem r2_Least.c5_ok (k:Nat) (a0 a1:(List V22)) (o7:((List V22) × (List V22))) (o20 v1 v9:Int) (v10:Bool) (v11 v12:Int):Owp (r2_Least.c5 k o20 v12) fun o=>Triple PR (r2_Least.cx k) (sub r2_Least.code [1,1,0,1,0,0,1,1,0,0,1,1,1,1,0,0,1,1,0,0,1,1,1,0]) 2 (r2_Least.c5p a0 a1 o7 o20 v1 v9 v10 v11 v12) (r2_Least.c5x o) (r2_Least.c5n o) (r2_Least.c5q a0 a1 o7 o20 v1 v9 v10 v11 v12 o):=by
  unfold r2_Least.c5; exact
   Owp.bif (fun e22 =>
   Owp.some (triple_way (r2_Least.cok k) hmix [tT,tT,tT,tT,tT] [] [(0,0),(1,1)] (via (finP (aI (aI (aI (aI (aI trivial e22) e22) e22) e22) e22) .normal [(0,0),(1,1)] (r2_Least.c5q a0 a1 o7 o20 v1 v9 v10 v11 v12 true)) (by kernel_rfl)))) (fun e22 =>
   Owp.some (triple_way (r2_Least.cok k) hmix [fF,fF,fF,fF,fF] [] [(0,0),(1,1)] (via (finP (aI (aI (aI (aI (aI trivial e22) e22) e22) e22) e22) .normal [(0,0),(1,1)] (r2_Least.c5q a0 a1 o7 o20 v1 v9 v10 v11 v12 (ilt o20 v12))) (by kernel_rfl))))
noncomputable def r2_Least.c3p (a0 a1:(List V22)) (o7:((List V22) × (List V22))) (v1 v9:Int) (v10:Bool) (v11 v12:Int):SL:=⟨[(0,(.val T24 a0)),(1,(.val T24 a1)),(4,(.val .ptr ⟨0,0,(0:Int),0,0⟩)),(5,(.val .ptr ⟨1,0,(0:Int),0,0⟩)),(6,(.val T2 v1)),(7,(.val T24 o7.1)),(8,(.val T24 o7.2)),(16,(.val T2 v1)),(26,(.val T2 (len o7.1))),(27,(.val T2 v9))],[(0,.cells (.pair T4 T22) (false,(0:Int),(0:Int),())),(1,.cells (.pair T4 T22) (v10,v11,v12,()))]⟩
noncomputable def r2_Least.c3q (a0 a1:(List V22)) (v1:Int) (o:(Bool × (Int × Int))):SL:=(fun v=>⟨[(0,(.val T24 a0)),(1,(.val T24 a1)),(4,(.val .ptr ⟨0,0,(0:Int),0,0⟩)),(5,(.val .ptr ⟨1,0,(0:Int),0,0⟩)),(16,(.val T2 v1))],[(0,.cells (.pair T4 T22) (false,(0:Int),(0:Int),())),(1,.cells (.pair T4 T22) (v.1,v.2.1,v.2.2,()))]⟩) o
noncomputable def r2_Least.c3x (o:(Bool × (Int × Int))):Ex:=(fun _=>(.exit 2)) o
noncomputable def r2_Least.c3n (o:(Bool × (Int × Int))):Nat:=(fun _=>2) o
theorem r2_Least.c3_ok (k:Nat) (a0 a1:(List V22)) (o7:((List V22) × (List V22))) (v1:Int):∀ (n:Nat) (v9:Int) (v10:Bool) (v11 v12:Int),Owp (r2_Least.c3 k o7 v1 n v9 v10 v11 v12) fun o=>LTriple PR (r2_Least.cx k) (sub r2_Least.code [1,1,0,1,0,0,1,1,0,0,1,1,1,1,0,0]) 2 (r2_Least.c3p a0 a1 o7 v1 v9 v10 v11 v12) (r2_Least.c3x o) (r2_Least.c3n o) (r2_Least.c3q a0 a1 v1 o)
  | 0,_,_,_,_=>fun _ h=>nomatch h
  | n+1,v9,v10,v11,v12=>Owp.of (r2_Least.c3.eq_2 ..) (
   Owp.bif (fun e13 =>
   Owp.bnd fun o20 e21 =>
   Owp.bnd fun o23 e24 =>
   Owp.bif (fun e25 =>
   fun y hy=>loop_back (r2_Least.cok k) hmix 2 (r2_Least.c3p a0 a1 o7 v1 (iadd .i64 v9 (1:Int)) (ieq v1 (1:Int)) v9 o20) [tT,.cut ⟨[],[(0,0),(1,1)],(r2_Least.c4p a0 a1 o7 v1 v9 v10 v11 v12 (0:Int) (0:Int)),2,(.exit 4),(r2_Least.c4q a0 a1 o7 v1 v9 v10 v11 v12 o20),2⟩,.cutR 18 ⟨[],[(0,0),(1,1)],(r2_Least.c5p a0 a1 o7 o20 v1 v9 v10 v11 v12),2,.normal,(r2_Least.c5q a0 a1 o7 o20 v1 v9 v10 v11 v12 o23),2⟩,tT] [] [(0,0),(1,1)] (via (cutP (aI trivial e13) [(0,0),(1,1)] (r2_Least.c4p a0 a1 o7 v1 v9 v10 v11 v12 (0:Int) (0:Int)) (((r2_Least.c4_ok k a0 a1 o7 v1 v9 v10 v11 v12 k (0:Int) (0:Int)).ap e21).triple) (cutP trivial [(0,0),(1,1)] (r2_Least.c5p a0 a1 o7 o20 v1 v9 v10 v11 v12) (((r2_Least.c5_ok k a0 a1 o7 o20 v1 v9 v10 v11 v12).ap e24)) (finP (aI trivial e25) .normal [(0,0),(1,1)] (r2_Least.c3p a0 a1 o7 v1 (iadd .i64 v9 (1:Int)) (ieq v1 (1:Int)) v9 o20)))) (by kernel_rfl)) ((r2_Least.c3_ok k a0 a1 o7 v1 n (iadd .i64 v9 (1:Int)) (ieq v1 (1:Int)) v9 o20).ap hy)) (fun e25 =>
   fun y hy=>loop_back (r2_Least.cok k) hmix 2 (r2_Least.c3p a0 a1 o7 v1 (iadd .i64 v9 (1:Int)) v10 v11 v12) [tT,.cut ⟨[],[(0,0),(1,1)],(r2_Least.c4p a0 a1 o7 v1 v9 v10 v11 v12 (0:Int) (0:Int)),2,(.exit 4),(r2_Least.c4q a0 a1 o7 v1 v9 v10 v11 v12 o20),2⟩,.cutR 18 ⟨[],[(0,0),(1,1)],(r2_Least.c5p a0 a1 o7 o20 v1 v9 v10 v11 v12),2,.normal,(r2_Least.c5q a0 a1 o7 o20 v1 v9 v10 v11 v12 o23),2⟩,fF] [] [(0,0),(1,1)] (via (cutP (aI trivial e13) [(0,0),(1,1)] (r2_Least.c4p a0 a1 o7 v1 v9 v10 v11 v12 (0:Int) (0:Int)) (((r2_Least.c4_ok k a0 a1 o7 v1 v9 v10 v11 v12 k (0:Int) (0:Int)).ap e21).triple) (cutP trivial [(0,0),(1,1)] (r2_Least.c5p a0 a1 o7 o20 v1 v9 v10 v11 v12) (((r2_Least.c5_ok k a0 a1 o7 o20 v1 v9 v10 v11 v12).ap e24)) (finP (aI trivial e25) .normal [(0,0),(1,1)] (r2_Least.c3p a0 a1 o7 v1 (iadd .i64 v9 (1:Int)) v10 v11 v12)))) (by kernel_rfl)) ((r2_Least.c3_ok k a0 a1 o7 v1 n (iadd .i64 v9 (1:Int)) v10 v11 v12).ap hy))) (fun e13 =>
   Owp.some (loop_exit (r2_Least.cok k) hmix [fF] [] [(0,0),(1,1)] (exne 2) (via (finP (aI trivial e13) (.exit 2) [(0,0),(1,1)] (r2_Least.c3q a0 a1 v1 (v10,v11,v12))) (by kernel_rfl)))))
noncomputable def r2_Least.c1p (a0 a1:(List V22)) (v1:Int) (v2:Bool) (v3 v4:Int):SL:=⟨[(0,(.val T24 a0)),(1,(.val T24 a1)),(4,(.val .ptr ⟨0,0,(0:Int),0,0⟩)),(5,(.val .ptr ⟨1,0,(0:Int),0,0⟩)),(16,(.val T2 v1))],[(0,.cells (.pair T4 T22) (false,(0:Int),(0:Int),())),(1,.cells (.pair T4 T22) (v2,v3,v4,()))]⟩
noncomputable def r2_Least.c1q (o:(Bool × (Int × Int))):SL:=(fun v=>⟨[(4,(.val .ptr ⟨0,0,(0:Int),0,0⟩)),(5,(.val .ptr ⟨1,0,(0:Int),0,0⟩))],[(0,.cells (.pair T4 T22) (false,(0:Int),(0:Int),())),(1,.cells (.pair T4 T22) (v.1,v.2.1,v.2.2,()))]⟩) o
noncomputable def r2_Least.c1x (o:(Bool × (Int × Int))):Ex:=(fun _=>(.exit 0)) o
noncomputable def r2_Least.c1n (o:(Bool × (Int × Int))):Nat:=(fun _=>2) o
theorem r2_Least.c1_ok (k:Nat) (a0 a1:(List V22)):∀ (n:Nat) (v1:Int) (v2:Bool) (v3 v4:Int),Owp (r2_Least.c1 k a0 a1 n v1 v2 v3 v4) fun o=>LTriple PR (r2_Least.cx k) (sub r2_Least.code [1,1,0,1,0,0]) 2 (r2_Least.c1p a0 a1 v1 v2 v3 v4) (r2_Least.c1x o) (r2_Least.c1n o) (r2_Least.c1q o)
  | 0,_,_,_,_=>fun _ h=>nomatch h
  | n+1,v1,v2,v3,v4=>Owp.of (r2_Least.c1.eq_2 ..) (
   Owp.bif (fun e5 =>
   Owp.bnd fun o7 e8 =>
   Owp.bnd fun o26 e27 =>
   fun y hy=>loop_back (r2_Least.cok k) hmix 2 (r2_Least.c1p a0 a1 (iadd .i64 v1 (1:Int)) o26.1 o26.2.1 o26.2.2) [tT,.cut ⟨[],[(0,0),(1,1)],(r2_Least.c2p a0 a1 v1 v2 v3 v4),2,.normal,(r2_Least.c2q a0 a1 v1 v2 v3 v4 o7),2⟩,.cut ⟨[],[(0,0),(1,1)],(r2_Least.c3p a0 a1 o7 v1 (0:Int) v2 v3 v4),2,(.exit 2),(r2_Least.c3q a0 a1 v1 o26),2⟩] [] [(0,0),(1,1)] (via (cutP (aI trivial e5) [(0,0),(1,1)] (r2_Least.c2p a0 a1 v1 v2 v3 v4) (((r2_Least.c2_ok k a0 a1 v1 v2 v3 v4).ap e8)) (cutP trivial [(0,0),(1,1)] (r2_Least.c3p a0 a1 o7 v1 (0:Int) v2 v3 v4) (((r2_Least.c3_ok k a0 a1 o7 v1 k (0:Int) v2 v3 v4).ap e27).triple) (finP trivial .normal [(0,0),(1,1)] (r2_Least.c1p a0 a1 (iadd .i64 v1 (1:Int)) o26.1 o26.2.1 o26.2.2)))) (by kernel_rfl)) ((r2_Least.c1_ok k a0 a1 n (iadd .i64 v1 (1:Int)) o26.1 o26.2.1 o26.2.2).ap hy)) (fun e5 =>
   Owp.some (loop_exit (r2_Least.cok k) hmix [fF] [] [(0,0),(1,1)] (exne 0) (via (finP (aI trivial e5) (.exit 0) [(0,0),(1,1)] (r2_Least.c1q (v2,v3,v4))) (by kernel_rfl)))))
theorem r2_Least.way (k:Nat) (a0 a1:(List V22)):Owp (r2_Least k a0 a1) fun y=>∃ w c0,exec PR (r2_Least.cx k) r2_Least.code 0 (entry (.pair T24 (.pair T24 .unit)) (a0,a1,())).st w (Ret (r2_Least.cx k) Tryz.f33 c0 (.one (.dp (.pair T4 T22))) y):=by
  unfold r2_Least; exact
   Owp.bnd fun o28 e29 =>
   Owp.some (⟨[.cut ⟨[],[(0,0),(1,2)],(r2_Least.c1p a0 a1 (0:Int) false (0:Int) (-1:Int)),2,(.exit 0),(r2_Least.c1q o28),2⟩],[],via (cutP trivial [(0,0),(1,2)] (r2_Least.c1p a0 a1 (0:Int) false (0:Int) (-1:Int)) (((r2_Least.c1_ok k a0 a1 k (0:Int) false (0:Int) (-1:Int)).ap e29).triple) (retP trivial (.one (.dp (.pair T4 T22))) ((o28.1,o28.2.1,o28.2.2,()):(Bool × V22)))) (by kernel_rfl)⟩)
theorem r2_Least.ok (k:Nat):FnOk PR 33 (r2_Least.sp k) :=
  fn_ok (r2_Least.cok k) hmix Tryz.func33 (code:=r2_Least.code) (by kernel_rfl) (by kernel_rfl) (by kernel_rfl) rfl (by kernel_rfl) (by kernel_rfl) (by kernel_rfl) (fun x=>Nat.le_of_ble_eq_true (by kernel_rfl)) fun x y hy=>(r2_Least.way k x.1 x.2.1).ap hy
noncomputable def r2_Sink_1.code:Code:=Func.cd Tryz.f32
def r2_Sink_1 (k:Nat) (a0:Int) (a1:V25) (a2:Int) (a3:V25):Option Int :=
  bnd (fix_Mul k a2 a0) fun y1 =>
  bnd (r2_Step k a1 y1) fun y3 =>
  bnd (r2_Placed k y3) fun y5 =>
  bnd (fix_Mul k a2 a0) fun y7 =>
  bnd (r2_Step k a3 y7) fun y9 =>
  bnd (r2_Placed k y9) fun y11 =>
  bnd (r2_Meet k y5 y11) fun y13 =>
  bif' y13
  (bnd (r2_Least k y5 y11) fun y16 =>
   some y16.2.2.1)
  (some 0)
noncomputable def r2_Sink_1.sp (k:Nat):Go.Sx.Spec:=⟨(.pair T2 (.pair (.ref T25) (.pair (.ref T2) (.pair (.ref T25) .unit)))),(.one (.dp T2)),fun x=>r2_Sink_1 k x.1 x.2.1 x.2.2.1 x.2.2.2.1,false⟩
noncomputable def r2_Sink_1.cx (k:Nat):Go.Sx.Ctx:=⟨tys,[(14,fix_Mul.sp k),(29,r2_Step.sp k),(28,r2_Placed.sp k),(30,r2_Meet.sp k),(33,r2_Least.sp k)],eqs,28,false⟩
theorem r2_Sink_1.cok (k:Nat):CtxOk PR (r2_Sink_1.cx k):=ctx_ok tysOk eqsOk (FnsOk.cons (fix_Mul.ok k) (FnsOk.cons (r2_Step.ok k) (FnsOk.cons (r2_Placed.ok k) (FnsOk.cons (r2_Meet.ok k) (FnsOk.cons (r2_Least.ok k) FnsOk.nil)))))
theorem r2_Sink_1.way (k:Nat) (a0:Int) (a1:V25) (a2:Int) (a3:V25):Owp (r2_Sink_1 k a0 a1 a2 a3) fun y=>∃ w c0,exec PR (r2_Sink_1.cx k) r2_Sink_1.code 0 (entry (.pair T2 (.pair (.ref T25) (.pair (.ref T2) (.pair (.ref T25) .unit)))) (a0,a1,a2,a3,())).st w (Ret (r2_Sink_1.cx k) Tryz.f32 c0 (.one (.dp T2)) y):=by
  unfold r2_Sink_1; exact
   Owp.bnd fun y1 e2 =>
   Owp.bnd fun y3 e4 =>
   Owp.bnd fun y5 e6 =>
   Owp.bnd fun y7 e8 =>
   Owp.bnd fun y9 e10 =>
   Owp.bnd fun y11 e12 =>
   Owp.bnd fun y13 e14 =>
   Owp.bif (fun e15 =>
   Owp.bnd fun y16 e17 =>
   Owp.some (⟨[rS T2 y1,rS T25 y3,.res (.one (.ow T22 23)) y5,rS T2 y7,rS T25 y9,.res (.one (.ow T22 23)) y11,rS T4 y13,fF,.res (.one (.dp (.pair T4 T22))) y16],[],via (retP (aI (aI (aI (aI (aI (aI (aI (aI (aI trivial e2) e4) e6) e8) e10) e12) e14) (congrArg not e15)) e17) (.one (.dp T2)) (y16.2.2.1:Int)) (by kernel_rfl)⟩)) (fun e15 =>
   Owp.some (⟨[rS T2 y1,rS T25 y3,.res (.one (.ow T22 23)) y5,rS T2 y7,rS T25 y9,.res (.one (.ow T22 23)) y11,rS T4 y13,tT],[],via (retP (aI (aI (aI (aI (aI (aI (aI (aI trivial e2) e4) e6) e8) e10) e12) e14) (congrArg not e15)) (.one (.dp T2)) ((0:Int):Int)) (by kernel_rfl)⟩))
theorem r2_Sink_1.ok (k:Nat):FnOk PR 32 (r2_Sink_1.sp k) :=
  fn_ok (r2_Sink_1.cok k) hmix Tryz.func32 (code:=r2_Sink_1.code) (by kernel_rfl) (by kernel_rfl) (by kernel_rfl) rfl (by kernel_rfl) (by kernel_rfl) (by kernel_rfl) (fun x=>Nat.le_of_ble_eq_true (by kernel_rfl)) fun x y hy=>(r2_Sink_1.way k x.1 x.2.1 x.2.2.1 x.2.2.2.1).ap hy
noncomputable def r2_Sink.code:Code:=Func.cd Tryz.f11
def r2_Sink.c2 (k:Nat) (v5 y1:Int):Option (Bool) :=
  bif' (ile v5 (iadd .i64 (iquo .i64 y1 8192) 1))
  (some (ile v5 1024))
  (some false)
def r2_Sink.c1 (k:Nat) (a0 a1:V25) (a2 y1 y3:Int):Nat → Int → Option (Int ⊕ Unit)
  | 0,_=>none
  | n+1,v5 =>
   bnd (r2_Sink.c2 k v5 y1) fun o7 =>
   bif' o7
   (req (nz (iadd .i64 (iquo .i64 y1 8192) 1)) <|
   bnd (r2_Sink_1 k (iquo .i64 (imul .i64 v5 65536) (iadd .i64 (iquo .i64 y1 8192) 1)) a0 a2 a1) fun y11 =>
   bif' (igt y11 (iadd .i64 y3 16384))
   (some (.inl (iquo .i64 (imul .i64 (isub .i64 v5 1) 65536) (iadd .i64 (iquo .i64 y1 8192) 1))))
   (r2_Sink.c1 k a0 a1 a2 y1 y3 n (iadd .i64 v5 1)))
   (some (.inr ()))
def r2_Sink (k:Nat) (a0 a1:V25) (a2:Int):Option Int :=
  bnd (r2_Bound k a0 a1 a2) fun y1 =>
  bnd (r2_Sink_1 k 0 a0 a2 a1) fun y3 =>
  bnd (r2_Sink.c1 k a0 a1 a2 y1 y3 k 1) fun o14 =>
  two o14 (fun y16 =>
  some y16) (fun y18 =>
  req (nz (iadd .i64 (iquo .i64 y1 8192) 1)) <|
   some (iquo .i64 (imul .i64 (imin (iadd .i64 (iquo .i64 y1 8192) 1) 1024) 65536) (iadd .i64 (iquo .i64 y1 8192) 1)))
noncomputable def r2_Sink.sp (k:Nat):Go.Sx.Spec:=⟨(.pair T25 (.pair T25 (.pair T2 .unit))),(.one (.dp T2)),fun x=>r2_Sink k x.1 x.2.1 x.2.2.1,false⟩
noncomputable def r2_Sink.cx (k:Nat):Go.Sx.Ctx:=⟨tys,[(10,r2_Bound.sp k),(32,r2_Sink_1.sp k)],eqs,48,false⟩
theorem r2_Sink.cok (k:Nat):CtxOk PR (r2_Sink.cx k):=ctx_ok tysOk eqsOk (FnsOk.cons (r2_Bound.ok k) (FnsOk.cons (r2_Sink_1.ok k) FnsOk.nil))
noncomputable def r2_Sink.c2p (a0 a1:V25) (a2 v5 y1 y3:Int):SL:=⟨[(7,(.val T2 (iadd .i64 (iquo .i64 y1 (8192:Int)) (1:Int)))),(8,(.val .clo (32,[⟨0,0,(0:Int),0,0⟩,⟨1,0,(0:Int),0,0⟩,⟨2,0,(0:Int),0,0⟩]))),(9,(.val T2 y3)),(10,(.val T2 v5))],[(0,.cells T25 a0),(1,.cells T2 a2),(2,.cells T25 a1)]⟩
noncomputable def r2_Sink.c2q (a0 a1:V25) (a2 v5 y1 y3:Int) (o:Bool):SL:=(fun v=>⟨[(7,(.val T2 (iadd .i64 (iquo .i64 y1 (8192:Int)) (1:Int)))),(8,(.val .clo (32,[⟨0,0,(0:Int),0,0⟩,⟨1,0,(0:Int),0,0⟩,⟨2,0,(0:Int),0,0⟩]))),(9,(.val T2 y3)),(10,(.val T2 v5)),(26,(.val T4 v))],[(0,.cells T25 a0),(1,.cells T2 a2),(2,.cells T25 a1)]⟩) o
noncomputable def r2_Sink.c2x (o:Bool):Ex:=(fun _=>.normal) o
noncomputable def r2_Sink.c2n (o:Bool):Nat:=(fun _=>3) o
theorem r2_Sink.c2_ok (k:Nat) (a0 a1:V25) (a2 v5 y1 y3:Int):Owp (r2_Sink.c2 k v5 y1) fun o=>Triple PR (r2_Sink.cx k) (sub r2_Sink.code [1,1,1,1,0,1,0,0,0,0]) 3 (r2_Sink.c2p a0 a1 a2 v5 y1 y3) (r2_Sink.c2x o) (r2_Sink.c2n o) (r2_Sink.c2q a0 a1 a2 v5 y1 y3 o):=by
  unfold r2_Sink.c2; exact
   Owp.bif (fun e6 =>
   Owp.some (triple_way (r2_Sink.cok k) hmix [tT,tT,tT] [] [(0,0),(1,1),(2,2)] (via (finP (aI (aI (aI trivial e6) e6) e6) .normal [(0,0),(1,1),(2,2)] (r2_Sink.c2q a0 a1 a2 v5 y1 y3 (ile v5 (1024:Int)))) (by kernel_rfl)))) (fun e6 =>
   Owp.some (triple_way (r2_Sink.cok k) hmix [fF,fF,fF] [] [(0,0),(1,1),(2,2)] (via (finP (aI (aI (aI trivial e6) e6) e6) .normal [(0,0),(1,1),(2,2)] (r2_Sink.c2q a0 a1 a2 v5 y1 y3 false)) (by kernel_rfl))))
noncomputable def r2_Sink.c1p (a0 a1:V25) (a2 y1 y3 v5:Int):SL:=⟨[(7,(.val T2 (iadd .i64 (iquo .i64 y1 (8192:Int)) (1:Int)))),(8,(.val .clo (32,[⟨0,0,(0:Int),0,0⟩,⟨1,0,(0:Int),0,0⟩,⟨2,0,(0:Int),0,0⟩]))),(9,(.val T2 y3)),(10,(.val T2 v5))],[(0,.cells T25 a0),(1,.cells T2 a2),(2,.cells T25 a1)]⟩
noncomputable def r2_Sink.c1q (y1:Int) (o:Int ⊕ Unit):SL:=(fun o=>two o (fun v=>⟨[(6,(.val T2 v))],[]⟩) (fun v=>⟨[(7,(.val T2 (iadd .i64 (iquo .i64 y1 (8192:Int)) (1:Int))))],[]⟩)) o
noncomputable def r2_Sink.c1x (o:Int ⊕ Unit):Ex:=(fun o=>two o (fun _=>.ret) (fun _=>(.exit 0))) o
noncomputable def r2_Sink.c1n (o:Int ⊕ Unit):Nat:=(fun o=>two o (fun _=>0) (fun _=>0)) o
theorem r2_Sink.c1_ok (k:Nat) (a0 a1:V25) (a2 y1 y3:Int):∀ (n:Nat) (v5:Int),Owp (r2_Sink.c1 k a0 a1 a2 y1 y3 n v5) fun o=>LTriple PR (r2_Sink.cx k) (sub r2_Sink.code [1,1,1,1,0,1,0,0]) 3 (r2_Sink.c1p a0 a1 a2 y1 y3 v5) (r2_Sink.c1x o) (r2_Sink.c1n o) (r2_Sink.c1q y1 o)
  | 0,_=>fun _ h=>nomatch h
  | n+1,v5=>Owp.of (r2_Sink.c1.eq_2 ..) (
   Owp.bnd fun o7 e8 =>
   Owp.bif (fun e9 =>
   Owp.req fun h10 =>
   Owp.bnd fun y11 e12 =>
   Owp.bif (fun e13 =>
   Owp.some (loop_exit (r2_Sink.cok k) hmix [.cutR 5 ⟨[],[(0,0),(1,1),(2,2)],(r2_Sink.c2p a0 a1 a2 v5 y1 y3),3,.normal,(r2_Sink.c2q a0 a1 a2 v5 y1 y3 o7),3⟩,tT,rS T2 y11,tT] [] [] exne_ret (via (cutP trivial [(0,0),(1,1),(2,2)] (r2_Sink.c2p a0 a1 a2 v5 y1 y3) (((r2_Sink.c2_ok k a0 a1 a2 v5 y1 y3).ap e8)) (finP (aI (aI (aI (aI (aI trivial e9) h10) e12) e13) h10) .ret [] (r2_Sink.c1q y1 (.inl (iquo .i64 (imul .i64 (isub .i64 v5 (1:Int)) (65536:Int)) (iadd .i64 (iquo .i64 y1 (8192:Int)) (1:Int))))))) (by kernel_rfl)))) (fun e13 =>
   fun y hy=>loop_back (r2_Sink.cok k) hmix 3 (r2_Sink.c1p a0 a1 a2 y1 y3 (iadd .i64 v5 (1:Int))) [.cutR 5 ⟨[],[(0,0),(1,1),(2,2)],(r2_Sink.c2p a0 a1 a2 v5 y1 y3),3,.normal,(r2_Sink.c2q a0 a1 a2 v5 y1 y3 o7),3⟩,tT,rS T2 y11,fF] [] [(0,0),(1,1),(2,2)] (via (cutP trivial [(0,0),(1,1),(2,2)] (r2_Sink.c2p a0 a1 a2 v5 y1 y3) (((r2_Sink.c2_ok k a0 a1 a2 v5 y1 y3).ap e8)) (finP (aI (aI (aI (aI trivial e9) h10) e12) e13) .normal [(0,0),(1,1),(2,2)] (r2_Sink.c1p a0 a1 a2 y1 y3 (iadd .i64 v5 (1:Int))))) (by kernel_rfl)) ((r2_Sink.c1_ok k a0 a1 a2 y1 y3 n (iadd .i64 v5 (1:Int))).ap hy))) (fun e9 =>
   Owp.some (loop_exit (r2_Sink.cok k) hmix [.cutR 5 ⟨[],[(0,0),(1,1),(2,2)],(r2_Sink.c2p a0 a1 a2 v5 y1 y3),3,.normal,(r2_Sink.c2q a0 a1 a2 v5 y1 y3 o7),3⟩,fF] [] [] (exne 0) (via (cutP trivial [(0,0),(1,1),(2,2)] (r2_Sink.c2p a0 a1 a2 v5 y1 y3) (((r2_Sink.c2_ok k a0 a1 a2 v5 y1 y3).ap e8)) (finP (aI trivial e9) (.exit 0) [] (r2_Sink.c1q y1 (.inr ())))) (by kernel_rfl)))))
theorem r2_Sink.way (k:Nat) (a0 a1:V25) (a2:Int):Owp (r2_Sink k a0 a1 a2) fun y=>∃ w c0,exec PR (r2_Sink.cx k) r2_Sink.code 0 (entry (.pair T25 (.pair T25 (.pair T2 .unit))) (a0,a1,a2,())).st w (Ret (r2_Sink.cx k) Tryz.f11 c0 (.one (.dp T2)) y):=by
  unfold r2_Sink; exact
   Owp.bnd fun y1 e2 =>
   Owp.bnd fun y3 e4 =>
   Owp.bnd fun o14 e15 =>
   Owp.two (fun y16 e17 =>
   Owp.some (⟨[rS T2 y1,rS T2 y3,.cut ⟨[],[(0,0),(1,2),(2,1)],(r2_Sink.c1p a0 a1 a2 y1 y3 (1:Int)),3,.ret,(r2_Sink.c1q y1 (.inl y16)),0⟩],[],via (cutP (aI (aI (aI trivial e2) (by decide:nz (8192:Int))) e4) [(0,0),(1,2),(2,1)] (r2_Sink.c1p a0 a1 a2 y1 y3 (1:Int)) (((r2_Sink.c1_ok k a0 a1 a2 y1 y3 k (1:Int)).ap (e15.trans (congrArg some e17))).triple) (retP trivial (.one (.dp T2)) (y16:Int))) (by kernel_rfl)⟩)) (fun y18 e19 =>
   Owp.req fun h20 =>
   Owp.some (⟨[rS T2 y1,rS T2 y3,.cut ⟨[],[(0,0),(1,2),(2,1)],(r2_Sink.c1p a0 a1 a2 y1 y3 (1:Int)),3,(.exit 0),(r2_Sink.c1q y1 (.inr ())),0⟩],[],via (cutP (aI (aI (aI trivial e2) (by decide:nz (8192:Int))) e4) [(0,0),(1,2),(2,1)] (r2_Sink.c1p a0 a1 a2 y1 y3 (1:Int)) (((r2_Sink.c1_ok k a0 a1 a2 y1 y3 k (1:Int)).ap (e15.trans (congrArg some e19))).triple) (retP (aI trivial h20) (.one (.dp T2)) ((iquo .i64 (imul .i64 (imin (iadd .i64 (iquo .i64 y1 (8192:Int)) (1:Int)) (1024:Int)) (65536:Int)) (iadd .i64 (iquo .i64 y1 (8192:Int)) (1:Int))):Int))) (by kernel_rfl)⟩))
theorem r2_Sink.ok (k:Nat):FnOk PR 11 (r2_Sink.sp k) :=
  fn_ok (r2_Sink.cok k) hmix Tryz.func11 (code:=r2_Sink.code) (by kernel_rfl) (by kernel_rfl) (by kernel_rfl) rfl (by kernel_rfl) (by kernel_rfl) (by kernel_rfl) (fun x=>Nat.le_of_ble_eq_true (by kernel_rfl)) fun x y hy=>(r2_Sink.way k x.1 x.2.1 x.2.2.1).ap hy
end Go.Proofs.T1
