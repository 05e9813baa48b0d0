import Derived.Test.YtddbhngnhegndaaGreatG4
namespace Go.Proofs.T1
open Go Go.Sx Go.Proofs
set_option maxRecDepth 100000
set_option linter.unusedVariables false
noncomputable def near_Minus.code:Code:=Func.cd Tryz.f45
def near_Minus.c1 (k:Nat) (a1:(List V22)):Nat → Int → (List V22) → Option ((List V22))
  | 0,_,_=>none
  | n+1,v7,v8 =>
   bif' (ilt v7 (len a1))
   (req (inL v7 a1) <|
   req (room 16 v8 [((ineg .i64 (el Z22 a1 v7).1),(ineg .i64 (el Z22 a1 v7).2.1),())]) <|
   near_Minus.c1 k a1 n (iadd .i64 v7 1) (v8 ++ [((ineg .i64 (el Z22 a1 v7).1),(ineg .i64 (el Z22 a1 v7).2.1),())]))
   (some v8)
def near_Minus.c3 (k:Nat) (a0 o12:(List V22)) (v20 v21:Int):Option (Bool) :=
  bif' (ilt v20 (len a0))
  (some true)
  (some (ilt v21 (len o12)))
def near_Minus.c4 (k:Nat) (a0 o12:(List V22)) (v20 v21 y34:Int):Option (Bool) :=
  bif' (ieq v21 (len o12))
  (some true)
  (bif' (ilt v20 (len a0))
   (some (ige y34 0))
   (some false))
def near_Minus.c5 (k:Nat) (a0 o12:(List V22)) (v20 v21 y34:Int):Option (Bool) :=
  bif' (ieq v20 (len a0))
  (some true)
  (bif' (ilt v21 (len o12))
   (some (ile y34 0))
   (some false))
def near_Minus.c6 (k:Nat) (o38:Bool) (v20 v22 v23:Int) (y30:V22):Option ((Int × (Int × Int))) :=
  bif' o38
  (some ((iadd .i64 v20 1),(iadd .i64 v22 y30.1),(iadd .i64 v23 y30.2.1)))
  (some (v20,v22,v23))
def near_Minus.c2 (k:Nat) (a0 o12:(List V22)) (y14 y16:Int):Nat → Int → Int → Int → Int → (List V22) → Option ((List V22))
  | 0,_,_,_,_,_=>none
  | n+1,v20,v21,v22,v23,v24 =>
   bnd (near_Minus.c3 k a0 o12 v20 v21) fun o26 =>
   bif' o26
   (req (room 16 v24 [(v22,v23,())]) <|
   bnd (near_edge k a0 y14 v20) fun y30 =>
   bnd (near_edge k o12 y16 v21) fun y32 =>
   bnd (near_cross k y30 y32) fun y34 =>
   bnd (near_Minus.c4 k a0 o12 v20 v21 y34) fun o38 =>
   bnd (near_Minus.c5 k a0 o12 v20 v21 y34) fun o42 =>
   bnd (near_Minus.c6 k o38 v20 v22 v23 y30) fun o45 =>
   bif' o42
   (near_Minus.c2 k a0 o12 y14 y16 n o45.1 (iadd .i64 v21 1) (iadd .i64 o45.2.1 y32.1) (iadd .i64 o45.2.2 y32.2.1) (v24 ++ [(v22,v23,())]))
   (near_Minus.c2 k a0 o12 y14 y16 n o45.1 v21 o45.2.1 o45.2.2 (v24 ++ [(v22,v23,())])))
   (some v24)
def near_Minus (k:Nat) (a0 a1:(List V22)):Option ((List V22) × Int) :=
  bnd (poly_Check k a0) fun y1 =>
  bif' (ine y1 0)
  (some ([],y1))
  (bnd (poly_Check k a1) fun y4 =>
   bif' (ine y4 0)
   (some ([],y4))
   (bnd (near_Minus.c1 k a1 k 0 []) fun o12 =>
   bnd (near_lowest k a0) fun y14 =>
   bnd (near_lowest k o12) fun y16 =>
   req (inL y14 a0) <|
   req (inL y16 o12) <|
   bnd (near_Minus.c2 k a0 o12 y14 y16 k 0 0 (iadd .i64 (el Z22 a0 y14).1 (el Z22 o12 y16).1) (iadd .i64 (el Z22 a0 y14).2.1 (el Z22 o12 y16).2.1) []) fun o48 =>
   some (o48,0)))
noncomputable def near_Minus.sp (k:Nat):Go.Sx.Spec:=⟨(.pair T24 (.pair T24 .unit)),(.more (.ow T22 23) (.one (.dp T2))),fun x=>near_Minus k x.1 x.2.1,false⟩
noncomputable def near_Minus.cx (k:Nat):Go.Sx.Ctx:=⟨tys,[(61,poly_Check.sp k),(77,near_lowest.sp k),(78,near_edge.sp k),(79,near_cross.sp k)],eqs,160,false⟩
theorem near_Minus.cok (k:Nat):CtxOk PR (near_Minus.cx k):=ctx_ok tysOk eqsOk (FnsOk.cons (poly_Check.ok k) (FnsOk.cons (near_lowest.ok k) (FnsOk.cons (near_edge.ok k) (FnsOk.cons (near_cross.ok k) FnsOk.nil))))
noncomputable def near_Minus.c1p (a0 a1:(List V22)) (v7:Int) (v8:(List V22)):SL:=⟨[(0,(.val T24 a0)),(8,(.val .own (0:Nat))),(32,(.val T24 a1)),(33,(.val T2 (len a1))),(34,(.val T2 v7))],[(0,.row T22 v8 23)]⟩
noncomputable def near_Minus.c1q (a0 o:(List V22)):SL:=(fun v=>⟨[(0,(.val T24 a0)),(8,(.val .own (0:Nat)))],[(0,.row T22 v 23)]⟩) o
noncomputable def near_Minus.c1x (o:(List V22)):Ex:=(fun _=>(.exit 0)) o
noncomputable def near_Minus.c1n (o:(List V22)):Nat:=(fun _=>1) o
theorem near_Minus.c1_ok (k:Nat) (a0 a1:(List V22)):∀ (n:Nat) (v7:Int) (v8:(List V22)),Owp (near_Minus.c1 k a1 n v7 v8) fun o=>LTriple PR (near_Minus.cx k) (sub near_Minus.code [1,1,1,1,0,1,0,0]) 1 (near_Minus.c1p a0 a1 v7 v8) (near_Minus.c1x o) (near_Minus.c1n o) (near_Minus.c1q a0 o)
  | 0,_,_=>fun _ h=>nomatch h
  | n+1,v7,v8=>Owp.of (near_Minus.c1.eq_2 ..) (
   Owp.bif (fun e9 =>
   Owp.req fun h10 =>
   Owp.req fun h11 =>
   fun y hy=>loop_back (near_Minus.cok k) hmix 1 (near_Minus.c1p a0 a1 (iadd .i64 v7 (1:Int)) (v8 ++ [((ineg .i64 (el Z22 a1 v7).1),(ineg .i64 (el Z22 a1 v7).2.1),())])) [tT,tT] [] [(0,15)] (via (finP (aI (aI (aI trivial e9) h10) h11) .normal [(0,15)] (near_Minus.c1p a0 a1 (iadd .i64 v7 (1:Int)) (v8 ++ [((ineg .i64 (el Z22 a1 v7).1),(ineg .i64 (el Z22 a1 v7).2.1),())]))) (by kernel_rfl)) ((near_Minus.c1_ok k a0 a1 n (iadd .i64 v7 (1:Int)) (v8 ++ [((ineg .i64 (el Z22 a1 v7).1),(ineg .i64 (el Z22 a1 v7).2.1),())])).ap hy)) (fun e9 =>
   Owp.some (loop_exit (near_Minus.cok k) hmix [fF] [] [(0,0)] (exne 0) (via (finP (aI trivial e9) (.exit 0) [(0,0)] (near_Minus.c1q a0 v8)) (by kernel_rfl)))))
noncomputable def near_Minus.c3p (a0 o12:(List V22)) (v20 v21 v22 v23:Int) (v24:(List V22)) (y14 y16:Int):SL:=⟨[(0,(.val T24 a0)),(8,(.val .own (0:Nat))),(11,(.val T2 y14)),(12,(.val T2 y16)),(13,(.val .ptr ⟨1,0,(0:Int),0,0⟩)),(14,(.val .own (2:Nat))),(15,(.val T2 v20)),(16,(.val T2 v21))],[(0,.row T22 o12 23),(1,.cells T22 (v22,v23,())),(2,.row T22 v24 23)]⟩
noncomputable def near_Minus.c3q (a0 o12:(List V22)) (v20 v21 v22 v23:Int) (v24:(List V22)) (y14 y16:Int) (o:Bool):SL:=(fun v=>⟨[(0,(.val T24 a0)),(8,(.val .own (0:Nat))),(11,(.val T2 y14)),(12,(.val T2 y16)),(13,(.val .ptr ⟨1,0,(0:Int),0,0⟩)),(14,(.val .own (2:Nat))),(15,(.val T2 v20)),(16,(.val T2 v21)),(85,(.val T4 v))],[(0,.row T22 o12 23),(1,.cells T22 (v22,v23,())),(2,.row T22 v24 23)]⟩) o
noncomputable def near_Minus.c3x (o:Bool):Ex:=(fun _=>.normal) o
noncomputable def near_Minus.c3n (o:Bool):Nat:=(fun _=>3) o
theorem near_Minus.c3_ok (k:Nat) (a0 o12:(List V22)) (v20 v21 v22 v23:Int) (v24:(List V22)) (y14 y16:Int):Owp (near_Minus.c3 k a0 o12 v20 v21) fun o=>Triple PR (near_Minus.cx k) (sub near_Minus.code [1,1,1,1,1,1,1,1,0,1,0,0,0,0]) 3 (near_Minus.c3p a0 o12 v20 v21 v22 v23 v24 y14 y16) (near_Minus.c3x o) (near_Minus.c3n o) (near_Minus.c3q a0 o12 v20 v21 v22 v23 v24 y14 y16 o):=by
  unfold near_Minus.c3; exact
   Owp.bif (fun e25 =>
   Owp.some (triple_way (near_Minus.cok k) hmix [tT,tT,tT,tT,tT] [] [(0,0),(1,1),(2,2)] (via (finP (aI (aI (aI (aI (aI trivial e25) e25) e25) e25) e25) .normal [(0,0),(1,1),(2,2)] (near_Minus.c3q a0 o12 v20 v21 v22 v23 v24 y14 y16 true)) (by kernel_rfl)))) (fun e25 =>
   Owp.some (triple_way (near_Minus.cok k) hmix [fF,fF,fF,fF,fF] [] [(0,0),(1,1),(2,2)] (via (finP (aI (aI (aI (aI (aI trivial e25) e25) e25) e25) e25) .normal [(0,0),(1,1),(2,2)] (near_Minus.c3q a0 o12 v20 v21 v22 v23 v24 y14 y16 (ilt v21 (len o12)))) (by kernel_rfl))))
noncomputable def near_Minus.c4p (a0 o12:(List V22)) (v20 v21 v22 v23:Int) (v24:(List V22)) (y14 y16:Int) (y30 y32:V22) (y34:Int):SL:=⟨[(0,(.val T24 a0)),(8,(.val .own (0:Nat))),(11,(.val T2 y14)),(12,(.val T2 y16)),(13,(.val .ptr ⟨1,0,(0:Int),0,0⟩)),(14,(.val .own (2:Nat))),(15,(.val T2 v20)),(16,(.val T2 v21)),(17,(.val .ptr ⟨3,0,(0:Int),0,0⟩)),(18,(.val .ptr ⟨4,0,(0:Int),0,0⟩)),(19,(.val T2 y34))],[(0,.row T22 o12 23),(1,.cells T22 (v22,v23,())),(2,.row T22 (v24 ++ [(v22,v23,())]) 23),(3,.cells T22 y30),(4,.cells T22 y32)]⟩
noncomputable def near_Minus.c4q (a0 o12:(List V22)) (v20 v21 v22 v23:Int) (v24:(List V22)) (y14 y16:Int) (y30 y32:V22) (y34:Int) (o:Bool):SL:=(fun v=>⟨[(0,(.val T24 a0)),(8,(.val .own (0:Nat))),(11,(.val T2 y14)),(12,(.val T2 y16)),(13,(.val .ptr ⟨1,0,(0:Int),0,0⟩)),(14,(.val .own (2:Nat))),(15,(.val T2 v20)),(16,(.val T2 v21)),(17,(.val .ptr ⟨3,0,(0:Int),0,0⟩)),(18,(.val .ptr ⟨4,0,(0:Int),0,0⟩)),(19,(.val T2 y34)),(20,(.val T4 v))],[(0,.row T22 o12 23),(1,.cells T22 (v22,v23,())),(2,.row T22 (v24 ++ [(v22,v23,())]) 23),(3,.cells T22 y30),(4,.cells T22 y32)]⟩) o
noncomputable def near_Minus.c4x (o:Bool):Ex:=(fun _=>.normal) o
noncomputable def near_Minus.c4n (o:Bool):Nat:=(fun _=>5) o
theorem near_Minus.c4_ok (k:Nat) (a0 o12:(List V22)) (v20 v21 v22 v23:Int) (v24:(List V22)) (y14 y16:Int) (y30 y32:V22) (y34:Int):Owp (near_Minus.c4 k a0 o12 v20 v21 y34) fun o=>Triple PR (near_Minus.cx k) (sub near_Minus.code [1,1,1,1,1,1,1,1,0,1,0,0,1,0,1,1,1,0]) 5 (near_Minus.c4p a0 o12 v20 v21 v22 v23 v24 y14 y16 y30 y32 y34) (near_Minus.c4x o) (near_Minus.c4n o) (near_Minus.c4q a0 o12 v20 v21 v22 v23 v24 y14 y16 y30 y32 y34 o):=by
  unfold near_Minus.c4; exact
   Owp.bif (fun e36 =>
   Owp.some (triple_way (near_Minus.cok k) hmix [tT,tT,tT,tT,tT,tT,tT,tT,tT,tT] [] [(0,0),(1,1),(2,2),(3,3),(4,4)] (via (finP (aI (aI (aI (aI (aI (aI (aI trivial e36) e36) e36) e36) e36) e36) e36) .normal [(0,0),(1,1),(2,2),(3,3),(4,4)] (near_Minus.c4q a0 o12 v20 v21 v22 v23 v24 y14 y16 y30 y32 y34 true)) (by kernel_rfl)))) (fun e36 =>
   Owp.bif (fun e37 =>
   Owp.some (triple_way (near_Minus.cok k) hmix [fF,fF,fF,fF,fF,tT,tT,fF,tT,fF] [] [(0,0),(1,1),(2,2),(3,3),(4,4)] (via (finP (aI (aI (aI (aI (aI (aI (aI (aI (aI trivial e36) e36) e36) e36) e36) e37) e37) (aI e36 e37)) e36) .normal [(0,0),(1,1),(2,2),(3,3),(4,4)] (near_Minus.c4q a0 o12 v20 v21 v22 v23 v24 y14 y16 y30 y32 y34 (ige y34 (0:Int)))) (by kernel_rfl)))) (fun e37 =>
   Owp.some (triple_way (near_Minus.cok k) hmix [fF,fF,fF,fF,fF,fF,fF,fF,fF,fF] [] [(0,0),(1,1),(2,2),(3,3),(4,4)] (via (finP (aI (aI (aI (aI (aI (aI (aI (aI (aI trivial e36) e36) e36) e36) e36) e37) e37) (aI e36 e37)) e36) .normal [(0,0),(1,1),(2,2),(3,3),(4,4)] (near_Minus.c4q a0 o12 v20 v21 v22 v23 v24 y14 y16 y30 y32 y34 false)) (by kernel_rfl)))))
noncomputable def near_Minus.c5p (a0 o12:(List V22)) (o38:Bool) (v20 v21 v22 v23:Int) (v24:(List V22)) (y14 y16:Int) (y30 y32:V22) (y34:Int):SL:=⟨[(0,(.val T24 a0)),(8,(.val .own (0:Nat))),(11,(.val T2 y14)),(12,(.val T2 y16)),(13,(.val .ptr ⟨1,0,(0:Int),0,0⟩)),(14,(.val .own (2:Nat))),(15,(.val T2 v20)),(16,(.val T2 v21)),(17,(.val .ptr ⟨3,0,(0:Int),0,0⟩)),(18,(.val .ptr ⟨4,0,(0:Int),0,0⟩)),(19,(.val T2 y34)),(20,(.val T4 o38))],[(0,.row T22 o12 23),(1,.cells T22 (v22,v23,())),(2,.row T22 (v24 ++ [(v22,v23,())]) 23),(3,.cells T22 y30),(4,.cells T22 y32)]⟩
noncomputable def near_Minus.c5q (a0 o12:(List V22)) (o38:Bool) (v20 v21 v22 v23:Int) (v24:(List V22)) (y14 y16:Int) (y30 y32:V22) (o:Bool):SL:=(fun v=>⟨[(0,(.val T24 a0)),(8,(.val .own (0:Nat))),(11,(.val T2 y14)),(12,(.val T2 y16)),(13,(.val .ptr ⟨1,0,(0:Int),0,0⟩)),(14,(.val .own (2:Nat))),(15,(.val T2 v20)),(16,(.val T2 v21)),(17,(.val .ptr ⟨3,0,(0:Int),0,0⟩)),(18,(.val .ptr ⟨4,0,(0:Int),0,0⟩)),(20,(.val T4 o38)),(21,(.val T4 v))],[(0,.row T22 o12 23),(1,.cells T22 (v22,v23,())),(2,.row T22 (v24 ++ [(v22,v23,())]) 23),(3,.cells T22 y30),(4,.cells T22 y32)]⟩) o
noncomputable def near_Minus.c5x (o:Bool):Ex:=(fun _=>.normal) o
noncomputable def near_Minus.c5n (o:Bool):Nat:=(fun _=>5) o
theorem near_Minus.c5_ok (k:Nat) (a0 o12:(List V22)) (o38:Bool) (v20 v21 v22 v23:Int) (v24:(List V22)) (y14 y16:Int) (y30 y32:V22) (y34:Int):Owp (near_Minus.c5 k a0 o12 v20 v21 y34) fun o=>Triple PR (near_Minus.cx k) (sub near_Minus.code [1,1,1,1,1,1,1,1,0,1,0,0,1,0,1,1,1,1,0]) 5 (near_Minus.c5p a0 o12 o38 v20 v21 v22 v23 v24 y14 y16 y30 y32 y34) (near_Minus.c5x o) (near_Minus.c5n o) (near_Minus.c5q a0 o12 o38 v20 v21 v22 v23 v24 y14 y16 y30 y32 o):=by
  unfold near_Minus.c5; exact
   Owp.bif (fun e40 =>
   Owp.some (triple_way (near_Minus.cok k) hmix [tT,tT,tT,tT,tT,tT,tT,tT,tT,tT] [] [(0,0),(1,1),(2,2),(3,3),(4,4)] (via (finP (aI (aI (aI (aI (aI (aI (aI trivial e40) e40) e40) e40) e40) e40) e40) .normal [(0,0),(1,1),(2,2),(3,3),(4,4)] (near_Minus.c5q a0 o12 o38 v20 v21 v22 v23 v24 y14 y16 y30 y32 true)) (by kernel_rfl)))) (fun e40 =>
   Owp.bif (fun e41 =>
   Owp.some (triple_way (near_Minus.cok k) hmix [fF,fF,fF,fF,fF,tT,tT,fF,tT,fF] [] [(0,0),(1,1),(2,2),(3,3),(4,4)] (via (finP (aI (aI (aI (aI (aI (aI (aI (aI (aI trivial e40) e40) e40) e40) e40) e41) e41) (aI e40 e41)) e40) .normal [(0,0),(1,1),(2,2),(3,3),(4,4)] (near_Minus.c5q a0 o12 o38 v20 v21 v22 v23 v24 y14 y16 y30 y32 (ile y34 (0:Int)))) (by kernel_rfl)))) (fun e41 =>
   Owp.some (triple_way (near_Minus.cok k) hmix [fF,fF,fF,fF,fF,fF,fF,fF,fF,fF] [] [(0,0),(1,1),(2,2),(3,3),(4,4)] (via (finP (aI (aI (aI (aI (aI (aI (aI (aI (aI trivial e40) e40) e40) e40) e40) e41) e41) (aI e40 e41)) e40) .normal [(0,0),(1,1),(2,2),(3,3),(4,4)] (near_Minus.c5q a0 o12 o38 v20 v21 v22 v23 v24 y14 y16 y30 y32 false)) (by kernel_rfl)))))
noncomputable def near_Minus.c6p (a0 o12:(List V22)) (o38 o42:Bool) (v20 v21 v22 v23:Int) (v24:(List V22)) (y14 y16:Int) (y30 y32:V22):SL:=⟨[(0,(.val T24 a0)),(8,(.val .own (0:Nat))),(11,(.val T2 y14)),(12,(.val T2 y16)),(13,(.val .ptr ⟨1,0,(0:Int),0,0⟩)),(14,(.val .own (2:Nat))),(15,(.val T2 v20)),(16,(.val T2 v21)),(17,(.val .ptr ⟨3,0,(0:Int),0,0⟩)),(18,(.val .ptr ⟨4,0,(0:Int),0,0⟩)),(21,(.val T4 o42)),(129,(.val T4 o38))],[(0,.row T22 o12 23),(1,.cells T22 (v22,v23,())),(2,.row T22 (v24 ++ [(v22,v23,())]) 23),(3,.cells T22 y30),(4,.cells T22 y32)]⟩
noncomputable def near_Minus.c6q (a0 o12:(List V22)) (o42:Bool) (v21 v22 v23:Int) (v24:(List V22)) (y14 y16:Int) (y32:V22) (o:(Int × (Int × Int))):SL:=(fun v=>⟨[(0,(.val T24 a0)),(8,(.val .own (0:Nat))),(11,(.val T2 y14)),(12,(.val T2 y16)),(13,(.val .ptr ⟨1,0,(0:Int),0,0⟩)),(14,(.val .own (2:Nat))),(15,(.val T2 v.1)),(16,(.val T2 v21)),(18,(.val .ptr ⟨3,0,(0:Int),0,0⟩)),(21,(.val T4 o42))],[(0,.row T22 o12 23),(1,.cells T22 (v.2.1,v.2.2,())),(2,.row T22 (v24 ++ [(v22,v23,())]) 23),(3,.cells T22 y32)]⟩) o
noncomputable def near_Minus.c6x (o:(Int × (Int × Int))):Ex:=(fun _=>.normal) o
noncomputable def near_Minus.c6n (o:(Int × (Int × Int))):Nat:=(fun _=>4) o
theorem near_Minus.c6_ok (k:Nat) (a0 o12:(List V22)) (o38 o42:Bool) (v20 v21 v22 v23:Int) (v24:(List V22)) (y14 y16:Int) (y30 y32:V22):Owp (near_Minus.c6 k o38 v20 v22 v23 y30) fun o=>Triple PR (near_Minus.cx k) (sub near_Minus.code [1,1,1,1,1,1,1,1,0,1,0,0,1,0,1,1,1,1,1,0,1]) 5 (near_Minus.c6p a0 o12 o38 o42 v20 v21 v22 v23 v24 y14 y16 y30 y32) (near_Minus.c6x o) (near_Minus.c6n o) (near_Minus.c6q a0 o12 o42 v21 v22 v23 v24 y14 y16 y32 o):=by
  unfold near_Minus.c6; exact
   Owp.bif (fun e44 =>
   Owp.some (triple_way (near_Minus.cok k) hmix [tT] [] [(0,0),(1,1),(2,2),(3,4)] (via (finP (aI trivial e44) .normal [(0,0),(1,1),(2,2),(3,4)] (near_Minus.c6q a0 o12 o42 v21 v22 v23 v24 y14 y16 y32 ((iadd .i64 v20 (1:Int)),(iadd .i64 v22 y30.1),(iadd .i64 v23 y30.2.1)))) (by kernel_rfl)))) (fun e44 =>
   Owp.some (triple_way (near_Minus.cok k) hmix [fF] [] [(0,0),(1,1),(2,2),(3,4)] (via (finP (aI trivial e44) .normal [(0,0),(1,1),(2,2),(3,4)] (near_Minus.c6q a0 o12 o42 v21 v22 v23 v24 y14 y16 y32 (v20,v22,v23))) (by kernel_rfl))))
noncomputable def near_Minus.c2p (a0 o12:(List V22)) (y14 y16 v20 v21 v22 v23:Int) (v24:(List V22)):SL:=⟨[(0,(.val T24 a0)),(8,(.val .own (0:Nat))),(11,(.val T2 y14)),(12,(.val T2 y16)),(13,(.val .ptr ⟨1,0,(0:Int),0,0⟩)),(14,(.val .own (2:Nat))),(15,(.val T2 v20)),(16,(.val T2 v21))],[(0,.row T22 o12 23),(1,.cells T22 (v22,v23,())),(2,.row T22 v24 23)]⟩
noncomputable def near_Minus.c2q (o:(List V22)):SL:=(fun v=>⟨[(14,(.val .own (0:Nat)))],[(0,.row T22 v 23)]⟩) o
noncomputable def near_Minus.c2x (o:(List V22)):Ex:=(fun _=>(.exit 2)) o
noncomputable def near_Minus.c2n (o:(List V22)):Nat:=(fun _=>1) o
theorem near_Minus.c2_ok (k:Nat) (a0 o12:(List V22)) (y14 y16:Int):∀ (n:Nat) (v20 v21 v22 v23:Int) (v24:(List V22)),Owp (near_Minus.c2 k a0 o12 y14 y16 n v20 v21 v22 v23 v24) fun o=>LTriple PR (near_Minus.cx k) (sub near_Minus.code [1,1,1,1,1,1,1,1,0,1,0,0]) 3 (near_Minus.c2p a0 o12 y14 y16 v20 v21 v22 v23 v24) (near_Minus.c2x o) (near_Minus.c2n o) (near_Minus.c2q o)
  | 0,_,_,_,_,_=>fun _ h=>nomatch h
  | n+1,v20,v21,v22,v23,v24=>Owp.of (near_Minus.c2.eq_2 ..) (
   Owp.bnd fun o26 e27 =>
   Owp.bif (fun e28 =>
   Owp.req fun h29 =>
   Owp.bnd fun y30 e31 =>
   Owp.bnd fun y32 e33 =>
   Owp.bnd fun y34 e35 =>
   Owp.bnd fun o38 e39 =>
   Owp.bnd fun o42 e43 =>
   Owp.bnd fun o45 e46 =>
   Owp.bif (fun e47 =>
   fun y hy=>loop_back (near_Minus.cok k) hmix 3 (near_Minus.c2p a0 o12 y14 y16 o45.1 (iadd .i64 v21 (1:Int)) (iadd .i64 o45.2.1 y32.1) (iadd .i64 o45.2.2 y32.2.1) (v24 ++ [(v22,v23,())])) [.cutR 17 ⟨[],[(0,0),(1,1),(2,2)],(near_Minus.c3p a0 o12 v20 v21 v22 v23 v24 y14 y16),3,.normal,(near_Minus.c3q a0 o12 v20 v21 v22 v23 v24 y14 y16 o26),3⟩,tT,tT,rS T22 y30,rS T22 y32,rS T2 y34,.cutR 21 ⟨[],[(0,0),(1,1),(2,6),(3,16),(4,17)],(near_Minus.c4p a0 o12 v20 v21 v22 v23 v24 y14 y16 y30 y32 y34),5,.normal,(near_Minus.c4q a0 o12 v20 v21 v22 v23 v24 y14 y16 y30 y32 y34 o38),5⟩,.cutR 22 ⟨[],[(0,0),(1,1),(2,2),(3,3),(4,4)],(near_Minus.c5p a0 o12 o38 v20 v21 v22 v23 v24 y14 y16 y30 y32 y34),5,.normal,(near_Minus.c5q a0 o12 o38 v20 v21 v22 v23 v24 y14 y16 y30 y32 o42),5⟩,.cut ⟨[],[(0,0),(1,1),(2,2),(3,3),(4,4)],(near_Minus.c6p a0 o12 o38 o42 v20 v21 v22 v23 v24 y14 y16 y30 y32),5,.normal,(near_Minus.c6q a0 o12 o42 v21 v22 v23 v24 y14 y16 y32 o45),4⟩,tT] [] [(0,0),(1,1),(2,2)] (via (cutP trivial [(0,0),(1,1),(2,2)] (near_Minus.c3p a0 o12 v20 v21 v22 v23 v24 y14 y16) (((near_Minus.c3_ok k a0 o12 v20 v21 v22 v23 v24 y14 y16).ap e27)) (cutP (aI (aI (aI (aI (aI trivial e28) h29) e31) e33) e35) [(0,0),(1,1),(2,6),(3,16),(4,17)] (near_Minus.c4p a0 o12 v20 v21 v22 v23 v24 y14 y16 y30 y32 y34) (((near_Minus.c4_ok k a0 o12 v20 v21 v22 v23 v24 y14 y16 y30 y32 y34).ap e39)) (cutP trivial [(0,0),(1,1),(2,2),(3,3),(4,4)] (near_Minus.c5p a0 o12 o38 v20 v21 v22 v23 v24 y14 y16 y30 y32 y34) (((near_Minus.c5_ok k a0 o12 o38 v20 v21 v22 v23 v24 y14 y16 y30 y32 y34).ap e43)) (cutP trivial [(0,0),(1,1),(2,2),(3,3),(4,4)] (near_Minus.c6p a0 o12 o38 o42 v20 v21 v22 v23 v24 y14 y16 y30 y32) (((near_Minus.c6_ok k a0 o12 o38 o42 v20 v21 v22 v23 v24 y14 y16 y30 y32).ap e46)) (finP (aI trivial e47) .normal [(0,0),(1,1),(2,2)] (near_Minus.c2p a0 o12 y14 y16 o45.1 (iadd .i64 v21 (1:Int)) (iadd .i64 o45.2.1 y32.1) (iadd .i64 o45.2.2 y32.2.1) (v24 ++ [(v22,v23,())]))))))) (by kernel_rfl)) ((near_Minus.c2_ok k a0 o12 y14 y16 n o45.1 (iadd .i64 v21 (1:Int)) (iadd .i64 o45.2.1 y32.1) (iadd .i64 o45.2.2 y32.2.1) (v24 ++ [(v22,v23,())])).ap hy)) (fun e47 =>
   fun y hy=>loop_back (near_Minus.cok k) hmix 3 (near_Minus.c2p a0 o12 y14 y16 o45.1 v21 o45.2.1 o45.2.2 (v24 ++ [(v22,v23,())])) [.cutR 17 ⟨[],[(0,0),(1,1),(2,2)],(near_Minus.c3p a0 o12 v20 v21 v22 v23 v24 y14 y16),3,.normal,(near_Minus.c3q a0 o12 v20 v21 v22 v23 v24 y14 y16 o26),3⟩,tT,tT,rS T22 y30,rS T22 y32,rS T2 y34,.cutR 21 ⟨[],[(0,0),(1,1),(2,6),(3,16),(4,17)],(near_Minus.c4p a0 o12 v20 v21 v22 v23 v24 y14 y16 y30 y32 y34),5,.normal,(near_Minus.c4q a0 o12 v20 v21 v22 v23 v24 y14 y16 y30 y32 y34 o38),5⟩,.cutR 22 ⟨[],[(0,0),(1,1),(2,2),(3,3),(4,4)],(near_Minus.c5p a0 o12 o38 v20 v21 v22 v23 v24 y14 y16 y30 y32 y34),5,.normal,(near_Minus.c5q a0 o12 o38 v20 v21 v22 v23 v24 y14 y16 y30 y32 o42),5⟩,.cut ⟨[],[(0,0),(1,1),(2,2),(3,3),(4,4)],(near_Minus.c6p a0 o12 o38 o42 v20 v21 v22 v23 v24 y14 y16 y30 y32),5,.normal,(near_Minus.c6q a0 o12 o42 v21 v22 v23 v24 y14 y16 y32 o45),4⟩,fF] [] [(0,0),(1,1),(2,2)] (via (cutP trivial [(0,0),(1,1),(2,2)] (near_Minus.c3p a0 o12 v20 v21 v22 v23 v24 y14 y16) (((near_Minus.c3_ok k a0 o12 v20 v21 v22 v23 v24 y14 y16).ap e27)) (cutP (aI (aI (aI (aI (aI trivial e28) h29) e31) e33) e35) [(0,0),(1,1),(2,6),(3,16),(4,17)] (near_Minus.c4p a0 o12 v20 v21 v22 v23 v24 y14 y16 y30 y32 y34) (((near_Minus.c4_ok k a0 o12 v20 v21 v22 v23 v24 y14 y16 y30 y32 y34).ap e39)) (cutP trivial [(0,0),(1,1),(2,2),(3,3),(4,4)] (near_Minus.c5p a0 o12 o38 v20 v21 v22 v23 v24 y14 y16 y30 y32 y34) (((near_Minus.c5_ok k a0 o12 o38 v20 v21 v22 v23 v24 y14 y16 y30 y32 y34).ap e43)) (cutP trivial [(0,0),(1,1),(2,2),(3,3),(4,4)] (near_Minus.c6p a0 o12 o38 o42 v20 v21 v22 v23 v24 y14 y16 y30 y32) (((near_Minus.c6_ok k a0 o12 o38 o42 v20 v21 v22 v23 v24 y14 y16 y30 y32).ap e46)) (finP (aI trivial e47) .normal [(0,0),(1,1),(2,2)] (near_Minus.c2p a0 o12 y14 y16 o45.1 v21 o45.2.1 o45.2.2 (v24 ++ [(v22,v23,())]))))))) (by kernel_rfl)) ((near_Minus.c2_ok k a0 o12 y14 y16 n o45.1 v21 o45.2.1 o45.2.2 (v24 ++ [(v22,v23,())])).ap hy))) (fun e28 =>
   Owp.some (loop_exit (near_Minus.cok k) hmix [.cutR 17 ⟨[],[(0,0),(1,1),(2,2)],(near_Minus.c3p a0 o12 v20 v21 v22 v23 v24 y14 y16),3,.normal,(near_Minus.c3q a0 o12 v20 v21 v22 v23 v24 y14 y16 o26),3⟩,fF] [] [(0,2)] (exne 2) (via (cutP trivial [(0,0),(1,1),(2,2)] (near_Minus.c3p a0 o12 v20 v21 v22 v23 v24 y14 y16) (((near_Minus.c3_ok k a0 o12 v20 v21 v22 v23 v24 y14 y16).ap e27)) (finP (aI trivial e28) (.exit 2) [(0,2)] (near_Minus.c2q v24))) (by kernel_rfl)))))
theorem near_Minus.way (k:Nat) (a0 a1:(List V22)):Owp (near_Minus k a0 a1) fun y=>∃ w c0,exec PR (near_Minus.cx k) near_Minus.code 0 (entry (.pair T24 (.pair T24 .unit)) (a0,a1,())).st w (Ret (near_Minus.cx k) Tryz.f45 c0 (.more (.ow T22 23) (.one (.dp T2))) y):=by
  unfold near_Minus; exact
   Owp.bnd fun y1 e2 =>
   Owp.bif (fun e3 =>
   Owp.some (⟨[rS T2 y1,tT],[.own 4 T22 23],via (retP (aI (aI trivial e2) e3) (.more (.ow T22 23) (.one (.dp T2))) (([],y1):((List V22) × Int))) (by kernel_rfl)⟩)) (fun e3 =>
   Owp.bnd fun y4 e5 =>
   Owp.bif (fun e6 =>
   Owp.some (⟨[rS T2 y1,fF,rS T2 y4,tT],[.own 4 T22 23],via (retP (aI (aI (aI (aI trivial e2) e3) e5) e6) (.more (.ow T22 23) (.one (.dp T2))) (([],y4):((List V22) × Int))) (by kernel_rfl)⟩)) (fun e6 =>
   Owp.bnd fun o12 e13 =>
   Owp.bnd fun y14 e15 =>
   Owp.bnd fun y16 e17 =>
   Owp.req fun h18 =>
   Owp.req fun h19 =>
   Owp.bnd fun o48 e49 =>
   Owp.some (⟨[rS T2 y1,fF,rS T2 y4,fF,.cut ⟨[.own 8 T22 23],[(0,16)],(near_Minus.c1p a0 a1 (0:Int) []),1,(.exit 0),(near_Minus.c1q a0 o12),1⟩,rS T2 y14,rS T2 y16,.cut ⟨[.own 14 T22 23],[(0,0),(1,30),(2,35)],(near_Minus.c2p a0 o12 y14 y16 (0:Int) (0:Int) (iadd .i64 (el Z22 a0 y14).1 (el Z22 o12 y16).1) (iadd .i64 (el Z22 a0 y14).2.1 (el Z22 o12 y16).2.1) []),3,(.exit 2),(near_Minus.c2q o48),1⟩],[],via (cutP (aI (aI (aI (aI trivial e2) e3) e5) e6) [(0,16)] (near_Minus.c1p a0 a1 (0:Int) []) (((near_Minus.c1_ok k a0 a1 k (0:Int) []).ap e13).triple) (cutP (aI (aI (aI (aI (aI (aI (aI (aI trivial e15) e17) h18) h19) h19) h18) h19) h19) [(0,0),(1,30),(2,35)] (near_Minus.c2p a0 o12 y14 y16 (0:Int) (0:Int) (iadd .i64 (el Z22 a0 y14).1 (el Z22 o12 y16).1) (iadd .i64 (el Z22 a0 y14).2.1 (el Z22 o12 y16).2.1) []) (((near_Minus.c2_ok k a0 o12 y14 y16 k (0:Int) (0:Int) (iadd .i64 (el Z22 a0 y14).1 (el Z22 o12 y16).1) (iadd .i64 (el Z22 a0 y14).2.1 (el Z22 o12 y16).2.1) []).ap e49).triple) (retP trivial (.more (.ow T22 23) (.one (.dp T2))) ((o48,(0:Int)):((List V22) × Int))))) (by kernel_rfl)⟩)))
theorem near_Minus.ok (k:Nat):FnOk PR 45 (near_Minus.sp k) :=
  fn_ok (near_Minus.cok k) hmix Tryz.func45 (code:=near_Minus.code) (by kernel_rfl) (by kernel_rfl) (by kernel_rfl) rfl (by kernel_rfl) (by kernel_rfl) (by kernel_rfl) (fun x=>Nat.le_of_ble_eq_true (by kernel_rfl)) fun x y hy=>(near_Minus.way k x.1 x.2.1).ap hy
noncomputable def near_inside.code:Code:=Func.cd Tryz.f46
def near_inside.c1 (k:Nat) (a0:(List V22)):Nat → Int → Option (Unit ⊕ Unit)
  | 0,_=>none
  | n+1,v1 =>
   bif' (ilt v1 (len a0))
   (req (inL v1 a0) <|
   req (nz (len a0)) <|
   req (inL (irem (iadd .i64 v1 1) (len a0)) a0) <|
   bnd (near_cross k (el Z22 a0 v1) (el Z22 a0 (irem (iadd .i64 v1 1) (len a0)))) fun y6 =>
   bif' (ilt y6 0)
   (some (.inl ()))
   (near_inside.c1 k a0 n (iadd .i64 v1 1)))
   (some (.inr ()))
def near_inside (k:Nat) (a0:(List V22)):Option Bool :=
  bnd (near_inside.c1 k a0 k 0) fun o9 =>
  two o9 (fun y11 =>
  some false) (fun y13 =>
  some true)
noncomputable def near_inside.sp (k:Nat):Go.Sx.Spec:=⟨(.pair T24 .unit),(.one (.dp T4)),fun x=>near_inside k x.1,false⟩
noncomputable def near_inside.cx (k:Nat):Go.Sx.Ctx:=⟨tys,[(79,near_cross.sp k)],eqs,24,false⟩
theorem near_inside.cok (k:Nat):CtxOk PR (near_inside.cx k):=ctx_ok tysOk eqsOk (FnsOk.cons (near_cross.ok k) FnsOk.nil)
noncomputable def near_inside.c1p (a0:(List V22)) (v1:Int):SL:=⟨[(0,(.val T24 a0)),(5,(.val T24 a0)),(6,(.val T2 (len a0))),(7,(.val T2 v1))],[]⟩
noncomputable def near_inside.c1q (o:Unit ⊕ Unit):SL:=(fun o=>two o (fun v=>⟨[(2,(.val T4 false))],[]⟩) (fun v=>⟨[],[]⟩)) o
noncomputable def near_inside.c1x (o:Unit ⊕ Unit):Ex:=(fun o=>two o (fun _=>.ret) (fun _=>(.exit 0))) o
noncomputable def near_inside.c1n (o:Unit ⊕ Unit):Nat:=(fun o=>two o (fun _=>0) (fun _=>0)) o
theorem near_inside.c1_ok (k:Nat) (a0:(List V22)):∀ (n:Nat) (v1:Int),Owp (near_inside.c1 k a0 n v1) fun o=>LTriple PR (near_inside.cx k) (sub near_inside.code [1,0,1,0,0]) 0 (near_inside.c1p a0 v1) (near_inside.c1x o) (near_inside.c1n o) (near_inside.c1q o)
  | 0,_=>fun _ h=>nomatch h
  | n+1,v1=>Owp.of (near_inside.c1.eq_2 ..) (
   Owp.bif (fun e2 =>
   Owp.req fun h3 =>
   Owp.req fun h4 =>
   Owp.req fun h5 =>
   Owp.bnd fun y6 e7 =>
   Owp.bif (fun e8 =>
   Owp.some (loop_exit (near_inside.cok k) hmix [tT,rS T2 y6,tT] [] [] exne_ret (via (finP (aI (aI (aI (aI (aI (aI trivial e2) h3) h4) h5) e7) e8) .ret [] (near_inside.c1q (.inl ()))) (by kernel_rfl)))) (fun e8 =>
   fun y hy=>loop_back (near_inside.cok k) hmix 0 (near_inside.c1p a0 (iadd .i64 v1 (1:Int))) [tT,rS T2 y6,fF] [] [] (via (finP (aI (aI (aI (aI (aI (aI trivial e2) h3) h4) h5) e7) e8) .normal [] (near_inside.c1p a0 (iadd .i64 v1 (1:Int)))) (by kernel_rfl)) ((near_inside.c1_ok k a0 n (iadd .i64 v1 (1:Int))).ap hy))) (fun e2 =>
   Owp.some (loop_exit (near_inside.cok k) hmix [fF] [] [] (exne 0) (via (finP (aI trivial e2) (.exit 0) [] (near_inside.c1q (.inr ()))) (by kernel_rfl)))))
theorem near_inside.way (k:Nat) (a0:(List V22)):Owp (near_inside k a0) fun y=>∃ w c0,exec PR (near_inside.cx k) near_inside.code 0 (entry (.pair T24 .unit) (a0,())).st w (Ret (near_inside.cx k) Tryz.f46 c0 (.one (.dp T4)) y):=by
  unfold near_inside; exact
   Owp.bnd fun o9 e10 =>
   Owp.two (fun y11 e12 =>
   Owp.some (⟨[.cut ⟨[],[],(near_inside.c1p a0 (0:Int)),0,.ret,(near_inside.c1q (.inl ())),0⟩],[],via (cutP trivial [] (near_inside.c1p a0 (0:Int)) (((near_inside.c1_ok k a0 k (0:Int)).ap (e10.trans (congrArg some e12))).triple) (retP trivial (.one (.dp T4)) (false:Bool))) (by kernel_rfl)⟩)) (fun y13 e14 =>
   Owp.some (⟨[.cut ⟨[],[],(near_inside.c1p a0 (0:Int)),0,(.exit 0),(near_inside.c1q (.inr ())),0⟩],[],via (cutP trivial [] (near_inside.c1p a0 (0:Int)) (((near_inside.c1_ok k a0 k (0:Int)).ap (e10.trans (congrArg some e14))).triple) (retP trivial (.one (.dp T4)) (true:Bool))) (by kernel_rfl)⟩))
theorem near_inside.ok (k:Nat):FnOk PR 46 (near_inside.sp k) :=
  fn_ok (near_inside.cok k) hmix Tryz.func46 (code:=near_inside.code) (by kernel_rfl) (by kernel_rfl) (by kernel_rfl) rfl (by kernel_rfl) (by kernel_rfl) (by kernel_rfl) (fun x=>Nat.le_of_ble_eq_true (by kernel_rfl)) fun x y hy=>(near_inside.way k x.1).ap hy
noncomputable def near_Meet.code:Code:=Func.cd Tryz.f20
def near_Meet (k:Nat) (a0 a1:(List V22)):Option (Bool × Int) :=
  bnd (near_Minus k a0 a1) fun y1 =>
  bif' (ine y1.2 0)
  (some (false,y1.2))
  (bnd (near_inside k y1.1) fun y4 =>
   some (y4,0))
noncomputable def near_Meet.sp (k:Nat):Go.Sx.Spec:=⟨(.pair T24 (.pair T24 .unit)),(.more (.dp T4) (.one (.dp T2))),fun x=>near_Meet k x.1 x.2.1,false⟩
noncomputable def near_Meet.cx (k:Nat):Go.Sx.Ctx:=⟨tys,[(45,near_Minus.sp k),(46,near_inside.sp k)],eqs,19,false⟩
theorem near_Meet.cok (k:Nat):CtxOk PR (near_Meet.cx k):=ctx_ok tysOk eqsOk (FnsOk.cons (near_Minus.ok k) (FnsOk.cons (near_inside.ok k) FnsOk.nil))
theorem near_Meet.way (k:Nat) (a0 a1:(List V22)):Owp (near_Meet k a0 a1) fun y=>∃ w c0,exec PR (near_Meet.cx k) near_Meet.code 0 (entry (.pair T24 (.pair T24 .unit)) (a0,a1,())).st w (Ret (near_Meet.cx k) Tryz.f20 c0 (.more (.dp T4) (.one (.dp T2))) y):=by
  unfold near_Meet; exact
   Owp.bnd fun y1 e2 =>
   Owp.bif (fun e3 =>
   Owp.some (⟨[.res (.more (.ow T22 23) (.one (.dp T2))) y1,tT],[],via (retP (aI (aI trivial e2) e3) (.more (.dp T4) (.one (.dp T2))) ((false,y1.2):(Bool × Int))) (by kernel_rfl)⟩)) (fun e3 =>
   Owp.bnd fun y4 e5 =>
   Owp.some (⟨[.res (.more (.ow T22 23) (.one (.dp T2))) y1,fF,rS T4 y4],[],via (retP (aI (aI (aI trivial e2) e3) e5) (.more (.dp T4) (.one (.dp T2))) ((y4,(0:Int)):(Bool × Int))) (by kernel_rfl)⟩))
theorem near_Meet.ok (k:Nat):FnOk PR 20 (near_Meet.sp k) :=
  fn_ok (near_Meet.cok k) hmix Tryz.func20 (code:=near_Meet.code) (by kernel_rfl) (by kernel_rfl) (by kernel_rfl) rfl (by kernel_rfl) (by kernel_rfl) (by kernel_rfl) (fun x=>Nat.le_of_ble_eq_true (by kernel_rfl)) fun x y hy=>(near_Meet.way k x.1 x.2.1).ap hy
noncomputable def near_greatest.code:Code:=Func.cd Tryz.f80
def near_greatest.c1 (k:Nat) (a0:((Int × Unit) → Option Bool)):Nat → Int → Int → Option (Int)
  | 0,_,_=>none
  | n+1,v1,v2 =>
   bif' (igt (isub .i64 v2 v1) 1)
   (bnd (a0 ((iquo .i64 (iadd .i64 v1 v2) 2),())) fun y4 =>
   bif' y4
   (near_greatest.c1 k a0 n (iquo .i64 (iadd .i64 v1 v2) 2) v2)
   (near_greatest.c1 k a0 n v1 (iquo .i64 (iadd .i64 v1 v2) 2)))
   (some v1)
def near_greatest (k:Nat) (a0:((Int × Unit) → Option Bool)):Option Int :=
  bnd (near_greatest.c1 k a0 k 0 536870912) fun o7 =>
  some o7
noncomputable def near_greatest.sp (k:Nat):Go.Sx.Spec:=⟨(.pair (.fn (.pair T2 .unit) T4) .unit),(.one (.dp T2)),fun x=>near_greatest k x.1,false⟩
noncomputable def near_greatest.cx (k:Nat):Go.Sx.Ctx:=⟨tys,[],eqs,20,false⟩
theorem near_greatest.cok (k:Nat):CtxOk PR (near_greatest.cx k):=ctx_ok tysOk eqsOk FnsOk.nil
noncomputable def near_greatest.c1p (a0:((Int × Unit) → Option Bool)) (v1 v2:Int):SL:=⟨[(0,(.val (.fn (.pair T2 .unit) T4) a0)),(3,(.val T2 v1)),(4,(.val T2 v2))],[]⟩
noncomputable def near_greatest.c1q (o:Int):SL:=(fun v=>⟨[(3,(.val T2 v))],[]⟩) o
noncomputable def near_greatest.c1x (o:Int):Ex:=(fun _=>(.exit 0)) o
noncomputable def near_greatest.c1n (o:Int):Nat:=(fun _=>0) o
theorem near_greatest.c1_ok (k:Nat) (a0:((Int × Unit) → Option Bool)):∀ (n:Nat) (v1 v2:Int),Owp (near_greatest.c1 k a0 n v1 v2) fun o=>LTriple PR (near_greatest.cx k) (sub near_greatest.code [1,1,0,0,0]) 0 (near_greatest.c1p a0 v1 v2) (near_greatest.c1x o) (near_greatest.c1n o) (near_greatest.c1q o)
  | 0,_,_=>fun _ h=>nomatch h
  | n+1,v1,v2=>Owp.of (near_greatest.c1.eq_2 ..) (
   Owp.bif (fun e3 =>
   Owp.bnd fun y4 e5 =>
   Owp.bif (fun e6 =>
   fun y hy=>loop_back (near_greatest.cok k) hmix 0 (near_greatest.c1p a0 (iquo .i64 (iadd .i64 v1 v2) (2:Int)) v2) [tT,rS T4 y4,tT] [] [] (via (finP (aI (aI (aI (aI trivial e3) (by decide:nz (2:Int))) e5) e6) .normal [] (near_greatest.c1p a0 (iquo .i64 (iadd .i64 v1 v2) (2:Int)) v2)) (by kernel_rfl)) ((near_greatest.c1_ok k a0 n (iquo .i64 (iadd .i64 v1 v2) (2:Int)) v2).ap hy)) (fun e6 =>
   fun y hy=>loop_back (near_greatest.cok k) hmix 0 (near_greatest.c1p a0 v1 (iquo .i64 (iadd .i64 v1 v2) (2:Int))) [tT,rS T4 y4,fF] [] [] (via (finP (aI (aI (aI (aI trivial e3) (by decide:nz (2:Int))) e5) e6) .normal [] (near_greatest.c1p a0 v1 (iquo .i64 (iadd .i64 v1 v2) (2:Int)))) (by kernel_rfl)) ((near_greatest.c1_ok k a0 n v1 (iquo .i64 (iadd .i64 v1 v2) (2:Int))).ap hy))) (fun e3 =>
   Owp.some (loop_exit (near_greatest.cok k) hmix [fF] [] [] (exne 0) (via (finP (aI trivial e3) (.exit 0) [] (near_greatest.c1q v1)) (by kernel_rfl)))))
theorem near_greatest.way (k:Nat) (a0:((Int × Unit) → Option Bool)):Owp (near_greatest k a0) fun y=>∃ w c0,exec PR (near_greatest.cx k) near_greatest.code 0 (entry (.pair (.fn (.pair T2 .unit) T4) .unit) (a0,())).st w (Ret (near_greatest.cx k) Tryz.f80 c0 (.one (.dp T2)) y):=by
  unfold near_greatest; exact
   Owp.bnd fun o7 e8 =>
   Owp.some (⟨[.cut ⟨[],[],(near_greatest.c1p a0 (0:Int) (536870912:Int)),0,(.exit 0),(near_greatest.c1q o7),0⟩],[],via (cutP trivial [] (near_greatest.c1p a0 (0:Int) (536870912:Int)) (((near_greatest.c1_ok k a0 k (0:Int) (536870912:Int)).ap e8).triple) (retP trivial (.one (.dp T2)) (o7:Int))) (by kernel_rfl)⟩)
theorem near_greatest.ok (k:Nat):FnOk PR 80 (near_greatest.sp k) :=
  fn_ok (near_greatest.cok k) hmix Tryz.func80 (code:=near_greatest.code) (by kernel_rfl) (by kernel_rfl) (by kernel_rfl) rfl (by kernel_rfl) (by kernel_rfl) (by kernel_rfl) (fun x=>Nat.le_of_ble_eq_true (by kernel_rfl)) fun x y hy=>(near_greatest.way k x.1).ap hy
noncomputable def near_far_1.code:Code:=Func.cd Tryz.f81
def near_far_1 (k:Nat) (a0:Int) (a1:V22):Option Bool :=
  some (ile (imul .i64 a0 a0) (iadd .i64 (imul .i64 a1.1 a1.1) (imul .i64 a1.2.1 a1.2.1)))
noncomputable def near_far_1.sp (k:Nat):Go.Sx.Spec:=⟨(.pair T2 (.pair (.ref T22) .unit)),(.one (.dp T4)),fun x=>near_far_1 k x.1 x.2.1,false⟩
noncomputable def near_far_1.cx (k:Nat):Go.Sx.Ctx:=⟨tys,[],eqs,19,false⟩
theorem near_far_1.cok (k:Nat):CtxOk PR (near_far_1.cx k):=ctx_ok tysOk eqsOk FnsOk.nil
theorem near_far_1.way (k:Nat) (a0:Int) (a1:V22):Owp (near_far_1 k a0 a1) fun y=>∃ w c0,exec PR (near_far_1.cx k) near_far_1.code 0 (entry (.pair T2 (.pair (.ref T22) .unit)) (a0,a1,())).st w (Ret (near_far_1.cx k) Tryz.f81 c0 (.one (.dp T4)) y):=by
  unfold near_far_1; exact
   Owp.some (⟨[],[],via (retP trivial (.one (.dp T4)) ((ile (imul .i64 a0 a0) (iadd .i64 (imul .i64 a1.1 a1.1) (imul .i64 a1.2.1 a1.2.1))):Bool)) (by kernel_rfl)⟩)
theorem near_far_1.ok (k:Nat):FnOk PR 81 (near_far_1.sp k) :=
  fn_ok (near_far_1.cok k) hmix Tryz.func81 (code:=near_far_1.code) (by kernel_rfl) (by kernel_rfl) (by kernel_rfl) rfl (by kernel_rfl) (by kernel_rfl) (by kernel_rfl) (fun x=>Nat.le_of_ble_eq_true (by kernel_rfl)) fun x y hy=>(near_far_1.way k x.1 x.2.1).ap hy
noncomputable def near_far_2.code:Code:=Func.cd Tryz.f82
def near_far_2 (k:Nat) (a0:Int) (a1:V22):Option Bool :=
  some (ile (imul .i64 a0 a0) (iadd .i64 (imul .i64 a1.1 a1.1) (imul .i64 a1.2.1 a1.2.1)))
noncomputable def near_far_2.sp (k:Nat):Go.Sx.Spec:=⟨(.pair T2 (.pair (.ref T22) .unit)),(.one (.dp T4)),fun x=>near_far_2 k x.1 x.2.1,false⟩
noncomputable def near_far_2.cx (k:Nat):Go.Sx.Ctx:=⟨tys,[],eqs,19,false⟩
theorem near_far_2.cok (k:Nat):CtxOk PR (near_far_2.cx k):=ctx_ok tysOk eqsOk FnsOk.nil
theorem near_far_2.way (k:Nat) (a0:Int) (a1:V22):Owp (near_far_2 k a0 a1) fun y=>∃ w c0,exec PR (near_far_2.cx k) near_far_2.code 0 (entry (.pair T2 (.pair (.ref T22) .unit)) (a0,a1,())).st w (Ret (near_far_2.cx k) Tryz.f82 c0 (.one (.dp T4)) y):=by
  unfold near_far_2; exact
   Owp.some (⟨[],[],via (retP trivial (.one (.dp T4)) ((ile (imul .i64 a0 a0) (iadd .i64 (imul .i64 a1.1 a1.1) (imul .i64 a1.2.1 a1.2.1))):Bool)) (by kernel_rfl)⟩)
theorem near_far_2.ok (k:Nat):FnOk PR 82 (near_far_2.sp k) :=
  fn_ok (near_far_2.cok k) hmix Tryz.func82 (code:=near_far_2.code) (by kernel_rfl) (by kernel_rfl) (by kernel_rfl) rfl (by kernel_rfl) (by kernel_rfl) (by kernel_rfl) (fun x=>Nat.le_of_ble_eq_true (by kernel_rfl)) fun x y hy=>(near_far_2.way k x.1 x.2.1).ap hy
noncomputable def near_far_3.code:Code:=Func.cd Tryz.f83
def near_far_3 (k:Nat) (a0 a1 a2:Int):Option Bool :=
  bnd (poly_Times k (imul .i64 a0 a0) a1) fun y1 =>
  bnd (poly_Times k a2 a2) fun y3 =>
  bnd (poly_Wide_Cmp k y1 y3) fun y5 =>
  some (ile y5 0)
noncomputable def near_far_3.sp (k:Nat):Go.Sx.Spec:=⟨(.pair T2 (.pair (.ref T2) (.pair (.ref T2) .unit))),(.one (.dp T4)),fun x=>near_far_3 k x.1 x.2.1 x.2.2.1,false⟩
noncomputable def near_far_3.cx (k:Nat):Go.Sx.Ctx:=⟨tys,[(84,poly_Times.sp k),(85,poly_Wide_Cmp.sp k)],eqs,15,false⟩
theorem near_far_3.cok (k:Nat):CtxOk PR (near_far_3.cx k):=ctx_ok tysOk eqsOk (FnsOk.cons (poly_Times.ok k) (FnsOk.cons (poly_Wide_Cmp.ok k) FnsOk.nil))
theorem near_far_3.way (k:Nat) (a0 a1 a2:Int):Owp (near_far_3 k a0 a1 a2) fun y=>∃ w c0,exec PR (near_far_3.cx k) near_far_3.code 0 (entry (.pair T2 (.pair (.ref T2) (.pair (.ref T2) .unit))) (a0,a1,a2,())).st w (Ret (near_far_3.cx k) Tryz.f83 c0 (.one (.dp T4)) y):=by
  unfold near_far_3; exact
   Owp.bnd fun y1 e2 =>
   Owp.bnd fun y3 e4 =>
   Owp.bnd fun y5 e6 =>
   Owp.some (⟨[rS T99 y1,rS T99 y3,rS T2 y5],[],via (retP (aI (aI (aI trivial e2) e4) e6) (.one (.dp T4)) ((ile y5 (0:Int)):Bool)) (by kernel_rfl)⟩)
theorem near_far_3.ok (k:Nat):FnOk PR 83 (near_far_3.sp k) :=
  fn_ok (near_far_3.cok k) hmix Tryz.func83 (code:=near_far_3.code) (by kernel_rfl) (by kernel_rfl) (by kernel_rfl) rfl (by kernel_rfl) (by kernel_rfl) (by kernel_rfl) (fun x=>Nat.le_of_ble_eq_true (by kernel_rfl)) fun x y hy=>(near_far_3.way k x.1 x.2.1 x.2.2.1).ap hy
noncomputable def near_far.code:Code:=Func.cd Tryz.f47
def near_far (k:Nat) (a0 a1:V22):Option Int :=
  bif' (ile (isub .i64 (imul .i64 (ineg .i64 a0.1) (isub .i64 a1.1 a0.1)) (imul .i64 a0.2.1 (isub .i64 a1.2.1 a0.2.1))) 0)
  (bnd (near_greatest k (fun x:(Int × Unit)=>near_far_1 k (x.1) a0)) fun y2 =>
   some y2)
  (bif' (ige (isub .i64 (imul .i64 (ineg .i64 a0.1) (isub .i64 a1.1 a0.1)) (imul .i64 a0.2.1 (isub .i64 a1.2.1 a0.2.1))) (iadd .i64 (imul .i64 (isub .i64 a1.1 a0.1) (isub .i64 a1.1 a0.1)) (imul .i64 (isub .i64 a1.2.1 a0.2.1) (isub .i64 a1.2.1 a0.2.1))))
   (bnd (near_greatest k (fun x:(Int × Unit)=>near_far_2 k (x.1) a1)) fun y5 =>
   some y5)
   (bnd (near_cross k a0 a1) fun y7 =>
   bnd (near_greatest k (fun x:(Int × Unit)=>near_far_3 k (x.1) (iadd .i64 (imul .i64 (isub .i64 a1.1 a0.1) (isub .i64 a1.1 a0.1)) (imul .i64 (isub .i64 a1.2.1 a0.2.1) (isub .i64 a1.2.1 a0.2.1))) y7)) fun y9 =>
   some y9))
noncomputable def near_far.sp (k:Nat):Go.Sx.Spec:=⟨(.pair T22 (.pair T22 .unit)),(.one (.dp T2)),fun x=>near_far k x.1 x.2.1,false⟩
noncomputable def near_far.cx (k:Nat):Go.Sx.Ctx:=⟨tys,[(80,near_greatest.sp k),(81,near_far_1.sp k),(82,near_far_2.sp k),(79,near_cross.sp k),(83,near_far_3.sp k)],eqs,59,false⟩
theorem near_far.cok (k:Nat):CtxOk PR (near_far.cx k):=ctx_ok tysOk eqsOk (FnsOk.cons (near_greatest.ok k) (FnsOk.cons (near_far_1.ok k) (FnsOk.cons (near_far_2.ok k) (FnsOk.cons (near_cross.ok k) (FnsOk.cons (near_far_3.ok k) FnsOk.nil)))))
theorem near_far.way (k:Nat) (a0 a1:V22):Owp (near_far k a0 a1) fun y=>∃ w c0,exec PR (near_far.cx k) near_far.code 0 (entry (.pair T22 (.pair T22 .unit)) (a0,a1,())).st w (Ret (near_far.cx k) Tryz.f47 c0 (.one (.dp T2)) y):=by
  unfold near_far; exact
   Owp.bif (fun e1 =>
   Owp.bnd fun y2 e3 =>
   Owp.some (⟨[tT,rS T2 y2],[],via (retP (aI (aI trivial e1) e3) (.one (.dp T2)) (y2:Int)) (by kernel_rfl)⟩)) (fun e1 =>
   Owp.bif (fun e4 =>
   Owp.bnd fun y5 e6 =>
   Owp.some (⟨[fF,tT,rS T2 y5],[],via (retP (aI (aI (aI trivial e1) e4) e6) (.one (.dp T2)) (y5:Int)) (by kernel_rfl)⟩)) (fun e4 =>
   Owp.bnd fun y7 e8 =>
   Owp.bnd fun y9 e10 =>
   Owp.some (⟨[fF,fF,rS T2 y7,rS T2 y9],[],via (retP (aI (aI (aI (aI trivial e1) e4) e8) e10) (.one (.dp T2)) (y9:Int)) (by kernel_rfl)⟩)))
theorem near_far.ok (k:Nat):FnOk PR 47 (near_far.sp k) :=
  fn_ok (near_far.cok k) hmix Tryz.func47 (code:=near_far.code) (by kernel_rfl) (by kernel_rfl) (by kernel_rfl) rfl (by kernel_rfl) (by kernel_rfl) (by kernel_rfl) (fun x=>Nat.le_of_ble_eq_true (by kernel_rfl)) fun x y hy=>(near_far.way k x.1 x.2.1).ap hy
noncomputable def near_Apart.code:Code:=Func.cd Tryz.f21
def near_Apart.c1 (k:Nat) (y1:((List V22) × Int)):Nat → Int → Int → Option (Int)
  | 0,_,_=>none
  | n+1,v7,v8 =>
   bif' (ilt v8 (len y1.1))
   (req (inL v8 y1.1) <|
   req (nz (len y1.1)) <|
   req (inL (irem (iadd .i64 v8 1) (len y1.1)) y1.1) <|
   bnd (near_far k (el Z22 y1.1 v8) (el Z22 y1.1 (irem (iadd .i64 v8 1) (len y1.1)))) fun y13 =>
   near_Apart.c1 k y1 n (imin v7 y13) (iadd .i64 v8 1))
   (some v7)
def near_Apart (k:Nat) (a0 a1:(List V22)):Option (Int × Int) :=
  bnd (near_Minus k a0 a1) fun y1 =>
  bif' (ine y1.2 0)
  (some (0,y1.2))
  (bnd (near_inside k y1.1) fun y4 =>
   bif' y4
   (some (0,0))
   (bnd (near_Apart.c1 k y1 k 1073741824 0) fun o15 =>
   some (o15,0)))
noncomputable def near_Apart.sp (k:Nat):Go.Sx.Spec:=⟨(.pair T24 (.pair T24 .unit)),(.more (.dp T2) (.one (.dp T2))),fun x=>near_Apart k x.1 x.2.1,false⟩
noncomputable def near_Apart.cx (k:Nat):Go.Sx.Ctx:=⟨tys,[(45,near_Minus.sp k),(46,near_inside.sp k),(47,near_far.sp k)],eqs,43,false⟩
theorem near_Apart.cok (k:Nat):CtxOk PR (near_Apart.cx k):=ctx_ok tysOk eqsOk (FnsOk.cons (near_Minus.ok k) (FnsOk.cons (near_inside.ok k) (FnsOk.cons (near_far.ok k) FnsOk.nil)))
noncomputable def near_Apart.c1p (y1:((List V22) × Int)) (v7 v8:Int):SL:=⟨[(6,(.val .own (0:Nat))),(8,(.val T2 v7)),(22,(.val .own (0:Nat))),(23,(.val T2 (len y1.1))),(24,(.val T2 v8))],[(0,.row T22 y1.1 23)]⟩
noncomputable def near_Apart.c1q (o:Int):SL:=(fun v=>⟨[(8,(.val T2 v))],[]⟩) o
noncomputable def near_Apart.c1x (o:Int):Ex:=(fun _=>(.exit 0)) o
noncomputable def near_Apart.c1n (o:Int):Nat:=(fun _=>0) o
theorem near_Apart.c1_ok (k:Nat) (y1:((List V22) × Int)):∀ (n:Nat) (v7 v8:Int),Owp (near_Apart.c1 k y1 n v7 v8) fun o=>LTriple PR (near_Apart.cx k) (sub near_Apart.code [1,1,1,1,1,0,1,0,0]) 1 (near_Apart.c1p y1 v7 v8) (near_Apart.c1x o) (near_Apart.c1n o) (near_Apart.c1q o)
  | 0,_,_=>fun _ h=>nomatch h
  | n+1,v7,v8=>Owp.of (near_Apart.c1.eq_2 ..) (
   Owp.bif (fun e9 =>
   Owp.req fun h10 =>
   Owp.req fun h11 =>
   Owp.req fun h12 =>
   Owp.bnd fun y13 e14 =>
   fun y hy=>loop_back (near_Apart.cok k) hmix 1 (near_Apart.c1p y1 (imin v7 y13) (iadd .i64 v8 (1:Int))) [tT,rS T2 y13] [] [(0,0)] (via (finP (aI (aI (aI (aI (aI (aI (aI trivial e9) h10) h10) h11) h12) h12) e14) .normal [(0,0)] (near_Apart.c1p y1 (imin v7 y13) (iadd .i64 v8 (1:Int)))) (by kernel_rfl)) ((near_Apart.c1_ok k y1 n (imin v7 y13) (iadd .i64 v8 (1:Int))).ap hy)) (fun e9 =>
   Owp.some (loop_exit (near_Apart.cok k) hmix [fF] [] [] (exne 0) (via (finP (aI trivial e9) (.exit 0) [] (near_Apart.c1q v7)) (by kernel_rfl)))))
theorem near_Apart.way (k:Nat) (a0 a1:(List V22)):Owp (near_Apart k a0 a1) fun y=>∃ w c0,exec PR (near_Apart.cx k) near_Apart.code 0 (entry (.pair T24 (.pair T24 .unit)) (a0,a1,())).st w (Ret (near_Apart.cx k) Tryz.f21 c0 (.more (.dp T2) (.one (.dp T2))) y):=by
  unfold near_Apart; exact
   Owp.bnd fun y1 e2 =>
   Owp.bif (fun e3 =>
   Owp.some (⟨[.res (.more (.ow T22 23) (.one (.dp T2))) y1,tT],[],via (retP (aI (aI trivial e2) e3) (.more (.dp T2) (.one (.dp T2))) (((0:Int),y1.2):(Int × Int))) (by kernel_rfl)⟩)) (fun e3 =>
   Owp.bnd fun y4 e5 =>
   Owp.bif (fun e6 =>
   Owp.some (⟨[.res (.more (.ow T22 23) (.one (.dp T2))) y1,fF,rS T4 y4,tT],[],via (retP (aI (aI (aI (aI trivial e2) e3) e5) e6) (.more (.dp T2) (.one (.dp T2))) (((0:Int),(0:Int)):(Int × Int))) (by kernel_rfl)⟩)) (fun e6 =>
   Owp.bnd fun o15 e16 =>
   Owp.some (⟨[.res (.more (.ow T22 23) (.one (.dp T2))) y1,fF,rS T4 y4,fF,.cut ⟨[],[(0,4)],(near_Apart.c1p y1 (1073741824:Int) (0:Int)),1,(.exit 0),(near_Apart.c1q o15),0⟩],[],via (cutP (aI (aI (aI (aI trivial e2) e3) e5) e6) [(0,4)] (near_Apart.c1p y1 (1073741824:Int) (0:Int)) (((near_Apart.c1_ok k y1 k (1073741824:Int) (0:Int)).ap e16).triple) (retP trivial (.more (.dp T2) (.one (.dp T2))) ((o15,(0:Int)):(Int × Int)))) (by kernel_rfl)⟩)))
theorem near_Apart.ok (k:Nat):FnOk PR 21 (near_Apart.sp k) :=
  fn_ok (near_Apart.cok k) hmix Tryz.func21 (code:=near_Apart.code) (by kernel_rfl) (by kernel_rfl) (by kernel_rfl) rfl (by kernel_rfl) (by kernel_rfl) (by kernel_rfl) (fun x=>Nat.le_of_ble_eq_true (by kernel_rfl)) fun x y hy=>(near_Apart.way k x.1 x.2.1).ap hy
noncomputable def reach_Time.code:Code:=Func.cd Tryz.f6
def reach_Time.c1 (k:Nat) (a0 a1:V25) (a2:Int) (y1 y4:(Int × Int)) (y6 y8:Int):Nat → Int → Option ((Int × Bool))
  | 0,_=>none
  | n+1,v10 =>
   bnd (fix_Mul k a2 v10) fun y11 =>
   bnd (body_Move k a0 y11) fun y13 =>
   bnd (body_Place k y13) fun y15 =>
   bnd (fix_Mul k a2 v10) fun y17 =>
   bnd (body_Move k a1 y17) fun y19 =>
   bnd (body_Place k y19) fun y21 =>
   bnd (near_Meet k y15 y21) fun y23 =>
   bif' y23.1
   (some (v10,true))
   (bif' (ieq v10 65536)
   (some (0,false))
   (bnd (near_Apart k y15 y21) fun y27 =>
   req (nz y1.1) <|
   reach_Time.c1 k a0 a1 a2 y1 y4 y6 y8 n (imin 65536 (iadd .i64 v10 (imax 256 (iquo .i64 (imul .i64 (imax 0 (isub .i64 y27.1 (iadd .i64 (iadd .i64 (iadd .i64 16 (imul .i64 2 (iquo .i64 y4.1 65536))) (iquo .i64 (imul .i64 14 y6) 65536)) (iquo .i64 (imul .i64 14 y8) 65536)))) 65536) y1.1))))))
def reach_Time (k:Nat) (a0 a1:V25) (a2:Int):Option (Int × (Bool × Int)) :=
  bnd (reach_Bound k a0 a1 a2) fun y1 =>
  bif' (ine y1.2 0)
  (some (0,false,y1.2))
  (bnd (reach_Bound k a0 a1 65536) fun y4 =>
   bnd (reach_far k a0) fun y6 =>
   bnd (reach_far k a1) fun y8 =>
   bnd (reach_Time.c1 k a0 a1 a2 y1 y4 y6 y8 k 0) fun o30 =>
   some (o30.1,o30.2,0))
noncomputable def reach_Time.sp (k:Nat):Go.Sx.Spec:=⟨(.pair T25 (.pair T25 (.pair T2 .unit))),(.more (.dp T2) (.more (.dp T4) (.one (.dp T2)))),fun x=>reach_Time k x.1 x.2.1 x.2.2.1,false⟩
noncomputable def reach_Time.cx (k:Nat):Go.Sx.Ctx:=⟨tys,[(5,reach_Bound.sp k),(17,reach_far.sp k),(14,fix_Mul.sp k),(19,body_Move.sp k),(18,body_Place.sp k),(20,near_Meet.sp k),(21,near_Apart.sp k)],eqs,90,false⟩
theorem reach_Time.cok (k:Nat):CtxOk PR (reach_Time.cx k):=ctx_ok tysOk eqsOk (FnsOk.cons (reach_Bound.ok k) (FnsOk.cons (reach_far.ok k) (FnsOk.cons (fix_Mul.ok k) (FnsOk.cons (body_Move.ok k) (FnsOk.cons (body_Place.ok k) (FnsOk.cons (near_Meet.ok k) (FnsOk.cons (near_Apart.ok k) FnsOk.nil)))))))
noncomputable def reach_Time.c1p (a0 a1:V25) (a2:Int) (y1 y4:(Int × Int)) (y6 y8 v10:Int):SL:=⟨[(2,(.val T2 a2)),(3,(.val .ptr ⟨0,0,(0:Int),0,0⟩)),(4,(.val .ptr ⟨1,0,(0:Int),0,0⟩)),(9,(.val T2 y1.1)),(13,(.val T2 (iadd .i64 (iadd .i64 (iadd .i64 (16:Int) (imul .i64 (2:Int) (iquo .i64 y4.1 (65536:Int)))) (iquo .i64 (imul .i64 (14:Int) y6) (65536:Int))) (iquo .i64 (imul .i64 (14:Int) y8) (65536:Int))))),(14,(.val T2 v10))],[(0,.cells T25 a0),(1,.cells T25 a1)]⟩
noncomputable def reach_Time.c1q (o:(Int × Bool)):SL:=(fun v=>⟨[(6,(.val T2 v.1)),(7,(.val T4 v.2)),(8,(.val T2 (0:Int)))],[]⟩) o
noncomputable def reach_Time.c1x (o:(Int × Bool)):Ex:=(fun _=>.ret) o
noncomputable def reach_Time.c1n (o:(Int × Bool)):Nat:=(fun _=>0) o
theorem reach_Time.c1_ok (k:Nat) (a0 a1:V25) (a2:Int) (y1 y4:(Int × Int)) (y6 y8:Int):∀ (n:Nat) (v10:Int),Owp (reach_Time.c1 k a0 a1 a2 y1 y4 y6 y8 n v10) fun o=>LTriple PR (reach_Time.cx k) (sub reach_Time.code [1,1,1,1,1,1,0,0]) 2 (reach_Time.c1p a0 a1 a2 y1 y4 y6 y8 v10) (reach_Time.c1x o) (reach_Time.c1n o) (reach_Time.c1q o)
  | 0,_=>fun _ h=>nomatch h
  | n+1,v10=>Owp.of (reach_Time.c1.eq_2 ..) (
   Owp.bnd fun y11 e12 =>
   Owp.bnd fun y13 e14 =>
   Owp.bnd fun y15 e16 =>
   Owp.bnd fun y17 e18 =>
   Owp.bnd fun y19 e20 =>
   Owp.bnd fun y21 e22 =>
   Owp.bnd fun y23 e24 =>
   Owp.bif (fun e25 =>
   Owp.some (loop_exit (reach_Time.cok k) hmix [rS T2 y11,rS T25 y13,.res (.one (.ow T22 23)) y15,rS T2 y17,rS T25 y19,.res (.one (.ow T22 23)) y21,.res (.more (.dp T4) (.one (.dp T2))) y23,tT] [] [] exne_ret (via (finP (aI (aI (aI (aI (aI (aI (aI (aI trivial e12) e14) e16) e18) e20) e22) e24) e25) .ret [] (reach_Time.c1q (v10,true))) (by kernel_rfl)))) (fun e25 =>
   Owp.bif (fun e26 =>
   Owp.some (loop_exit (reach_Time.cok k) hmix [rS T2 y11,rS T25 y13,.res (.one (.ow T22 23)) y15,rS T2 y17,rS T25 y19,.res (.one (.ow T22 23)) y21,.res (.more (.dp T4) (.one (.dp T2))) y23,fF,tT] [] [] exne_ret (via (finP (aI (aI (aI (aI (aI (aI (aI (aI (aI trivial e12) e14) e16) e18) e20) e22) e24) e25) e26) .ret [] (reach_Time.c1q ((0:Int),false))) (by kernel_rfl)))) (fun e26 =>
   Owp.bnd fun y27 e28 =>
   Owp.req fun h29 =>
   fun y hy=>loop_back (reach_Time.cok k) hmix 2 (reach_Time.c1p a0 a1 a2 y1 y4 y6 y8 (imin (65536:Int) (iadd .i64 v10 (imax (256:Int) (iquo .i64 (imul .i64 (imax (0:Int) (isub .i64 y27.1 (iadd .i64 (iadd .i64 (iadd .i64 (16:Int) (imul .i64 (2:Int) (iquo .i64 y4.1 (65536:Int)))) (iquo .i64 (imul .i64 (14:Int) y6) (65536:Int))) (iquo .i64 (imul .i64 (14:Int) y8) (65536:Int))))) (65536:Int)) y1.1))))) [rS T2 y11,rS T25 y13,.res (.one (.ow T22 23)) y15,rS T2 y17,rS T25 y19,.res (.one (.ow T22 23)) y21,.res (.more (.dp T4) (.one (.dp T2))) y23,fF,fF,.res (.more (.dp T2) (.one (.dp T2))) y27] [] [(0,0),(1,1)] (via (finP (aI (aI (aI (aI (aI (aI (aI (aI (aI (aI (aI trivial e12) e14) e16) e18) e20) e22) e24) e25) e26) e28) h29) .normal [(0,0),(1,1)] (reach_Time.c1p a0 a1 a2 y1 y4 y6 y8 (imin (65536:Int) (iadd .i64 v10 (imax (256:Int) (iquo .i64 (imul .i64 (imax (0:Int) (isub .i64 y27.1 (iadd .i64 (iadd .i64 (iadd .i64 (16:Int) (imul .i64 (2:Int) (iquo .i64 y4.1 (65536:Int)))) (iquo .i64 (imul .i64 (14:Int) y6) (65536:Int))) (iquo .i64 (imul .i64 (14:Int) y8) (65536:Int))))) (65536:Int)) y1.1)))))) (by kernel_rfl)) ((reach_Time.c1_ok k a0 a1 a2 y1 y4 y6 y8 n (imin (65536:Int) (iadd .i64 v10 (imax (256:Int) (iquo .i64 (imul .i64 (imax (0:Int) (isub .i64 y27.1 (iadd .i64 (iadd .i64 (iadd .i64 (16:Int) (imul .i64 (2:Int) (iquo .i64 y4.1 (65536:Int)))) (iquo .i64 (imul .i64 (14:Int) y6) (65536:Int))) (iquo .i64 (imul .i64 (14:Int) y8) (65536:Int))))) (65536:Int)) y1.1))))).ap hy))))
theorem reach_Time.way (k:Nat) (a0 a1:V25) (a2:Int):Owp (reach_Time k a0 a1 a2) fun y=>∃ w c0,exec PR (reach_Time.cx k) reach_Time.code 0 (entry (.pair T25 (.pair T25 (.pair T2 .unit))) (a0,a1,a2,())).st w (Ret (reach_Time.cx k) Tryz.f6 c0 (.more (.dp T2) (.more (.dp T4) (.one (.dp T2)))) y):=by
  unfold reach_Time; exact
   Owp.bnd fun y1 e2 =>
   Owp.bif (fun e3 =>
   Owp.some (⟨[.res (.more (.dp T2) (.one (.dp T2))) y1,tT],[],via (retP (aI (aI trivial e2) e3) (.more (.dp T2) (.more (.dp T4) (.one (.dp T2)))) (((0:Int),false,y1.2):(Int × (Bool × Int)))) (by kernel_rfl)⟩)) (fun e3 =>
   Owp.bnd fun y4 e5 =>
   Owp.bnd fun y6 e7 =>
   Owp.bnd fun y8 e9 =>
   Owp.bnd fun o30 e31 =>
   Owp.some (⟨[.res (.more (.dp T2) (.one (.dp T2))) y1,fF,.res (.more (.dp T2) (.one (.dp T2))) y4,rS T2 y6,rS T2 y8,.cut ⟨[],[(0,0),(1,1)],(reach_Time.c1p a0 a1 a2 y1 y4 y6 y8 (0:Int)),2,.ret,(reach_Time.c1q o30),0⟩],[],via (cutP (aI (aI (aI (aI (aI (aI (aI (aI trivial e2) e3) e5) (by decide:nz (65536:Int))) e7) (by decide:nz (65536:Int))) e9) (by decide:nz (65536:Int))) [(0,0),(1,1)] (reach_Time.c1p a0 a1 a2 y1 y4 y6 y8 (0:Int)) (((reach_Time.c1_ok k a0 a1 a2 y1 y4 y6 y8 k (0:Int)).ap e31).triple) (retP trivial (.more (.dp T2) (.more (.dp T4) (.one (.dp T2)))) ((o30.1,o30.2,(0:Int)):(Int × (Bool × Int))))) (by kernel_rfl)⟩))
theorem reach_Time.ok (k:Nat):FnOk PR 6 (reach_Time.sp k) :=
  fn_ok (reach_Time.cok k) hmix Tryz.func6 (code:=reach_Time.code) (by kernel_rfl) (by kernel_rfl) (by kernel_rfl) rfl (by kernel_rfl) (by kernel_rfl) (by kernel_rfl) (fun x=>Nat.le_of_ble_eq_true (by kernel_rfl)) fun x y hy=>(reach_Time.way k x.1 x.2.1 x.2.2.1).ap hy
noncomputable def tourlaw2_reachBegun.code:Code:=Func.cd Tryz.f4
def tourlaw2_reachBegun (k:Nat):Option Bool :=
  bnd (tourlaw2_block k (-5) 0 true) fun y1 =>
  bnd (tourlaw2_block k 5 0 true) fun y3 =>
  bnd (reach_Time k (y1.1,(262144,y1.2.1.2),y1.2.2) (y3.1,((-524288),y3.2.1.2),y3.2.2) 65536) fun y5 =>
  bif' (ieq y5.2.2 0)
  (bif' y5.2.1
   (bif' (igt y5.1 32768)
   (some (ilt y5.1 65536))
   (some false))
   (some false))
  (some false)
noncomputable def tourlaw2_reachBegun.sp (k:Nat):Go.Sx.Spec:=⟨.unit,(.one (.dp T4)),fun x=>tourlaw2_reachBegun k,false⟩
noncomputable def tourlaw2_reachBegun.cx (k:Nat):Go.Sx.Ctx:=⟨tys,[(12,tourlaw2_block.sp k),(6,reach_Time.sp k)],eqs,32,false⟩
theorem tourlaw2_reachBegun.cok (k:Nat):CtxOk PR (tourlaw2_reachBegun.cx k):=ctx_ok tysOk eqsOk (FnsOk.cons (tourlaw2_block.ok k) (FnsOk.cons (reach_Time.ok k) FnsOk.nil))
theorem tourlaw2_reachBegun.way (k:Nat):Owp (tourlaw2_reachBegun k) fun y=>∃ w c0,exec PR (tourlaw2_reachBegun.cx k) tourlaw2_reachBegun.code 0 (entry .unit ()).st w (Ret (tourlaw2_reachBegun.cx k) Tryz.f4 c0 (.one (.dp T4)) y):=by
  unfold tourlaw2_reachBegun; exact
   Owp.bnd fun y1 e2 =>
   Owp.bnd fun y3 e4 =>
   Owp.bnd fun y5 e6 =>
   Owp.bif (fun e7 =>
   Owp.bif (fun e8 =>
   Owp.bif (fun e9 =>
   Owp.some (⟨[rS T25 y1,rS T25 y3,.res (.more (.dp T2) (.more (.dp T4) (.one (.dp T2)))) y5,tT,tT,tT,tT,tT,tT,tT,tT],[],via (retP (aI (aI (aI (aI (aI (aI (aI (aI (aI (aI (aI trivial e2) e4) e6) e7) e7) e8) e8) e8) e9) e9) e9) (.one (.dp T4)) ((ilt y5.1 (65536:Int)):Bool)) (by kernel_rfl)⟩)) (fun e9 =>
   Owp.some (⟨[rS T25 y1,rS T25 y3,.res (.more (.dp T2) (.more (.dp T4) (.one (.dp T2)))) y5,tT,tT,tT,tT,tT,fF,fF,fF],[],via (retP (aI (aI (aI (aI (aI (aI (aI (aI (aI (aI (aI trivial e2) e4) e6) e7) e7) e8) e8) e8) e9) e9) e9) (.one (.dp T4)) (false:Bool)) (by kernel_rfl)⟩))) (fun e8 =>
   Owp.some (⟨[rS T25 y1,rS T25 y3,.res (.more (.dp T2) (.more (.dp T4) (.one (.dp T2)))) y5,tT,tT,fF,fF,fF,fF,fF,fF],[],via (retP (aI (aI (aI (aI (aI (aI (aI (aI (aI (aI (aI trivial e2) e4) e6) e7) e7) e8) e8) e8) ff) ff) ff) (.one (.dp T4)) (false:Bool)) (by kernel_rfl)⟩))) (fun e7 =>
   Owp.some (⟨[rS T25 y1,rS T25 y3,.res (.more (.dp T2) (.more (.dp T4) (.one (.dp T2)))) y5,fF,fF,fF,fF,fF,fF,fF,fF],[],via (retP (aI (aI (aI (aI (aI (aI (aI (aI (aI (aI (aI trivial e2) e4) e6) e7) e7) ff) ff) ff) ff) ff) ff) (.one (.dp T4)) (false:Bool)) (by kernel_rfl)⟩))
theorem tourlaw2_reachBegun.ok (k:Nat):FnOk PR 4 (tourlaw2_reachBegun.sp k) :=
  fn_ok (tourlaw2_reachBegun.cok k) hmix Tryz.func4 (code:=tourlaw2_reachBegun.code) (by kernel_rfl) (by kernel_rfl) (by kernel_rfl) rfl (by kernel_rfl) (by kernel_rfl) (by kernel_rfl) (fun x=>Nat.le_of_ble_eq_true (by kernel_rfl)) fun x y hy=>(tourlaw2_reachBegun.way k).ap hy
noncomputable def sat_both.code:Code:=Func.cd Tryz.f105
def sat_both (k:Nat) (a0 a1:(List V22)):Option Int :=
  bnd (poly_Check k a0) fun y1 =>
  bif' (ine y1 0)
  (some y1)
  (bnd (poly_Check k a1) fun y4 =>
   some y4)
noncomputable def sat_both.sp (k:Nat):Go.Sx.Spec:=⟨(.pair T24 (.pair T24 .unit)),(.one (.dp T2)),fun x=>sat_both k x.1 x.2.1,false⟩
noncomputable def sat_both.cx (k:Nat):Go.Sx.Ctx:=⟨tys,[(61,poly_Check.sp k)],eqs,13,false⟩
theorem sat_both.cok (k:Nat):CtxOk PR (sat_both.cx k):=ctx_ok tysOk eqsOk (FnsOk.cons (poly_Check.ok k) FnsOk.nil)
theorem sat_both.way (k:Nat) (a0 a1:(List V22)):Owp (sat_both k a0 a1) fun y=>∃ w c0,exec PR (sat_both.cx k) sat_both.code 0 (entry (.pair T24 (.pair T24 .unit)) (a0,a1,())).st w (Ret (sat_both.cx k) Tryz.f105 c0 (.one (.dp T2)) y):=by
  unfold sat_both; exact
   Owp.bnd fun y1 e2 =>
   Owp.bif (fun e3 =>
   Owp.some (⟨[rS T2 y1,tT],[],via (retP (aI (aI trivial e2) e3) (.one (.dp T2)) (y1:Int)) (by kernel_rfl)⟩)) (fun e3 =>
   Owp.bnd fun y4 e5 =>
   Owp.some (⟨[rS T2 y1,fF,rS T2 y4],[],via (retP (aI (aI (aI trivial e2) e3) e5) (.one (.dp T2)) (y4:Int)) (by kernel_rfl)⟩))
theorem sat_both.ok (k:Nat):FnOk PR 105 (sat_both.sp k) :=
  fn_ok (sat_both.cok k) hmix Tryz.func105 (code:=sat_both.code) (by kernel_rfl) (by kernel_rfl) (by kernel_rfl) rfl (by kernel_rfl) (by kernel_rfl) (by kernel_rfl) (fun x=>Nat.le_of_ble_eq_true (by kernel_rfl)) fun x y hy=>(sat_both.way k x.1 x.2.1).ap hy
noncomputable def sat_Normal.code:Code:=Func.cd Tryz.f87
def sat_Normal.c1 (k:Nat) (a0:(List V22)) (a1:Int):Option (Bool) :=
  bif' (ilt a1 0)
  (some true)
  (some (ige a1 (len a0)))
def sat_Normal (k:Nat) (a0:(List V22)) (a1:Int):Option V22 :=
  bnd (sat_Normal.c1 k a0 a1) fun o2 =>
  bif' o2
  (some (0,0,()))
  (req (inL a1 a0) <|
   req (nz (len a0)) <|
   req (inL (irem (iadd .i64 a1 1) (len a0)) a0) <|
   some ((isub .i64 (el Z22 a0 (irem (iadd .i64 a1 1) (len a0))).2.1 (el Z22 a0 a1).2.1),(isub .i64 (el Z22 a0 a1).1 (el Z22 a0 (irem (iadd .i64 a1 1) (len a0))).1),()))
noncomputable def sat_Normal.sp (k:Nat):Go.Sx.Spec:=⟨(.pair T24 (.pair T2 .unit)),(.one (.dp T22)),fun x=>sat_Normal k x.1 x.2.1,false⟩
noncomputable def sat_Normal.cx (k:Nat):Go.Sx.Ctx:=⟨tys,[],eqs,39,false⟩
theorem sat_Normal.cok (k:Nat):CtxOk PR (sat_Normal.cx k):=ctx_ok tysOk eqsOk FnsOk.nil
noncomputable def sat_Normal.c1p (a0:(List V22)) (a1:Int):SL:=⟨[(0,(.val T24 a0)),(1,(.val T2 a1)),(4,(.val .ptr ⟨0,0,(0:Int),0,0⟩))],[(0,.cells T22 ((0:Int),(0:Int),()))]⟩
noncomputable def sat_Normal.c1q (a0:(List V22)) (a1:Int) (o:Bool):SL:=(fun v=>⟨[(0,(.val T24 a0)),(1,(.val T2 a1)),(4,(.val .ptr ⟨0,0,(0:Int),0,0⟩)),(14,(.val T4 v))],[(0,.cells T22 ((0:Int),(0:Int),()))]⟩) o
noncomputable def sat_Normal.c1x (o:Bool):Ex:=(fun _=>.normal) o
noncomputable def sat_Normal.c1n (o:Bool):Nat:=(fun _=>1) o
theorem sat_Normal.c1_ok (k:Nat) (a0:(List V22)) (a1:Int):Owp (sat_Normal.c1 k a0 a1) fun o=>Triple PR (sat_Normal.cx k) (sub sat_Normal.code [1,0,0]) 1 (sat_Normal.c1p a0 a1) (sat_Normal.c1x o) (sat_Normal.c1n o) (sat_Normal.c1q a0 a1 o):=by
  unfold sat_Normal.c1; exact
   Owp.bif (fun e1 =>
   Owp.some (triple_way (sat_Normal.cok k) hmix [tT,tT,tT,tT,tT] [] [(0,0)] (via (finP (aI (aI (aI (aI (aI trivial e1) e1) e1) e1) e1) .normal [(0,0)] (sat_Normal.c1q a0 a1 true)) (by kernel_rfl)))) (fun e1 =>
   Owp.some (triple_way (sat_Normal.cok k) hmix [fF,fF,fF,fF,fF] [] [(0,0)] (via (finP (aI (aI (aI (aI (aI trivial e1) e1) e1) e1) e1) .normal [(0,0)] (sat_Normal.c1q a0 a1 (ige a1 (len a0)))) (by kernel_rfl))))
theorem sat_Normal.way (k:Nat) (a0:(List V22)) (a1:Int):Owp (sat_Normal k a0 a1) fun y=>∃ w c0,exec PR (sat_Normal.cx k) sat_Normal.code 0 (entry (.pair T24 (.pair T2 .unit)) (a0,a1,())).st w (Ret (sat_Normal.cx k) Tryz.f87 c0 (.one (.dp T22)) y):=by
  unfold sat_Normal; exact
   Owp.bnd fun o2 e3 =>
   Owp.bif (fun e4 =>
   Owp.some (⟨[.cutR 1 ⟨[],[(0,0)],(sat_Normal.c1p a0 a1),1,.normal,(sat_Normal.c1q a0 a1 o2),1⟩,tT],[],via (cutP trivial [(0,0)] (sat_Normal.c1p a0 a1) (((sat_Normal.c1_ok k a0 a1).ap e3)) (retP (aI trivial e4) (.one (.dp T22)) (((0:Int),(0:Int),()):V22))) (by kernel_rfl)⟩)) (fun e4 =>
   Owp.req fun h5 =>
   Owp.req fun h6 =>
   Owp.req fun h7 =>
   Owp.some (⟨[.cutR 1 ⟨[],[(0,0)],(sat_Normal.c1p a0 a1),1,.normal,(sat_Normal.c1q a0 a1 o2),1⟩,fF],[],via (cutP trivial [(0,0)] (sat_Normal.c1p a0 a1) (((sat_Normal.c1_ok k a0 a1).ap e3)) (retP (aI (aI (aI (aI trivial e4) h5) h6) h7) (.one (.dp T22)) (((isub .i64 (el Z22 a0 (irem (iadd .i64 a1 (1:Int)) (len a0))).2.1 (el Z22 a0 a1).2.1),(isub .i64 (el Z22 a0 a1).1 (el Z22 a0 (irem (iadd .i64 a1 (1:Int)) (len a0))).1),()):V22))) (by kernel_rfl)⟩))
theorem sat_Normal.ok (k:Nat):FnOk PR 87 (sat_Normal.sp k) :=
  fn_ok (sat_Normal.cok k) hmix Tryz.func87 (code:=sat_Normal.code) (by kernel_rfl) (by kernel_rfl) (by kernel_rfl) rfl (by kernel_rfl) (by kernel_rfl) (by kernel_rfl) (fun x=>Nat.le_of_ble_eq_true (by kernel_rfl)) fun x y hy=>(sat_Normal.way k x.1 x.2.1).ap hy
noncomputable def sat_deep.code:Code:=Func.cd Tryz.f106
def sat_deep.c2 (k:Nat) (a0 a1:(List V22)) (a2 v3 v4:Int) (y1:V22):Option (Bool) :=
  bif' (ieq v4 0)
  (some true)
  (some (igt (iadd .i64 (imul .i64 y1.1 (isub .i64 (el Z22 a0 a2).1 (el Z22 a1 v4).1)) (imul .i64 y1.2.1 (isub .i64 (el Z22 a0 a2).2.1 (el Z22 a1 v4).2.1))) v3))
def sat_deep.c1 (k:Nat) (a0 a1:(List V22)) (a2:Int) (y1:V22):Nat → Int → Int → Option (Int)
  | 0,_,_=>none
  | n+1,v3,v4 =>
   bif' (ilt v4 (len a1))
   (req (inL v4 a1) <|
   req (inL a2 a0) <|
   bnd (sat_deep.c2 k a0 a1 a2 v3 v4 y1) fun o9 =>
   bif' o9
   (sat_deep.c1 k a0 a1 a2 y1 n (iadd .i64 (imul .i64 y1.1 (isub .i64 (el Z22 a0 a2).1 (el Z22 a1 v4).1)) (imul .i64 y1.2.1 (isub .i64 (el Z22 a0 a2).2.1 (el Z22 a1 v4).2.1))) (iadd .i64 v4 1))
   (sat_deep.c1 k a0 a1 a2 y1 n v3 (iadd .i64 v4 1)))
   (some v3)
def sat_deep (k:Nat) (a0 a1:(List V22)) (a2:Int):Option Int :=
  bnd (sat_Normal k a0 a2) fun y1 =>
  bnd (sat_deep.c1 k a0 a1 a2 y1 k 0 0) fun o12 =>
  some o12
noncomputable def sat_deep.sp (k:Nat):Go.Sx.Spec:=⟨(.pair T24 (.pair T24 (.pair T2 .unit))),(.one (.dp T2)),fun x=>sat_deep k x.1 x.2.1 x.2.2.1,false⟩
noncomputable def sat_deep.cx (k:Nat):Go.Sx.Ctx:=⟨tys,[(87,sat_Normal.sp k)],eqs,55,false⟩
theorem sat_deep.cok (k:Nat):CtxOk PR (sat_deep.cx k):=ctx_ok tysOk eqsOk (FnsOk.cons (sat_Normal.ok k) FnsOk.nil)
noncomputable def sat_deep.c2p (a0 a1:(List V22)) (a2 v3 v4:Int) (y1:V22):SL:=⟨[(0,(.val T24 a0)),(2,(.val T2 a2)),(7,(.val .ptr ⟨0,0,(0:Int),0,0⟩)),(8,(.val T2 v3)),(9,(.val T2 v4)),(11,(.val T2 (iadd .i64 (imul .i64 y1.1 (isub .i64 (el Z22 a0 a2).1 (el Z22 a1 v4).1)) (imul .i64 y1.2.1 (isub .i64 (el Z22 a0 a2).2.1 (el Z22 a1 v4).2.1))))),(15,(.val T24 a1)),(16,(.val T2 (len a1))),(17,(.val T2 v4))],[(0,.cells T22 y1)]⟩
noncomputable def sat_deep.c2q (a0 a1:(List V22)) (a2 v3 v4:Int) (y1:V22) (o:Bool):SL:=(fun v=>⟨[(0,(.val T24 a0)),(2,(.val T2 a2)),(7,(.val .ptr ⟨0,0,(0:Int),0,0⟩)),(8,(.val T2 v3)),(11,(.val T2 (iadd .i64 (imul .i64 y1.1 (isub .i64 (el Z22 a0 a2).1 (el Z22 a1 v4).1)) (imul .i64 y1.2.1 (isub .i64 (el Z22 a0 a2).2.1 (el Z22 a1 v4).2.1))))),(15,(.val T24 a1)),(16,(.val T2 (len a1))),(17,(.val T2 v4)),(51,(.val T4 v))],[(0,.cells T22 y1)]⟩) o
noncomputable def sat_deep.c2x (o:Bool):Ex:=(fun _=>.normal) o
noncomputable def sat_deep.c2n (o:Bool):Nat:=(fun _=>1) o
theorem sat_deep.c2_ok (k:Nat) (a0 a1:(List V22)) (a2 v3 v4:Int) (y1:V22):Owp (sat_deep.c2 k a0 a1 a2 v3 v4 y1) fun o=>Triple PR (sat_deep.cx k) (sub sat_deep.code [1,1,1,0,1,0,0,1,1,0,0,1,1,0]) 1 (sat_deep.c2p a0 a1 a2 v3 v4 y1) (sat_deep.c2x o) (sat_deep.c2n o) (sat_deep.c2q a0 a1 a2 v3 v4 y1 o):=by
  unfold sat_deep.c2; exact
   Owp.bif (fun e8 =>
   Owp.some (triple_way (sat_deep.cok k) hmix [tT,tT,tT,tT] [] [(0,0)] (via (finP (aI (aI (aI (aI trivial e8) e8) e8) e8) .normal [(0,0)] (sat_deep.c2q a0 a1 a2 v3 v4 y1 true)) (by kernel_rfl)))) (fun e8 =>
   Owp.some (triple_way (sat_deep.cok k) hmix [fF,fF,fF,fF] [] [(0,0)] (via (finP (aI (aI (aI (aI trivial e8) e8) e8) e8) .normal [(0,0)] (sat_deep.c2q a0 a1 a2 v3 v4 y1 (igt (iadd .i64 (imul .i64 y1.1 (isub .i64 (el Z22 a0 a2).1 (el Z22 a1 v4).1)) (imul .i64 y1.2.1 (isub .i64 (el Z22 a0 a2).2.1 (el Z22 a1 v4).2.1))) v3))) (by kernel_rfl))))
noncomputable def sat_deep.c1p (a0 a1:(List V22)) (a2:Int) (y1:V22) (v3 v4:Int):SL:=⟨[(0,(.val T24 a0)),(2,(.val T2 a2)),(7,(.val .ptr ⟨0,0,(0:Int),0,0⟩)),(8,(.val T2 v3)),(15,(.val T24 a1)),(16,(.val T2 (len a1))),(17,(.val T2 v4))],[(0,.cells T22 y1)]⟩
noncomputable def sat_deep.c1q (o:Int):SL:=(fun v=>⟨[(8,(.val T2 v))],[]⟩) o
noncomputable def sat_deep.c1x (o:Int):Ex:=(fun _=>(.exit 0)) o
noncomputable def sat_deep.c1n (o:Int):Nat:=(fun _=>0) o
theorem sat_deep.c1_ok (k:Nat) (a0 a1:(List V22)) (a2:Int) (y1:V22):∀ (n:Nat) (v3 v4:Int),Owp (sat_deep.c1 k a0 a1 a2 y1 n v3 v4) fun o=>LTriple PR (sat_deep.cx k) (sub sat_deep.code [1,1,1,0,1,0,0]) 1 (sat_deep.c1p a0 a1 a2 y1 v3 v4) (sat_deep.c1x o) (sat_deep.c1n o) (sat_deep.c1q o)
  | 0,_,_=>fun _ h=>nomatch h
  | n+1,v3,v4=>Owp.of (sat_deep.c1.eq_2 ..) (
   Owp.bif (fun e5 =>
   Owp.req fun h6 =>
   Owp.req fun h7 =>
   Owp.bnd fun o9 e10 =>
   Owp.bif (fun e11 =>
   fun y hy=>loop_back (sat_deep.cok k) hmix 1 (sat_deep.c1p a0 a1 a2 y1 (iadd .i64 (imul .i64 y1.1 (isub .i64 (el Z22 a0 a2).1 (el Z22 a1 v4).1)) (imul .i64 y1.2.1 (isub .i64 (el Z22 a0 a2).2.1 (el Z22 a1 v4).2.1))) (iadd .i64 v4 (1:Int))) [tT,.cutR 7 ⟨[],[(0,0)],(sat_deep.c2p a0 a1 a2 v3 v4 y1),1,.normal,(sat_deep.c2q a0 a1 a2 v3 v4 y1 o9),1⟩,tT] [] [(0,0)] (via (cutP (aI (aI (aI (aI trivial e5) h6) h7) h7) [(0,0)] (sat_deep.c2p a0 a1 a2 v3 v4 y1) (((sat_deep.c2_ok k a0 a1 a2 v3 v4 y1).ap e10)) (finP (aI trivial e11) .normal [(0,0)] (sat_deep.c1p a0 a1 a2 y1 (iadd .i64 (imul .i64 y1.1 (isub .i64 (el Z22 a0 a2).1 (el Z22 a1 v4).1)) (imul .i64 y1.2.1 (isub .i64 (el Z22 a0 a2).2.1 (el Z22 a1 v4).2.1))) (iadd .i64 v4 (1:Int))))) (by kernel_rfl)) ((sat_deep.c1_ok k a0 a1 a2 y1 n (iadd .i64 (imul .i64 y1.1 (isub .i64 (el Z22 a0 a2).1 (el Z22 a1 v4).1)) (imul .i64 y1.2.1 (isub .i64 (el Z22 a0 a2).2.1 (el Z22 a1 v4).2.1))) (iadd .i64 v4 (1:Int))).ap hy)) (fun e11 =>
   fun y hy=>loop_back (sat_deep.cok k) hmix 1 (sat_deep.c1p a0 a1 a2 y1 v3 (iadd .i64 v4 (1:Int))) [tT,.cutR 7 ⟨[],[(0,0)],(sat_deep.c2p a0 a1 a2 v3 v4 y1),1,.normal,(sat_deep.c2q a0 a1 a2 v3 v4 y1 o9),1⟩,fF] [] [(0,0)] (via (cutP (aI (aI (aI (aI trivial e5) h6) h7) h7) [(0,0)] (sat_deep.c2p a0 a1 a2 v3 v4 y1) (((sat_deep.c2_ok k a0 a1 a2 v3 v4 y1).ap e10)) (finP (aI trivial e11) .normal [(0,0)] (sat_deep.c1p a0 a1 a2 y1 v3 (iadd .i64 v4 (1:Int))))) (by kernel_rfl)) ((sat_deep.c1_ok k a0 a1 a2 y1 n v3 (iadd .i64 v4 (1:Int))).ap hy))) (fun e5 =>
   Owp.some (loop_exit (sat_deep.cok k) hmix [fF] [] [] (exne 0) (via (finP (aI trivial e5) (.exit 0) [] (sat_deep.c1q v3)) (by kernel_rfl)))))
theorem sat_deep.way (k:Nat) (a0 a1:(List V22)) (a2:Int):Owp (sat_deep k a0 a1 a2) fun y=>∃ w c0,exec PR (sat_deep.cx k) sat_deep.code 0 (entry (.pair T24 (.pair T24 (.pair T2 .unit))) (a0,a1,a2,())).st w (Ret (sat_deep.cx k) Tryz.f106 c0 (.one (.dp T2)) y):=by
  unfold sat_deep; exact
   Owp.bnd fun y1 e2 =>
   Owp.bnd fun o12 e13 =>
   Owp.some (⟨[rS T22 y1,.cut ⟨[],[(0,4)],(sat_deep.c1p a0 a1 a2 y1 (0:Int) (0:Int)),1,(.exit 0),(sat_deep.c1q o12),0⟩],[],via (cutP (aI trivial e2) [(0,4)] (sat_deep.c1p a0 a1 a2 y1 (0:Int) (0:Int)) (((sat_deep.c1_ok k a0 a1 a2 y1 k (0:Int) (0:Int)).ap e13).triple) (retP trivial (.one (.dp T2)) (o12:Int))) (by kernel_rfl)⟩)
theorem sat_deep.ok (k:Nat):FnOk PR 106 (sat_deep.sp k) :=
  fn_ok (sat_deep.cok k) hmix Tryz.func106 (code:=sat_deep.code) (by kernel_rfl) (by kernel_rfl) (by kernel_rfl) rfl (by kernel_rfl) (by kernel_rfl) (by kernel_rfl) (fun x=>Nat.le_of_ble_eq_true (by kernel_rfl)) fun x y hy=>(sat_deep.way k x.1 x.2.1 x.2.2.1).ap hy
noncomputable def sat_root.code:Code:=Func.cd Tryz.f117
def sat_root.c1 (k:Nat) (a0:Int):Nat → Int → Int → Option (Int)
  | 0,_,_=>none
  | n+1,v1,v2 =>
   bif' (igt (isub .i64 v2 v1) 1)
   (bif' (ile (imul .i64 (iquo .i64 (iadd .i64 v1 v2) 2) (iquo .i64 (iadd .i64 v1 v2) 2)) a0)
   (sat_root.c1 k a0 n (iquo .i64 (iadd .i64 v1 v2) 2) v2)
   (sat_root.c1 k a0 n v1 (iquo .i64 (iadd .i64 v1 v2) 2)))
   (some v1)
def sat_root (k:Nat) (a0:Int):Option Int :=
  bnd (sat_root.c1 k a0 k 0 2147483648) fun o5 =>
  some o5
noncomputable def sat_root.sp (k:Nat):Go.Sx.Spec:=⟨(.pair T2 .unit),(.one (.dp T2)),fun x=>sat_root k x.1,false⟩
noncomputable def sat_root.cx (k:Nat):Go.Sx.Ctx:=⟨tys,[],eqs,22,false⟩
theorem sat_root.cok (k:Nat):CtxOk PR (sat_root.cx k):=ctx_ok tysOk eqsOk FnsOk.nil
noncomputable def sat_root.c1p (a0 v1 v2:Int):SL:=⟨[(0,(.val T2 a0)),(3,(.val T2 v1)),(4,(.val T2 v2))],[]⟩
noncomputable def sat_root.c1q (o:Int):SL:=(fun v=>⟨[(3,(.val T2 v))],[]⟩) o
noncomputable def sat_root.c1x (o:Int):Ex:=(fun _=>(.exit 0)) o
noncomputable def sat_root.c1n (o:Int):Nat:=(fun _=>0) o
theorem sat_root.c1_ok (k:Nat) (a0:Int):∀ (n:Nat) (v1 v2:Int),Owp (sat_root.c1 k a0 n v1 v2) fun o=>LTriple PR (sat_root.cx k) (sub sat_root.code [1,1,0,0,0]) 0 (sat_root.c1p a0 v1 v2) (sat_root.c1x o) (sat_root.c1n o) (sat_root.c1q o)
  | 0,_,_=>fun _ h=>nomatch h
  | n+1,v1,v2=>Owp.of (sat_root.c1.eq_2 ..) (
   Owp.bif (fun e3 =>
   Owp.bif (fun e4 =>
   fun y hy=>loop_back (sat_root.cok k) hmix 0 (sat_root.c1p a0 (iquo .i64 (iadd .i64 v1 v2) (2:Int)) v2) [tT,tT] [] [] (via (finP (aI (aI (aI trivial e3) (by decide:nz (2:Int))) e4) .normal [] (sat_root.c1p a0 (iquo .i64 (iadd .i64 v1 v2) (2:Int)) v2)) (by kernel_rfl)) ((sat_root.c1_ok k a0 n (iquo .i64 (iadd .i64 v1 v2) (2:Int)) v2).ap hy)) (fun e4 =>
   fun y hy=>loop_back (sat_root.cok k) hmix 0 (sat_root.c1p a0 v1 (iquo .i64 (iadd .i64 v1 v2) (2:Int))) [tT,fF] [] [] (via (finP (aI (aI (aI trivial e3) (by decide:nz (2:Int))) e4) .normal [] (sat_root.c1p a0 v1 (iquo .i64 (iadd .i64 v1 v2) (2:Int)))) (by kernel_rfl)) ((sat_root.c1_ok k a0 n v1 (iquo .i64 (iadd .i64 v1 v2) (2:Int))).ap hy))) (fun e3 =>
   Owp.some (loop_exit (sat_root.cok k) hmix [fF] [] [] (exne 0) (via (finP (aI trivial e3) (.exit 0) [] (sat_root.c1q v1)) (by kernel_rfl)))))
theorem sat_root.way (k:Nat) (a0:Int):Owp (sat_root k a0) fun y=>∃ w c0,exec PR (sat_root.cx k) sat_root.code 0 (entry (.pair T2 .unit) (a0,())).st w (Ret (sat_root.cx k) Tryz.f117 c0 (.one (.dp T2)) y):=by
  unfold sat_root; exact
   Owp.bnd fun o5 e6 =>
   Owp.some (⟨[.cut ⟨[],[],(sat_root.c1p a0 (0:Int) (2147483648:Int)),0,(.exit 0),(sat_root.c1q o5),0⟩],[],via (cutP trivial [] (sat_root.c1p a0 (0:Int) (2147483648:Int)) (((sat_root.c1_ok k a0 k (0:Int) (2147483648:Int)).ap e6).triple) (retP trivial (.one (.dp T2)) (o5:Int))) (by kernel_rfl)⟩)
theorem sat_root.ok (k:Nat):FnOk PR 117 (sat_root.sp k) :=
  fn_ok (sat_root.cok k) hmix Tryz.func117 (code:=sat_root.code) (by kernel_rfl) (by kernel_rfl) (by kernel_rfl) rfl (by kernel_rfl) (by kernel_rfl) (by kernel_rfl) (fun x=>Nat.le_of_ble_eq_true (by kernel_rfl)) fun x y hy=>(sat_root.way k x.1).ap hy
noncomputable def sat_Length.code:Code:=Func.cd Tryz.f108
def sat_Length (k:Nat) (a0:V22):Option Int :=
  bnd (sat_root k (iadd .i64 (imul .i64 a0.1 a0.1) (imul .i64 a0.2.1 a0.2.1))) fun y1 =>
  some y1
noncomputable def sat_Length.sp (k:Nat):Go.Sx.Spec:=⟨(.pair T22 .unit),(.one (.dp T2)),fun x=>sat_Length k x.1,false⟩
noncomputable def sat_Length.cx (k:Nat):Go.Sx.Ctx:=⟨tys,[(117,sat_root.sp k)],eqs,15,false⟩
theorem sat_Length.cok (k:Nat):CtxOk PR (sat_Length.cx k):=ctx_ok tysOk eqsOk (FnsOk.cons (sat_root.ok k) FnsOk.nil)
theorem sat_Length.way (k:Nat) (a0:V22):Owp (sat_Length k a0) fun y=>∃ w c0,exec PR (sat_Length.cx k) sat_Length.code 0 (entry (.pair T22 .unit) (a0,())).st w (Ret (sat_Length.cx k) Tryz.f108 c0 (.one (.dp T2)) y):=by
  unfold sat_Length; exact
   Owp.bnd fun y1 e2 =>
   Owp.some (⟨[rS T2 y1],[],via (retP (aI trivial e2) (.one (.dp T2)) (y1:Int)) (by kernel_rfl)⟩)
theorem sat_Length.ok (k:Nat):FnOk PR 108 (sat_Length.sp k) :=
  fn_ok (sat_Length.cok k) hmix Tryz.func108 (code:=sat_Length.code) (by kernel_rfl) (by kernel_rfl) (by kernel_rfl) rfl (by kernel_rfl) (by kernel_rfl) (by kernel_rfl) (fun x=>Nat.le_of_ble_eq_true (by kernel_rfl)) fun x y hy=>(sat_Length.way k x.1).ap hy
end Go.Proofs.T1
