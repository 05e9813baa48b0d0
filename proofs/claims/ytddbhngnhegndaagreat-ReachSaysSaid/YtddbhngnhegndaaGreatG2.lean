import Derived.Test.YtddbhngnhegndaaGreatG1
namespace Go.Proofs.T1
open Go Go.Sx Go.Proofs
set_option maxRecDepth 100000
set_option linter.unusedVariables false
noncomputable def poly_Wide_Over.code:Code:=Func.cd Tryz.f107
def poly_Wide_Over.c1 (k:Nat) (a0:V99):Option (V99) :=
  bif' (ilt a0.1 0)
  (bnd (poly_Wide_Minus k (0,0,()) a0) fun y3 =>
   some y3)
  (some a0)
def poly_Wide_Over.c2 (k:Nat) (a0:V99) (a1:Int):Option ((Bool × Int)) :=
  bif' (ilt a1 0)
  (some ((!(ilt a0.1 0)),(ineg .u64 (icv .u64 a1))))
  (some ((ilt a0.1 0),(icv .u64 a1)))
def poly_Wide_Over.c3 (k:Nat) (o8:(Bool × Int)) (y11:(Int × Int)):Option (Bool) :=
  bif' (igt y11.2 (isub .u64 o8.2 y11.2))
  (some true)
  (bif' (ieq y11.2 (isub .u64 o8.2 y11.2))
   (some (!o8.1))
   (some false))
def poly_Wide_Over.c4 (k:Nat) (o15:Bool) (y11:(Int × Int)):Option (Unit ⊕ Int) :=
  bif' o15
  (bif' (ieq (iadd .u64 y11.1 1) 0)
   (some (.inl ()))
   (some (.inr (iadd .u64 y11.1 1))))
  (some (.inr y11.1))
def poly_Wide_Over.c5 (k:Nat) (o8:(Bool × Int)) (y23:Int):Option (Bool) :=
  bif' o8.1
  (some (ile y23 9223372036854775808))
  (some false)
def poly_Wide_Over.c6 (k:Nat) (o8:(Bool × Int)) (y23:Int):Option (Bool) :=
  bif' o8.1
  (some false)
  (some (ilt y23 9223372036854775808))
def poly_Wide_Over (k:Nat) (a0:V99) (a1:Int):Option (Int × Int) :=
  bif' (ieq a1 0)
  (some (0,17))
  (bnd (poly_Wide_Over.c1 k a0) fun o5 =>
   bnd (poly_Wide_Over.c2 k a0 a1) fun o8 =>
   bif' (ige (icv .u64 o5.1) o8.2)
   (some (0,2))
   (bnd (bits_Div64 k (icv .u64 o5.1) o5.2.1 o8.2) fun y11 =>
   bnd (poly_Wide_Over.c3 k o8 y11) fun o15 =>
   bnd (poly_Wide_Over.c4 k o15 y11) fun o19 =>
   two o19 (fun y21 =>
   some (0,2)) (fun y23 =>
   bnd (poly_Wide_Over.c5 k o8 y23) fun o26 =>
   bif' o26
   (some ((icv .i64 (ineg .u64 y23)),0))
   (bnd (poly_Wide_Over.c6 k o8 y23) fun o30 =>
   bif' o30
   (some ((icv .i64 y23),0))
   (some (0,2))))))
noncomputable def poly_Wide_Over.sp (k:Nat):Go.Sx.Spec:=⟨(.pair T99 (.pair T2 .unit)),(.more (.dp T2) (.one (.dp T2))),fun x=>poly_Wide_Over k x.1 x.2.1,false⟩
noncomputable def poly_Wide_Over.cx (k:Nat):Go.Sx.Ctx:=⟨tys,[(116,poly_Wide_Minus.sp k),(68,bits_Div64.sp k)],eqs,82,false⟩
theorem poly_Wide_Over.cok (k:Nat):CtxOk PR (poly_Wide_Over.cx k):=ctx_ok tysOk eqsOk (FnsOk.cons (poly_Wide_Minus.ok k) (FnsOk.cons (bits_Div64.ok k) FnsOk.nil))
noncomputable def poly_Wide_Over.c1p (a0:V99) (a1:Int):SL:=⟨[(1,(.val T2 a1)),(2,(.val .ptr ⟨0,0,(0:Int),0,0⟩)),(6,(.val T4 (ilt a0.1 (0:Int)))),(17,(.val T4 (ilt a0.1 (0:Int))))],[(0,.cells T99 a0)]⟩
noncomputable def poly_Wide_Over.c1q (a0:V99) (a1:Int) (o:V99):SL:=(fun v=>⟨[(1,(.val T2 a1)),(2,(.val .ptr ⟨0,0,(0:Int),0,0⟩)),(6,(.val T4 (ilt a0.1 (0:Int))))],[(0,.cells T99 v)]⟩) o
noncomputable def poly_Wide_Over.c1x (o:V99):Ex:=(fun _=>.normal) o
noncomputable def poly_Wide_Over.c1n (o:V99):Nat:=(fun _=>1) o
theorem poly_Wide_Over.c1_ok (k:Nat) (a0:V99) (a1:Int):Owp (poly_Wide_Over.c1 k a0) fun o=>Triple PR (poly_Wide_Over.cx k) (sub poly_Wide_Over.code [1,1,1,0,1]) 1 (poly_Wide_Over.c1p a0 a1) (poly_Wide_Over.c1x o) (poly_Wide_Over.c1n o) (poly_Wide_Over.c1q a0 a1 o):=by
  unfold poly_Wide_Over.c1; exact
   Owp.bif (fun e2 =>
   Owp.bnd fun y3 e4 =>
   Owp.some (triple_way (poly_Wide_Over.cok k) hmix [tT,rS T99 y3] [] [(0,0)] (via (finP (aI (aI trivial e2) e4) .normal [(0,0)] (poly_Wide_Over.c1q a0 a1 y3)) (by kernel_rfl)))) (fun e2 =>
   Owp.some (triple_way (poly_Wide_Over.cok k) hmix [fF] [] [(0,0)] (via (finP (aI trivial e2) .normal [(0,0)] (poly_Wide_Over.c1q a0 a1 a0)) (by kernel_rfl))))
noncomputable def poly_Wide_Over.c2p (a0:V99) (a1:Int) (o5:V99):SL:=⟨[(2,(.val .ptr ⟨0,0,(0:Int),0,0⟩)),(6,(.val T4 (ilt a0.1 (0:Int)))),(7,(.val T12 (icv .u64 a1))),(24,(.val T4 (ilt a1 (0:Int))))],[(0,.cells T99 o5)]⟩
noncomputable def poly_Wide_Over.c2q (o5:V99) (o:(Bool × Int)):SL:=(fun v=>⟨[(2,(.val .ptr ⟨0,0,(0:Int),0,0⟩)),(6,(.val T4 v.1)),(7,(.val T12 v.2))],[(0,.cells T99 o5)]⟩) o
noncomputable def poly_Wide_Over.c2x (o:(Bool × Int)):Ex:=(fun _=>.normal) o
noncomputable def poly_Wide_Over.c2n (o:(Bool × Int)):Nat:=(fun _=>1) o
theorem poly_Wide_Over.c2_ok (k:Nat) (a0:V99) (a1:Int) (o5:V99):Owp (poly_Wide_Over.c2 k a0 a1) fun o=>Triple PR (poly_Wide_Over.cx k) (sub poly_Wide_Over.code [1,1,1,1,1,0,1]) 1 (poly_Wide_Over.c2p a0 a1 o5) (poly_Wide_Over.c2x o) (poly_Wide_Over.c2n o) (poly_Wide_Over.c2q o5 o):=by
  unfold poly_Wide_Over.c2; exact
   Owp.bif (fun e7 =>
   Owp.some (triple_way (poly_Wide_Over.cok k) hmix [tT] [] [(0,0)] (via (finP (aI trivial e7) .normal [(0,0)] (poly_Wide_Over.c2q o5 ((!(ilt a0.1 (0:Int))),(ineg .u64 (icv .u64 a1))))) (by kernel_rfl)))) (fun e7 =>
   Owp.some (triple_way (poly_Wide_Over.cok k) hmix [fF] [] [(0,0)] (via (finP (aI trivial e7) .normal [(0,0)] (poly_Wide_Over.c2q o5 ((ilt a0.1 (0:Int)),(icv .u64 a1)))) (by kernel_rfl))))
noncomputable def poly_Wide_Over.c3p (o8:(Bool × Int)) (y11:(Int × Int)):SL:=⟨[(6,(.val T4 o8.1)),(7,(.val T12 o8.2)),(9,(.val T12 y11.1)),(10,(.val T12 y11.2))],[]⟩
noncomputable def poly_Wide_Over.c3q (o8:(Bool × Int)) (y11:(Int × Int)) (o:Bool):SL:=(fun v=>⟨[(6,(.val T4 o8.1)),(9,(.val T12 y11.1)),(11,(.val T4 v))],[]⟩) o
noncomputable def poly_Wide_Over.c3x (o:Bool):Ex:=(fun _=>.normal) o
noncomputable def poly_Wide_Over.c3n (o:Bool):Nat:=(fun _=>0) o
theorem poly_Wide_Over.c3_ok (k:Nat) (o8:(Bool × Int)) (y11:(Int × Int)):Owp (poly_Wide_Over.c3 k o8 y11) fun o=>Triple PR (poly_Wide_Over.cx k) (sub poly_Wide_Over.code [1,1,1,1,1,1,1,1,1,0]) 0 (poly_Wide_Over.c3p o8 y11) (poly_Wide_Over.c3x o) (poly_Wide_Over.c3n o) (poly_Wide_Over.c3q o8 y11 o):=by
  unfold poly_Wide_Over.c3; exact
   Owp.bif (fun e13 =>
   Owp.some (triple_way (poly_Wide_Over.cok k) hmix [tT,tT,tT,tT,tT,tT,tT,tT,tT,tT,tT] [] [] (via (finP (aI (aI (aI (aI (aI (aI (aI (aI trivial e13) e13) e13) e13) e13) e13) e13) e13) .normal [] (poly_Wide_Over.c3q o8 y11 true)) (by kernel_rfl)))) (fun e13 =>
   Owp.bif (fun e14 =>
   Owp.some (triple_way (poly_Wide_Over.cok k) hmix [fF,fF,fF,fF,fF,fF,tT,tT,fF,tT,fF] [] [] (via (finP (aI (aI (aI (aI (aI (aI (aI (aI (aI (aI trivial e13) e13) e13) e13) e13) e13) e14) e14) (aI e13 e14)) e13) .normal [] (poly_Wide_Over.c3q o8 y11 (!o8.1))) (by kernel_rfl)))) (fun e14 =>
   Owp.some (triple_way (poly_Wide_Over.cok k) hmix [fF,fF,fF,fF,fF,fF,fF,fF,fF,fF,fF] [] [] (via (finP (aI (aI (aI (aI (aI (aI (aI (aI (aI (aI trivial e13) e13) e13) e13) e13) e13) e14) e14) (aI e13 e14)) e13) .normal [] (poly_Wide_Over.c3q o8 y11 false)) (by kernel_rfl)))))
noncomputable def poly_Wide_Over.c4p (o8:(Bool × Int)) (o15:Bool) (y11:(Int × Int)):SL:=⟨[(6,(.val T4 o8.1)),(9,(.val T12 y11.1)),(59,(.val T4 o15))],[]⟩
noncomputable def poly_Wide_Over.c4q (o8:(Bool × Int)) (o:Unit ⊕ Int):SL:=(fun o=>two o (fun v=>⟨[(4,(.val T2 (0:Int))),(5,(.val T2 (2:Int)))],[]⟩) (fun v=>⟨[(6,(.val T4 o8.1)),(9,(.val T12 v))],[]⟩)) o
noncomputable def poly_Wide_Over.c4x (o:Unit ⊕ Int):Ex:=(fun o=>two o (fun _=>.ret) (fun _=>.normal)) o
noncomputable def poly_Wide_Over.c4n (o:Unit ⊕ Int):Nat:=(fun o=>two o (fun _=>0) (fun _=>0)) o
theorem poly_Wide_Over.c4_ok (k:Nat) (o8:(Bool × Int)) (o15:Bool) (y11:(Int × Int)):Owp (poly_Wide_Over.c4 k o15 y11) fun o=>Triple PR (poly_Wide_Over.cx k) (sub poly_Wide_Over.code [1,1,1,1,1,1,1,1,1,1,0,1]) 0 (poly_Wide_Over.c4p o8 o15 y11) (poly_Wide_Over.c4x o) (poly_Wide_Over.c4n o) (poly_Wide_Over.c4q o8 o):=by
  unfold poly_Wide_Over.c4; exact
   Owp.bif (fun e17 =>
   Owp.bif (fun e18 =>
   Owp.some (triple_way (poly_Wide_Over.cok k) hmix [tT,tT] [] [] (via (finP (aI (aI trivial e17) e18) .ret [] (poly_Wide_Over.c4q o8 (.inl ()))) (by kernel_rfl)))) (fun e18 =>
   Owp.some (triple_way (poly_Wide_Over.cok k) hmix [tT,fF] [] [] (via (finP (aI (aI trivial e17) e18) .normal [] (poly_Wide_Over.c4q o8 (.inr (iadd .u64 y11.1 (1:Int))))) (by kernel_rfl))))) (fun e17 =>
   Owp.some (triple_way (poly_Wide_Over.cok k) hmix [fF] [] [] (via (finP (aI trivial e17) .normal [] (poly_Wide_Over.c4q o8 (.inr y11.1))) (by kernel_rfl))))
noncomputable def poly_Wide_Over.c5p (o8:(Bool × Int)) (y23:Int):SL:=⟨[(6,(.val T4 o8.1)),(9,(.val T12 y23))],[]⟩
noncomputable def poly_Wide_Over.c5q (o8:(Bool × Int)) (y23:Int) (o:Bool):SL:=(fun v=>⟨[(6,(.val T4 o8.1)),(9,(.val T12 y23)),(64,(.val T4 v))],[]⟩) o
noncomputable def poly_Wide_Over.c5x (o:Bool):Ex:=(fun _=>.normal) o
noncomputable def poly_Wide_Over.c5n (o:Bool):Nat:=(fun _=>0) o
theorem poly_Wide_Over.c5_ok (k:Nat) (o8:(Bool × Int)) (y23:Int):Owp (poly_Wide_Over.c5 k o8 y23) fun o=>Triple PR (poly_Wide_Over.cx k) (sub poly_Wide_Over.code [1,1,1,1,1,1,1,1,1,1,1,0,0,0]) 0 (poly_Wide_Over.c5p o8 y23) (poly_Wide_Over.c5x o) (poly_Wide_Over.c5n o) (poly_Wide_Over.c5q o8 y23 o):=by
  unfold poly_Wide_Over.c5; exact
   Owp.bif (fun e25 =>
   Owp.some (triple_way (poly_Wide_Over.cok k) hmix [tT,tT,tT] [] [] (via (finP (aI (aI (aI trivial e25) e25) e25) .normal [] (poly_Wide_Over.c5q o8 y23 (ile y23 (9223372036854775808:Int)))) (by kernel_rfl)))) (fun e25 =>
   Owp.some (triple_way (poly_Wide_Over.cok k) hmix [fF,fF,fF] [] [] (via (finP (aI (aI (aI trivial e25) e25) e25) .normal [] (poly_Wide_Over.c5q o8 y23 false)) (by kernel_rfl))))
noncomputable def poly_Wide_Over.c6p (o8:(Bool × Int)) (y23:Int):SL:=⟨[(6,(.val T4 o8.1)),(9,(.val T12 y23))],[]⟩
noncomputable def poly_Wide_Over.c6q (y23:Int) (o:Bool):SL:=(fun v=>⟨[(9,(.val T12 y23)),(73,(.val T4 v))],[]⟩) o
noncomputable def poly_Wide_Over.c6x (o:Bool):Ex:=(fun _=>.normal) o
noncomputable def poly_Wide_Over.c6n (o:Bool):Nat:=(fun _=>0) o
theorem poly_Wide_Over.c6_ok (k:Nat) (o8:(Bool × Int)) (y23:Int):Owp (poly_Wide_Over.c6 k o8 y23) fun o=>Triple PR (poly_Wide_Over.cx k) (sub poly_Wide_Over.code [1,1,1,1,1,1,1,1,1,1,1,0,0,1,1,0]) 0 (poly_Wide_Over.c6p o8 y23) (poly_Wide_Over.c6x o) (poly_Wide_Over.c6n o) (poly_Wide_Over.c6q y23 o):=by
  unfold poly_Wide_Over.c6; exact
   Owp.bif (fun e29 =>
   Owp.some (triple_way (poly_Wide_Over.cok k) hmix [fF,fF,fF] [] [] (via (finP (aI (aI (aI trivial (congrArg not e29)) (congrArg not e29)) (congrArg not e29)) .normal [] (poly_Wide_Over.c6q y23 false)) (by kernel_rfl)))) (fun e29 =>
   Owp.some (triple_way (poly_Wide_Over.cok k) hmix [tT,tT,tT] [] [] (via (finP (aI (aI (aI trivial (congrArg not e29)) (congrArg not e29)) (congrArg not e29)) .normal [] (poly_Wide_Over.c6q y23 (ilt y23 (9223372036854775808:Int)))) (by kernel_rfl))))
theorem poly_Wide_Over.way (k:Nat) (a0:V99) (a1:Int):Owp (poly_Wide_Over k a0 a1) fun y=>∃ w c0,exec PR (poly_Wide_Over.cx k) poly_Wide_Over.code 0 (entry (.pair T99 (.pair T2 .unit)) (a0,a1,())).st w (Ret (poly_Wide_Over.cx k) Tryz.f107 c0 (.more (.dp T2) (.one (.dp T2))) y):=by
  unfold poly_Wide_Over; exact
   Owp.bif (fun e1 =>
   Owp.some (⟨[tT],[],via (retP (aI trivial e1) (.more (.dp T2) (.one (.dp T2))) (((0:Int),(17:Int)):(Int × Int))) (by kernel_rfl)⟩)) (fun e1 =>
   Owp.bnd fun o5 e6 =>
   Owp.bnd fun o8 e9 =>
   Owp.bif (fun e10 =>
   Owp.some (⟨[fF,.cut ⟨[],[(0,0)],(poly_Wide_Over.c1p a0 a1),1,.normal,(poly_Wide_Over.c1q a0 a1 o5),1⟩,.cut ⟨[],[(0,0)],(poly_Wide_Over.c2p a0 a1 o5),1,.normal,(poly_Wide_Over.c2q o5 o8),1⟩,tT],[],via (cutP (aI trivial e1) [(0,0)] (poly_Wide_Over.c1p a0 a1) (((poly_Wide_Over.c1_ok k a0 a1).ap e6)) (cutP trivial [(0,0)] (poly_Wide_Over.c2p a0 a1 o5) (((poly_Wide_Over.c2_ok k a0 a1 o5).ap e9)) (retP (aI trivial e10) (.more (.dp T2) (.one (.dp T2))) (((0:Int),(2:Int)):(Int × Int))))) (by kernel_rfl)⟩)) (fun e10 =>
   Owp.bnd fun y11 e12 =>
   Owp.bnd fun o15 e16 =>
   Owp.bnd fun o19 e20 =>
   Owp.two (fun y21 e22 =>
   Owp.some (⟨[fF,.cut ⟨[],[(0,0)],(poly_Wide_Over.c1p a0 a1),1,.normal,(poly_Wide_Over.c1q a0 a1 o5),1⟩,.cut ⟨[],[(0,0)],(poly_Wide_Over.c2p a0 a1 o5),1,.normal,(poly_Wide_Over.c2q o5 o8),1⟩,fF,.res (.more (.dp T12) (.one (.dp T12))) y11,.cutR 13 ⟨[],[],(poly_Wide_Over.c3p o8 y11),0,.normal,(poly_Wide_Over.c3q o8 y11 o15),0⟩,.cut ⟨[],[],(poly_Wide_Over.c4p o8 o15 y11),0,.ret,(poly_Wide_Over.c4q o8 (.inl ())),0⟩],[],via (cutP (aI trivial e1) [(0,0)] (poly_Wide_Over.c1p a0 a1) (((poly_Wide_Over.c1_ok k a0 a1).ap e6)) (cutP trivial [(0,0)] (poly_Wide_Over.c2p a0 a1 o5) (((poly_Wide_Over.c2_ok k a0 a1 o5).ap e9)) (cutP (aI (aI trivial e10) e12) [] (poly_Wide_Over.c3p o8 y11) (((poly_Wide_Over.c3_ok k o8 y11).ap e16)) (cutP trivial [] (poly_Wide_Over.c4p o8 o15 y11) (((poly_Wide_Over.c4_ok k o8 o15 y11).ap (e20.trans (congrArg some e22)))) (retP trivial (.more (.dp T2) (.one (.dp T2))) (((0:Int),(2:Int)):(Int × Int))))))) (by kernel_rfl)⟩)) (fun y23 e24 =>
   Owp.bnd fun o26 e27 =>
   Owp.bif (fun e28 =>
   Owp.some (⟨[fF,.cut ⟨[],[(0,0)],(poly_Wide_Over.c1p a0 a1),1,.normal,(poly_Wide_Over.c1q a0 a1 o5),1⟩,.cut ⟨[],[(0,0)],(poly_Wide_Over.c2p a0 a1 o5),1,.normal,(poly_Wide_Over.c2q o5 o8),1⟩,fF,.res (.more (.dp T12) (.one (.dp T12))) y11,.cutR 13 ⟨[],[],(poly_Wide_Over.c3p o8 y11),0,.normal,(poly_Wide_Over.c3q o8 y11 o15),0⟩,.cut ⟨[],[],(poly_Wide_Over.c4p o8 o15 y11),0,.normal,(poly_Wide_Over.c4q o8 (.inr y23)),0⟩,.cutR 18 ⟨[],[],(poly_Wide_Over.c5p o8 y23),0,.normal,(poly_Wide_Over.c5q o8 y23 o26),0⟩,tT],[],via (cutP (aI trivial e1) [(0,0)] (poly_Wide_Over.c1p a0 a1) (((poly_Wide_Over.c1_ok k a0 a1).ap e6)) (cutP trivial [(0,0)] (poly_Wide_Over.c2p a0 a1 o5) (((poly_Wide_Over.c2_ok k a0 a1 o5).ap e9)) (cutP (aI (aI trivial e10) e12) [] (poly_Wide_Over.c3p o8 y11) (((poly_Wide_Over.c3_ok k o8 y11).ap e16)) (cutP trivial [] (poly_Wide_Over.c4p o8 o15 y11) (((poly_Wide_Over.c4_ok k o8 o15 y11).ap (e20.trans (congrArg some e24)))) (cutP trivial [] (poly_Wide_Over.c5p o8 y23) (((poly_Wide_Over.c5_ok k o8 y23).ap e27)) (retP (aI trivial e28) (.more (.dp T2) (.one (.dp T2))) (((icv .i64 (ineg .u64 y23)),(0:Int)):(Int × Int)))))))) (by kernel_rfl)⟩)) (fun e28 =>
   Owp.bnd fun o30 e31 =>
   Owp.bif (fun e32 =>
   Owp.some (⟨[fF,.cut ⟨[],[(0,0)],(poly_Wide_Over.c1p a0 a1),1,.normal,(poly_Wide_Over.c1q a0 a1 o5),1⟩,.cut ⟨[],[(0,0)],(poly_Wide_Over.c2p a0 a1 o5),1,.normal,(poly_Wide_Over.c2q o5 o8),1⟩,fF,.res (.more (.dp T12) (.one (.dp T12))) y11,.cutR 13 ⟨[],[],(poly_Wide_Over.c3p o8 y11),0,.normal,(poly_Wide_Over.c3q o8 y11 o15),0⟩,.cut ⟨[],[],(poly_Wide_Over.c4p o8 o15 y11),0,.normal,(poly_Wide_Over.c4q o8 (.inr y23)),0⟩,.cutR 18 ⟨[],[],(poly_Wide_Over.c5p o8 y23),0,.normal,(poly_Wide_Over.c5q o8 y23 o26),0⟩,fF,.cutR 20 ⟨[],[],(poly_Wide_Over.c6p o8 y23),0,.normal,(poly_Wide_Over.c6q y23 o30),0⟩,tT],[],via (cutP (aI trivial e1) [(0,0)] (poly_Wide_Over.c1p a0 a1) (((poly_Wide_Over.c1_ok k a0 a1).ap e6)) (cutP trivial [(0,0)] (poly_Wide_Over.c2p a0 a1 o5) (((poly_Wide_Over.c2_ok k a0 a1 o5).ap e9)) (cutP (aI (aI trivial e10) e12) [] (poly_Wide_Over.c3p o8 y11) (((poly_Wide_Over.c3_ok k o8 y11).ap e16)) (cutP trivial [] (poly_Wide_Over.c4p o8 o15 y11) (((poly_Wide_Over.c4_ok k o8 o15 y11).ap (e20.trans (congrArg some e24)))) (cutP trivial [] (poly_Wide_Over.c5p o8 y23) (((poly_Wide_Over.c5_ok k o8 y23).ap e27)) (cutP (aI trivial e28) [] (poly_Wide_Over.c6p o8 y23) (((poly_Wide_Over.c6_ok k o8 y23).ap e31)) (retP (aI trivial e32) (.more (.dp T2) (.one (.dp T2))) (((icv .i64 y23),(0:Int)):(Int × Int))))))))) (by kernel_rfl)⟩)) (fun e32 =>
   Owp.some (⟨[fF,.cut ⟨[],[(0,0)],(poly_Wide_Over.c1p a0 a1),1,.normal,(poly_Wide_Over.c1q a0 a1 o5),1⟩,.cut ⟨[],[(0,0)],(poly_Wide_Over.c2p a0 a1 o5),1,.normal,(poly_Wide_Over.c2q o5 o8),1⟩,fF,.res (.more (.dp T12) (.one (.dp T12))) y11,.cutR 13 ⟨[],[],(poly_Wide_Over.c3p o8 y11),0,.normal,(poly_Wide_Over.c3q o8 y11 o15),0⟩,.cut ⟨[],[],(poly_Wide_Over.c4p o8 o15 y11),0,.normal,(poly_Wide_Over.c4q o8 (.inr y23)),0⟩,.cutR 18 ⟨[],[],(poly_Wide_Over.c5p o8 y23),0,.normal,(poly_Wide_Over.c5q o8 y23 o26),0⟩,fF,.cutR 20 ⟨[],[],(poly_Wide_Over.c6p o8 y23),0,.normal,(poly_Wide_Over.c6q y23 o30),0⟩,fF],[],via (cutP (aI trivial e1) [(0,0)] (poly_Wide_Over.c1p a0 a1) (((poly_Wide_Over.c1_ok k a0 a1).ap e6)) (cutP trivial [(0,0)] (poly_Wide_Over.c2p a0 a1 o5) (((poly_Wide_Over.c2_ok k a0 a1 o5).ap e9)) (cutP (aI (aI trivial e10) e12) [] (poly_Wide_Over.c3p o8 y11) (((poly_Wide_Over.c3_ok k o8 y11).ap e16)) (cutP trivial [] (poly_Wide_Over.c4p o8 o15 y11) (((poly_Wide_Over.c4_ok k o8 o15 y11).ap (e20.trans (congrArg some e24)))) (cutP trivial [] (poly_Wide_Over.c5p o8 y23) (((poly_Wide_Over.c5_ok k o8 y23).ap e27)) (cutP (aI trivial e28) [] (poly_Wide_Over.c6p o8 y23) (((poly_Wide_Over.c6_ok k o8 y23).ap e31)) (retP (aI trivial e32) (.more (.dp T2) (.one (.dp T2))) (((0:Int),(2:Int)):(Int × Int))))))))) (by kernel_rfl)⟩))))))
theorem poly_Wide_Over.ok (k:Nat):FnOk PR 107 (poly_Wide_Over.sp k) :=
  fn_ok (poly_Wide_Over.cok k) hmix Tryz.func107 (code:=poly_Wide_Over.code) (by kernel_rfl) (by kernel_rfl) (by kernel_rfl) rfl (by kernel_rfl) (by kernel_rfl) (by kernel_rfl) (fun x=>Nat.le_of_ble_eq_true (by kernel_rfl)) fun x y hy=>(poly_Wide_Over.way k x.1 x.2.1).ap hy
noncomputable def r2_Big_Below.code:Code:=Func.cd Tryz.f92
def r2_Big_Below (k:Nat) (a0:(List Int)):Option Bool :=
  some (ieq (ishr .u32 (el 0 a0 7) 15) 1)
noncomputable def r2_Big_Below.sp (k:Nat):Go.Sx.Spec:=⟨(.pair T72 .unit),(.one (.dp T4)),fun x=>r2_Big_Below k x.1,false⟩
noncomputable def r2_Big_Below.cx (k:Nat):Go.Sx.Ctx:=⟨tys,[],eqs,7,false⟩
theorem r2_Big_Below.cok (k:Nat):CtxOk PR (r2_Big_Below.cx k):=ctx_ok tysOk eqsOk FnsOk.nil
theorem r2_Big_Below.way (k:Nat) (a0:(List Int)):Owp (r2_Big_Below k a0) fun y=>∃ w c0,exec PR (r2_Big_Below.cx k) r2_Big_Below.code 0 (entry (.pair T72 .unit) (a0,())).st w (Ret (r2_Big_Below.cx k) Tryz.f92 c0 (.one (.dp T4)) y):=by
  unfold r2_Big_Below; exact
   Owp.some (⟨[],[],via (retP (aI (aI (aI trivial (by decide:inR (7:Int) 8)) (by decide:inR (7:Int) 8)) (by decide:ng (15:Int))) (.one (.dp T4)) ((ieq (ishr .u32 (el (0:Int) a0 (7:Int)) (15:Int)) (1:Int)):Bool)) (by kernel_rfl)⟩)
theorem r2_Big_Below.ok (k:Nat):FnOk PR 92 (r2_Big_Below.sp k) :=
  fn_ok (r2_Big_Below.cok k) hmix Tryz.func92 (code:=r2_Big_Below.code) (by kernel_rfl) (by kernel_rfl) (by kernel_rfl) rfl (by kernel_rfl) (by kernel_rfl) (by kernel_rfl) (fun x=>Nat.le_of_ble_eq_true (by kernel_rfl)) fun x y hy=>(r2_Big_Below.way k x.1).ap hy
noncomputable def r2_Big_Cmp.code:Code:=Func.cd Tryz.f52
def r2_Big_Cmp.c1 (k:Nat) (a0 a1:(List Int)):Nat → Int → Option (Int ⊕ Unit)
  | 0,_=>none
  | n+1,v6 =>
   bif' (ige v6 0)
   (req (inR v6 8) <|
   bif' (ine (el 0 a0 v6) (el 0 a1 v6))
   (bif' (ilt (el 0 a0 v6) (el 0 a1 v6))
   (some (.inl (-1)))
   (some (.inl 1)))
   (r2_Big_Cmp.c1 k a0 a1 n (isub .i64 v6 1)))
   (some (.inr ()))
def r2_Big_Cmp (k:Nat) (a0 a1:(List Int)):Option Int :=
  bnd (r2_Big_Below k a0) fun y1 =>
  bnd (r2_Big_Below k a1) fun y3 =>
  bif' (Ty.eqb T4 y1 y3)
  (bnd (r2_Big_Cmp.c1 k a0 a1 k 7) fun o11 =>
   two o11 (fun y13 =>
   some y13) (fun y15 =>
   some 0))
  (bnd (r2_Big_Below k a0) fun y17 =>
   bif' y17
   (some (-1))
   (some 1))
noncomputable def r2_Big_Cmp.sp (k:Nat):Go.Sx.Spec:=⟨(.pair T72 (.pair T72 .unit)),(.one (.dp T2)),fun x=>r2_Big_Cmp k x.1 x.2.1,false⟩
noncomputable def r2_Big_Cmp.cx (k:Nat):Go.Sx.Ctx:=⟨tys,[(92,r2_Big_Below.sp k)],eqs,31,false⟩
theorem r2_Big_Cmp.cok (k:Nat):CtxOk PR (r2_Big_Cmp.cx k):=ctx_ok tysOk eqsOk (FnsOk.cons (r2_Big_Below.ok k) FnsOk.nil)
noncomputable def r2_Big_Cmp.c1p (a0 a1:(List Int)) (v6:Int):SL:=⟨[(2,(.val .ptr ⟨0,0,(0:Int),0,0⟩)),(3,(.val .ptr ⟨1,0,(0:Int),0,0⟩)),(5,(.val T2 v6))],[(0,.cells T72 a0),(1,.cells T72 a1)]⟩
noncomputable def r2_Big_Cmp.c1q (o:Int ⊕ Unit):SL:=(fun o=>two o (fun v=>⟨[(4,(.val T2 v))],[]⟩) (fun v=>⟨[],[]⟩)) o
noncomputable def r2_Big_Cmp.c1x (o:Int ⊕ Unit):Ex:=(fun o=>two o (fun _=>.ret) (fun _=>(.exit 0))) o
noncomputable def r2_Big_Cmp.c1n (o:Int ⊕ Unit):Nat:=(fun o=>two o (fun _=>0) (fun _=>0)) o
theorem r2_Big_Cmp.c1_ok (k:Nat) (a0 a1:(List Int)):∀ (n:Nat) (v6:Int),Owp (r2_Big_Cmp.c1 k a0 a1 n v6) fun o=>LTriple PR (r2_Big_Cmp.cx k) (sub r2_Big_Cmp.code [1,1,0,1,0,0]) 2 (r2_Big_Cmp.c1p a0 a1 v6) (r2_Big_Cmp.c1x o) (r2_Big_Cmp.c1n o) (r2_Big_Cmp.c1q o)
  | 0,_=>fun _ h=>nomatch h
  | n+1,v6=>Owp.of (r2_Big_Cmp.c1.eq_2 ..) (
   Owp.bif (fun e7 =>
   Owp.req fun h8 =>
   Owp.bif (fun e9 =>
   Owp.bif (fun e10 =>
   Owp.some (loop_exit (r2_Big_Cmp.cok k) hmix [tT,tT,tT] [] [] exne_ret (via (finP (aI (aI (aI (aI (aI (aI (aI (aI (aI (aI (aI trivial e7) h8) h8) h8) h8) e9) h8) h8) h8) h8) e10) .ret [] (r2_Big_Cmp.c1q (.inl (-1:Int)))) (by kernel_rfl)))) (fun e10 =>
   Owp.some (loop_exit (r2_Big_Cmp.cok k) hmix [tT,tT,fF] [] [] exne_ret (via (finP (aI (aI (aI (aI (aI (aI (aI (aI (aI (aI (aI trivial e7) h8) h8) h8) h8) e9) h8) h8) h8) h8) e10) .ret [] (r2_Big_Cmp.c1q (.inl (1:Int)))) (by kernel_rfl))))) (fun e9 =>
   fun y hy=>loop_back (r2_Big_Cmp.cok k) hmix 2 (r2_Big_Cmp.c1p a0 a1 (isub .i64 v6 (1:Int))) [tT,fF] [] [(0,0),(1,1)] (via (finP (aI (aI (aI (aI (aI (aI trivial e7) h8) h8) h8) h8) e9) .normal [(0,0),(1,1)] (r2_Big_Cmp.c1p a0 a1 (isub .i64 v6 (1:Int)))) (by kernel_rfl)) ((r2_Big_Cmp.c1_ok k a0 a1 n (isub .i64 v6 (1:Int))).ap hy))) (fun e7 =>
   Owp.some (loop_exit (r2_Big_Cmp.cok k) hmix [fF] [] [] (exne 0) (via (finP (aI trivial e7) (.exit 0) [] (r2_Big_Cmp.c1q (.inr ()))) (by kernel_rfl)))))
theorem r2_Big_Cmp.way (k:Nat) (a0 a1:(List Int)):Owp (r2_Big_Cmp k a0 a1) fun y=>∃ w c0,exec PR (r2_Big_Cmp.cx k) r2_Big_Cmp.code 0 (entry (.pair T72 (.pair T72 .unit)) (a0,a1,())).st w (Ret (r2_Big_Cmp.cx k) Tryz.f52 c0 (.one (.dp T2)) y):=by
  unfold r2_Big_Cmp; exact
   Owp.bnd fun y1 e2 =>
   Owp.bnd fun y3 e4 =>
   Owp.bif (fun e5 =>
   Owp.bnd fun o11 e12 =>
   Owp.two (fun y13 e14 =>
   Owp.some (⟨[rS T4 y1,rS T4 y3,fF,.cut ⟨[],[(0,0),(1,1)],(r2_Big_Cmp.c1p a0 a1 (7:Int)),2,.ret,(r2_Big_Cmp.c1q (.inl y13)),0⟩],[],via (cutP (aI (aI (aI trivial e2) e4) (congrArg not e5)) [(0,0),(1,1)] (r2_Big_Cmp.c1p a0 a1 (7:Int)) (((r2_Big_Cmp.c1_ok k a0 a1 k (7:Int)).ap (e12.trans (congrArg some e14))).triple) (retP trivial (.one (.dp T2)) (y13:Int))) (by kernel_rfl)⟩)) (fun y15 e16 =>
   Owp.some (⟨[rS T4 y1,rS T4 y3,fF,.cut ⟨[],[(0,0),(1,1)],(r2_Big_Cmp.c1p a0 a1 (7:Int)),2,(.exit 0),(r2_Big_Cmp.c1q (.inr ())),0⟩],[],via (cutP (aI (aI (aI trivial e2) e4) (congrArg not e5)) [(0,0),(1,1)] (r2_Big_Cmp.c1p a0 a1 (7:Int)) (((r2_Big_Cmp.c1_ok k a0 a1 k (7:Int)).ap (e12.trans (congrArg some e16))).triple) (retP trivial (.one (.dp T2)) ((0:Int):Int))) (by kernel_rfl)⟩))) (fun e5 =>
   Owp.bnd fun y17 e18 =>
   Owp.bif (fun e19 =>
   Owp.some (⟨[rS T4 y1,rS T4 y3,tT,rS T4 y17,tT],[],via (retP (aI (aI (aI (aI (aI trivial e2) e4) (congrArg not e5)) e18) e19) (.one (.dp T2)) ((-1:Int):Int)) (by kernel_rfl)⟩)) (fun e19 =>
   Owp.some (⟨[rS T4 y1,rS T4 y3,tT,rS T4 y17,fF],[],via (retP (aI (aI (aI (aI (aI trivial e2) e4) (congrArg not e5)) e18) e19) (.one (.dp T2)) ((1:Int):Int)) (by kernel_rfl)⟩)))
theorem r2_Big_Cmp.ok (k:Nat):FnOk PR 52 (r2_Big_Cmp.sp k) :=
  fn_ok (r2_Big_Cmp.cok k) hmix Tryz.func52 (code:=r2_Big_Cmp.code) (by kernel_rfl) (by kernel_rfl) (by kernel_rfl) rfl (by kernel_rfl) (by kernel_rfl) (by kernel_rfl) (fun x=>Nat.le_of_ble_eq_true (by kernel_rfl)) fun x y hy=>(r2_Big_Cmp.way k x.1 x.2.1).ap hy
noncomputable def r2_Big_Mul.code:Code:=Func.cd Tryz.f90
def r2_Big_Mul.c2 (k:Nat) (a0 a1:(List Int)) (v1:Int):Nat → Int → Int → (List Int) → Option ((List Int))
  | 0,_,_,_=>none
  | n+1,v4,v5,v6 =>
   bif' (ilt (iadd .i64 v1 v5) 8)
   (req (inR v1 8) <|
   req (inR v5 8) <|
   req (inR (iadd .i64 v1 v5) 8) <|
   r2_Big_Mul.c2 k a0 a1 v1 n (ishr .u64 (iadd .u64 v4 (iadd .u64 (imul .u64 (icv .u64 (el 0 a0 v1)) (icv .u64 (el 0 a1 v5))) (icv .u64 (el 0 v6 (iadd .i64 v1 v5))))) 16) (iadd .i64 v5 1) (st v6 (iadd .i64 v1 v5) (icv .u32 (ibits .and .u64 (iadd .u64 v4 (iadd .u64 (imul .u64 (icv .u64 (el 0 a0 v1)) (icv .u64 (el 0 a1 v5))) (icv .u64 (el 0 v6 (iadd .i64 v1 v5))))) 65535))))
   (some v6)
def r2_Big_Mul.c1 (k:Nat) (a0 a1:(List Int)):Nat → Int → (List Int) → Option ((List Int))
  | 0,_,_=>none
  | n+1,v1,v2 =>
   bif' (ilt v1 8)
   (bnd (r2_Big_Mul.c2 k a0 a1 v1 k 0 0 v2) fun o11 =>
   r2_Big_Mul.c1 k a0 a1 n (iadd .i64 v1 1) o11)
   (some v2)
def r2_Big_Mul (k:Nat) (a0 a1:(List Int)):Option (List Int) :=
  bnd (r2_Big_Mul.c1 k a0 a1 k 0 (List.replicate 8 0)) fun o13 =>
  some o13
noncomputable def r2_Big_Mul.sp (k:Nat):Go.Sx.Spec:=⟨(.pair T72 (.pair T72 .unit)),(.one (.dp T72)),fun x=>r2_Big_Mul k x.1 x.2.1,false⟩
noncomputable def r2_Big_Mul.cx (k:Nat):Go.Sx.Ctx:=⟨tys,[],eqs,47,false⟩
theorem r2_Big_Mul.cok (k:Nat):CtxOk PR (r2_Big_Mul.cx k):=ctx_ok tysOk eqsOk FnsOk.nil
noncomputable def r2_Big_Mul.c2p (a0 a1:(List Int)) (v1 v4 v5:Int) (v6:(List Int)):SL:=⟨[(2,(.val .ptr ⟨0,0,(0:Int),0,0⟩)),(3,(.val .ptr ⟨1,0,(0:Int),0,0⟩)),(4,(.val .ptr ⟨2,0,(0:Int),0,0⟩)),(5,(.val .ptr ⟨3,0,(0:Int),0,0⟩)),(6,(.val T2 v1)),(7,(.val T12 v4)),(8,(.val T2 v5)),(9,(.val T2 v1))],[(0,.cells T72 a0),(1,.cells T72 a1),(2,.cells T72 (List.replicate 8 (0:Int))),(3,.cells T72 v6)]⟩
noncomputable def r2_Big_Mul.c2q (a0 a1:(List Int)) (v1:Int) (o:(List Int)):SL:=(fun v=>⟨[(2,(.val .ptr ⟨0,0,(0:Int),0,0⟩)),(3,(.val .ptr ⟨1,0,(0:Int),0,0⟩)),(4,(.val .ptr ⟨2,0,(0:Int),0,0⟩)),(5,(.val .ptr ⟨3,0,(0:Int),0,0⟩)),(9,(.val T2 v1))],[(0,.cells T72 a0),(1,.cells T72 a1),(2,.cells T72 (List.replicate 8 (0:Int))),(3,.cells T72 v)]⟩) o
noncomputable def r2_Big_Mul.c2x (o:(List Int)):Ex:=(fun _=>(.exit 2)) o
noncomputable def r2_Big_Mul.c2n (o:(List Int)):Nat:=(fun _=>4) o
theorem r2_Big_Mul.c2_ok (k:Nat) (a0 a1:(List Int)) (v1:Int):∀ (n:Nat) (v4 v5:Int) (v6:(List Int)),Owp (r2_Big_Mul.c2 k a0 a1 v1 n v4 v5 v6) fun o=>LTriple PR (r2_Big_Mul.cx k) (sub r2_Big_Mul.code [1,1,0,1,0,0,1,1,0,0,1,1,1,0,0]) 4 (r2_Big_Mul.c2p a0 a1 v1 v4 v5 v6) (r2_Big_Mul.c2x o) (r2_Big_Mul.c2n o) (r2_Big_Mul.c2q a0 a1 v1 o)
  | 0,_,_,_=>fun _ h=>nomatch h
  | n+1,v4,v5,v6=>Owp.of (r2_Big_Mul.c2.eq_2 ..) (
   Owp.bif (fun e7 =>
   Owp.req fun h8 =>
   Owp.req fun h9 =>
   Owp.req fun h10 =>
   fun y hy=>loop_back (r2_Big_Mul.cok k) hmix 4 (r2_Big_Mul.c2p a0 a1 v1 (ishr .u64 (iadd .u64 v4 (iadd .u64 (imul .u64 (icv .u64 (el (0:Int) a0 v1)) (icv .u64 (el (0:Int) a1 v5))) (icv .u64 (el (0:Int) v6 (iadd .i64 v1 v5))))) (16:Int)) (iadd .i64 v5 (1:Int)) (st v6 (iadd .i64 v1 v5) (icv .u32 (ibits .and .u64 (iadd .u64 v4 (iadd .u64 (imul .u64 (icv .u64 (el (0:Int) a0 v1)) (icv .u64 (el (0:Int) a1 v5))) (icv .u64 (el (0:Int) v6 (iadd .i64 v1 v5))))) (65535:Int))))) [tT] [] [(0,0),(1,1),(2,2),(3,3)] (via (finP (aI (aI (aI (aI (aI (aI (aI (aI (aI (aI trivial e7) h8) h8) h9) h9) h10) h10) (by decide:ng (16:Int))) h10) h10) .normal [(0,0),(1,1),(2,2),(3,3)] (r2_Big_Mul.c2p a0 a1 v1 (ishr .u64 (iadd .u64 v4 (iadd .u64 (imul .u64 (icv .u64 (el (0:Int) a0 v1)) (icv .u64 (el (0:Int) a1 v5))) (icv .u64 (el (0:Int) v6 (iadd .i64 v1 v5))))) (16:Int)) (iadd .i64 v5 (1:Int)) (st v6 (iadd .i64 v1 v5) (icv .u32 (ibits .and .u64 (iadd .u64 v4 (iadd .u64 (imul .u64 (icv .u64 (el (0:Int) a0 v1)) (icv .u64 (el (0:Int) a1 v5))) (icv .u64 (el (0:Int) v6 (iadd .i64 v1 v5))))) (65535:Int)))))) (by kernel_rfl)) ((r2_Big_Mul.c2_ok k a0 a1 v1 n (ishr .u64 (iadd .u64 v4 (iadd .u64 (imul .u64 (icv .u64 (el (0:Int) a0 v1)) (icv .u64 (el (0:Int) a1 v5))) (icv .u64 (el (0:Int) v6 (iadd .i64 v1 v5))))) (16:Int)) (iadd .i64 v5 (1:Int)) (st v6 (iadd .i64 v1 v5) (icv .u32 (ibits .and .u64 (iadd .u64 v4 (iadd .u64 (imul .u64 (icv .u64 (el (0:Int) a0 v1)) (icv .u64 (el (0:Int) a1 v5))) (icv .u64 (el (0:Int) v6 (iadd .i64 v1 v5))))) (65535:Int))))).ap hy)) (fun e7 =>
   Owp.some (loop_exit (r2_Big_Mul.cok k) hmix [fF] [] [(0,0),(1,1),(2,2),(3,3)] (exne 2) (via (finP (aI trivial e7) (.exit 2) [(0,0),(1,1),(2,2),(3,3)] (r2_Big_Mul.c2q a0 a1 v1 v6)) (by kernel_rfl)))))
noncomputable def r2_Big_Mul.c1p (a0 a1:(List Int)) (v1:Int) (v2:(List Int)):SL:=⟨[(2,(.val .ptr ⟨0,0,(0:Int),0,0⟩)),(3,(.val .ptr ⟨1,0,(0:Int),0,0⟩)),(4,(.val .ptr ⟨2,0,(0:Int),0,0⟩)),(5,(.val .ptr ⟨3,0,(0:Int),0,0⟩)),(9,(.val T2 v1))],[(0,.cells T72 a0),(1,.cells T72 a1),(2,.cells T72 (List.replicate 8 (0:Int))),(3,.cells T72 v2)]⟩
noncomputable def r2_Big_Mul.c1q (o:(List Int)):SL:=(fun v=>⟨[(4,(.val .ptr ⟨0,0,(0:Int),0,0⟩)),(5,(.val .ptr ⟨1,0,(0:Int),0,0⟩))],[(0,.cells T72 (List.replicate 8 (0:Int))),(1,.cells T72 v)]⟩) o
noncomputable def r2_Big_Mul.c1x (o:(List Int)):Ex:=(fun _=>(.exit 0)) o
noncomputable def r2_Big_Mul.c1n (o:(List Int)):Nat:=(fun _=>2) o
theorem r2_Big_Mul.c1_ok (k:Nat) (a0 a1:(List Int)):∀ (n:Nat) (v1:Int) (v2:(List Int)),Owp (r2_Big_Mul.c1 k a0 a1 n v1 v2) fun o=>LTriple PR (r2_Big_Mul.cx k) (sub r2_Big_Mul.code [1,1,0,1,0,0]) 4 (r2_Big_Mul.c1p a0 a1 v1 v2) (r2_Big_Mul.c1x o) (r2_Big_Mul.c1n o) (r2_Big_Mul.c1q o)
  | 0,_,_=>fun _ h=>nomatch h
  | n+1,v1,v2=>Owp.of (r2_Big_Mul.c1.eq_2 ..) (
   Owp.bif (fun e3 =>
   Owp.bnd fun o11 e12 =>
   fun y hy=>loop_back (r2_Big_Mul.cok k) hmix 4 (r2_Big_Mul.c1p a0 a1 (iadd .i64 v1 (1:Int)) o11) [tT,.cut ⟨[],[(0,0),(1,1),(2,2),(3,3)],(r2_Big_Mul.c2p a0 a1 v1 (0:Int) (0:Int) v2),4,(.exit 2),(r2_Big_Mul.c2q a0 a1 v1 o11),4⟩] [] [(0,0),(1,1),(2,2),(3,3)] (via (cutP (aI trivial e3) [(0,0),(1,1),(2,2),(3,3)] (r2_Big_Mul.c2p a0 a1 v1 (0:Int) (0:Int) v2) (((r2_Big_Mul.c2_ok k a0 a1 v1 k (0:Int) (0:Int) v2).ap e12).triple) (finP trivial .normal [(0,0),(1,1),(2,2),(3,3)] (r2_Big_Mul.c1p a0 a1 (iadd .i64 v1 (1:Int)) o11))) (by kernel_rfl)) ((r2_Big_Mul.c1_ok k a0 a1 n (iadd .i64 v1 (1:Int)) o11).ap hy)) (fun e3 =>
   Owp.some (loop_exit (r2_Big_Mul.cok k) hmix [fF] [] [(0,2),(1,3)] (exne 0) (via (finP (aI trivial e3) (.exit 0) [(0,2),(1,3)] (r2_Big_Mul.c1q v2)) (by kernel_rfl)))))
theorem r2_Big_Mul.way (k:Nat) (a0 a1:(List Int)):Owp (r2_Big_Mul k a0 a1) fun y=>∃ w c0,exec PR (r2_Big_Mul.cx k) r2_Big_Mul.code 0 (entry (.pair T72 (.pair T72 .unit)) (a0,a1,())).st w (Ret (r2_Big_Mul.cx k) Tryz.f90 c0 (.one (.dp T72)) y):=by
  unfold r2_Big_Mul; exact
   Owp.bnd fun o13 e14 =>
   Owp.some (⟨[.cut ⟨[],[(0,0),(1,1),(2,2),(3,3)],(r2_Big_Mul.c1p a0 a1 (0:Int) (List.replicate 8 (0:Int))),4,(.exit 0),(r2_Big_Mul.c1q o13),2⟩],[],via (cutP trivial [(0,0),(1,1),(2,2),(3,3)] (r2_Big_Mul.c1p a0 a1 (0:Int) (List.replicate 8 (0:Int))) (((r2_Big_Mul.c1_ok k a0 a1 k (0:Int) (List.replicate 8 (0:Int))).ap e14).triple) (retP trivial (.one (.dp T72)) (o13:(List Int)))) (by kernel_rfl)⟩)
theorem r2_Big_Mul.ok (k:Nat):FnOk PR 90 (r2_Big_Mul.sp k) :=
  fn_ok (r2_Big_Mul.cok k) hmix Tryz.func90 (code:=r2_Big_Mul.code) (by kernel_rfl) (by kernel_rfl) (by kernel_rfl) rfl (by kernel_rfl) (by kernel_rfl) (by kernel_rfl) (fun x=>Nat.le_of_ble_eq_true (by kernel_rfl)) fun x y hy=>(r2_Big_Mul.way k x.1 x.2.1).ap hy
noncomputable def r2_Of.code:Code:=Func.cd Tryz.f53
def r2_Of.c1 (k:Nat) (a0:Int):Nat → Int → (List Int) → Option ((List Int))
  | 0,_,_=>none
  | n+1,v1,v2 =>
   bif' (ilt v1 8)
   (bif' (ilt v1 4)
   (req (ng (imul .i64 16 v1)) <|
   req (inR v1 8) <|
   r2_Of.c1 k a0 n (iadd .i64 v1 1) (st v2 v1 (icv .u32 (ibits .and .u64 (ishr .u64 (icv .u64 a0) (imul .i64 16 v1)) 65535))))
   (bif' (ilt a0 0)
   (req (inR v1 8) <|
   r2_Of.c1 k a0 n (iadd .i64 v1 1) (st v2 v1 65535))
   (r2_Of.c1 k a0 n (iadd .i64 v1 1) v2)))
   (some v2)
def r2_Of (k:Nat) (a0:Int):Option (List Int) :=
  bnd (r2_Of.c1 k a0 k 0 (List.replicate 8 0)) fun o9 =>
  some o9
noncomputable def r2_Of.sp (k:Nat):Go.Sx.Spec:=⟨(.pair T2 .unit),(.one (.dp T72)),fun x=>r2_Of k x.1,false⟩
noncomputable def r2_Of.cx (k:Nat):Go.Sx.Ctx:=⟨tys,[],eqs,27,false⟩
theorem r2_Of.cok (k:Nat):CtxOk PR (r2_Of.cx k):=ctx_ok tysOk eqsOk FnsOk.nil
noncomputable def r2_Of.c1p (a0 v1:Int) (v2:(List Int)):SL:=⟨[(0,(.val T2 a0)),(2,(.val .ptr ⟨0,0,(0:Int),0,0⟩)),(3,(.val .ptr ⟨1,0,(0:Int),0,0⟩)),(4,(.val T12 (icv .u64 a0))),(8,(.val T2 v1))],[(0,.cells T72 (List.replicate 8 (0:Int))),(1,.cells T72 v2)]⟩
noncomputable def r2_Of.c1q (o:(List Int)):SL:=(fun v=>⟨[(2,(.val .ptr ⟨0,0,(0:Int),0,0⟩)),(3,(.val .ptr ⟨1,0,(0:Int),0,0⟩))],[(0,.cells T72 (List.replicate 8 (0:Int))),(1,.cells T72 v)]⟩) o
noncomputable def r2_Of.c1x (o:(List Int)):Ex:=(fun _=>(.exit 0)) o
noncomputable def r2_Of.c1n (o:(List Int)):Nat:=(fun _=>2) o
theorem r2_Of.c1_ok (k:Nat) (a0:Int):∀ (n:Nat) (v1:Int) (v2:(List Int)),Owp (r2_Of.c1 k a0 n v1 v2) fun o=>LTriple PR (r2_Of.cx k) (sub r2_Of.code [1,1,1,0,1,0,0]) 2 (r2_Of.c1p a0 v1 v2) (r2_Of.c1x o) (r2_Of.c1n o) (r2_Of.c1q o)
  | 0,_,_=>fun _ h=>nomatch h
  | n+1,v1,v2=>Owp.of (r2_Of.c1.eq_2 ..) (
   Owp.bif (fun e3 =>
   Owp.bif (fun e4 =>
   Owp.req fun h5 =>
   Owp.req fun h6 =>
   fun y hy=>loop_back (r2_Of.cok k) hmix 2 (r2_Of.c1p a0 (iadd .i64 v1 (1:Int)) (st v2 v1 (icv .u32 (ibits .and .u64 (ishr .u64 (icv .u64 a0) (imul .i64 (16:Int) v1)) (65535:Int))))) [tT,tT] [] [(0,0),(1,1)] (via (finP (aI (aI (aI (aI (aI trivial e3) e4) h5) h6) h6) .normal [(0,0),(1,1)] (r2_Of.c1p a0 (iadd .i64 v1 (1:Int)) (st v2 v1 (icv .u32 (ibits .and .u64 (ishr .u64 (icv .u64 a0) (imul .i64 (16:Int) v1)) (65535:Int)))))) (by kernel_rfl)) ((r2_Of.c1_ok k a0 n (iadd .i64 v1 (1:Int)) (st v2 v1 (icv .u32 (ibits .and .u64 (ishr .u64 (icv .u64 a0) (imul .i64 (16:Int) v1)) (65535:Int))))).ap hy)) (fun e4 =>
   Owp.bif (fun e7 =>
   Owp.req fun h8 =>
   fun y hy=>loop_back (r2_Of.cok k) hmix 2 (r2_Of.c1p a0 (iadd .i64 v1 (1:Int)) (st v2 v1 (65535:Int))) [tT,fF,tT] [] [(0,0),(1,1)] (via (finP (aI (aI (aI (aI (aI trivial e3) e4) e7) h8) h8) .normal [(0,0),(1,1)] (r2_Of.c1p a0 (iadd .i64 v1 (1:Int)) (st v2 v1 (65535:Int)))) (by kernel_rfl)) ((r2_Of.c1_ok k a0 n (iadd .i64 v1 (1:Int)) (st v2 v1 (65535:Int))).ap hy)) (fun e7 =>
   fun y hy=>loop_back (r2_Of.cok k) hmix 2 (r2_Of.c1p a0 (iadd .i64 v1 (1:Int)) v2) [tT,fF,fF] [] [(0,0),(1,1)] (via (finP (aI (aI (aI trivial e3) e4) e7) .normal [(0,0),(1,1)] (r2_Of.c1p a0 (iadd .i64 v1 (1:Int)) v2)) (by kernel_rfl)) ((r2_Of.c1_ok k a0 n (iadd .i64 v1 (1:Int)) v2).ap hy)))) (fun e3 =>
   Owp.some (loop_exit (r2_Of.cok k) hmix [fF] [] [(0,0),(1,1)] (exne 0) (via (finP (aI trivial e3) (.exit 0) [(0,0),(1,1)] (r2_Of.c1q v2)) (by kernel_rfl)))))
theorem r2_Of.way (k:Nat) (a0:Int):Owp (r2_Of k a0) fun y=>∃ w c0,exec PR (r2_Of.cx k) r2_Of.code 0 (entry (.pair T2 .unit) (a0,())).st w (Ret (r2_Of.cx k) Tryz.f53 c0 (.one (.dp T72)) y):=by
  unfold r2_Of; exact
   Owp.bnd fun o9 e10 =>
   Owp.some (⟨[.cut ⟨[],[(0,0),(1,1)],(r2_Of.c1p a0 (0:Int) (List.replicate 8 (0:Int))),2,(.exit 0),(r2_Of.c1q o9),2⟩],[],via (cutP trivial [(0,0),(1,1)] (r2_Of.c1p a0 (0:Int) (List.replicate 8 (0:Int))) (((r2_Of.c1_ok k a0 k (0:Int) (List.replicate 8 (0:Int))).ap e10).triple) (retP trivial (.one (.dp T72)) (o9:(List Int)))) (by kernel_rfl)⟩)
theorem r2_Of.ok (k:Nat):FnOk PR 53 (r2_Of.sp k) :=
  fn_ok (r2_Of.cok k) hmix Tryz.func53 (code:=r2_Of.code) (by kernel_rfl) (by kernel_rfl) (by kernel_rfl) rfl (by kernel_rfl) (by kernel_rfl) (by kernel_rfl) (fun x=>Nat.le_of_ble_eq_true (by kernel_rfl)) fun x y hy=>(r2_Of.way k x.1).ap hy
noncomputable def r2_Big_Add.code:Code:=Func.cd Tryz.f110
def r2_Big_Add.c1 (k:Nat) (a0 a1:(List Int)):Nat → Int → Int → (List Int) → Option ((List Int))
  | 0,_,_,_=>none
  | n+1,v1,v2,v3 =>
   bif' (ilt v2 8)
   (req (inR v2 8) <|
   r2_Big_Add.c1 k a0 a1 n (ishr .u32 (iadd .u32 v1 (iadd .u32 (el 0 a0 v2) (el 0 a1 v2))) 16) (iadd .i64 v2 1) (st v3 v2 (ibits .and .u32 (iadd .u32 v1 (iadd .u32 (el 0 a0 v2) (el 0 a1 v2))) 65535)))
   (some v3)
def r2_Big_Add (k:Nat) (a0 a1:(List Int)):Option (List Int) :=
  bnd (r2_Big_Add.c1 k a0 a1 k 0 0 (List.replicate 8 0)) fun o6 =>
  some o6
noncomputable def r2_Big_Add.sp (k:Nat):Go.Sx.Spec:=⟨(.pair T72 (.pair T72 .unit)),(.one (.dp T72)),fun x=>r2_Big_Add k x.1 x.2.1,false⟩
noncomputable def r2_Big_Add.cx (k:Nat):Go.Sx.Ctx:=⟨tys,[],eqs,28,false⟩
theorem r2_Big_Add.cok (k:Nat):CtxOk PR (r2_Big_Add.cx k):=ctx_ok tysOk eqsOk FnsOk.nil
noncomputable def r2_Big_Add.c1p (a0 a1:(List Int)) (v1 v2:Int) (v3:(List Int)):SL:=⟨[(2,(.val .ptr ⟨0,0,(0:Int),0,0⟩)),(3,(.val .ptr ⟨1,0,(0:Int),0,0⟩)),(4,(.val .ptr ⟨2,0,(0:Int),0,0⟩)),(5,(.val .ptr ⟨3,0,(0:Int),0,0⟩)),(6,(.val T71 v1)),(8,(.val T2 v2))],[(0,.cells T72 a0),(1,.cells T72 a1),(2,.cells T72 (List.replicate 8 (0:Int))),(3,.cells T72 v3)]⟩
noncomputable def r2_Big_Add.c1q (o:(List Int)):SL:=(fun v=>⟨[(4,(.val .ptr ⟨0,0,(0:Int),0,0⟩)),(5,(.val .ptr ⟨1,0,(0:Int),0,0⟩))],[(0,.cells T72 (List.replicate 8 (0:Int))),(1,.cells T72 v)]⟩) o
noncomputable def r2_Big_Add.c1x (o:(List Int)):Ex:=(fun _=>(.exit 0)) o
noncomputable def r2_Big_Add.c1n (o:(List Int)):Nat:=(fun _=>2) o
theorem r2_Big_Add.c1_ok (k:Nat) (a0 a1:(List Int)):∀ (n:Nat) (v1 v2:Int) (v3:(List Int)),Owp (r2_Big_Add.c1 k a0 a1 n v1 v2 v3) fun o=>LTriple PR (r2_Big_Add.cx k) (sub r2_Big_Add.code [1,1,1,0,1,0,0]) 4 (r2_Big_Add.c1p a0 a1 v1 v2 v3) (r2_Big_Add.c1x o) (r2_Big_Add.c1n o) (r2_Big_Add.c1q o)
  | 0,_,_,_=>fun _ h=>nomatch h
  | n+1,v1,v2,v3=>Owp.of (r2_Big_Add.c1.eq_2 ..) (
   Owp.bif (fun e4 =>
   Owp.req fun h5 =>
   fun y hy=>loop_back (r2_Big_Add.cok k) hmix 4 (r2_Big_Add.c1p a0 a1 (ishr .u32 (iadd .u32 v1 (iadd .u32 (el (0:Int) a0 v2) (el (0:Int) a1 v2))) (16:Int)) (iadd .i64 v2 (1:Int)) (st v3 v2 (ibits .and .u32 (iadd .u32 v1 (iadd .u32 (el (0:Int) a0 v2) (el (0:Int) a1 v2))) (65535:Int)))) [tT] [] [(0,0),(1,1),(2,2),(3,3)] (via (finP (aI (aI (aI (aI (aI (aI (aI (aI trivial e4) h5) h5) h5) h5) (by decide:ng (16:Int))) h5) h5) .normal [(0,0),(1,1),(2,2),(3,3)] (r2_Big_Add.c1p a0 a1 (ishr .u32 (iadd .u32 v1 (iadd .u32 (el (0:Int) a0 v2) (el (0:Int) a1 v2))) (16:Int)) (iadd .i64 v2 (1:Int)) (st v3 v2 (ibits .and .u32 (iadd .u32 v1 (iadd .u32 (el (0:Int) a0 v2) (el (0:Int) a1 v2))) (65535:Int))))) (by kernel_rfl)) ((r2_Big_Add.c1_ok k a0 a1 n (ishr .u32 (iadd .u32 v1 (iadd .u32 (el (0:Int) a0 v2) (el (0:Int) a1 v2))) (16:Int)) (iadd .i64 v2 (1:Int)) (st v3 v2 (ibits .and .u32 (iadd .u32 v1 (iadd .u32 (el (0:Int) a0 v2) (el (0:Int) a1 v2))) (65535:Int)))).ap hy)) (fun e4 =>
   Owp.some (loop_exit (r2_Big_Add.cok k) hmix [fF] [] [(0,2),(1,3)] (exne 0) (via (finP (aI trivial e4) (.exit 0) [(0,2),(1,3)] (r2_Big_Add.c1q v3)) (by kernel_rfl)))))
theorem r2_Big_Add.way (k:Nat) (a0 a1:(List Int)):Owp (r2_Big_Add k a0 a1) fun y=>∃ w c0,exec PR (r2_Big_Add.cx k) r2_Big_Add.code 0 (entry (.pair T72 (.pair T72 .unit)) (a0,a1,())).st w (Ret (r2_Big_Add.cx k) Tryz.f110 c0 (.one (.dp T72)) y):=by
  unfold r2_Big_Add; exact
   Owp.bnd fun o6 e7 =>
   Owp.some (⟨[.cut ⟨[],[(0,0),(1,1),(2,2),(3,3)],(r2_Big_Add.c1p a0 a1 (0:Int) (0:Int) (List.replicate 8 (0:Int))),4,(.exit 0),(r2_Big_Add.c1q o6),2⟩],[],via (cutP trivial [(0,0),(1,1),(2,2),(3,3)] (r2_Big_Add.c1p a0 a1 (0:Int) (0:Int) (List.replicate 8 (0:Int))) (((r2_Big_Add.c1_ok k a0 a1 k (0:Int) (0:Int) (List.replicate 8 (0:Int))).ap e7).triple) (retP trivial (.one (.dp T72)) (o6:(List Int)))) (by kernel_rfl)⟩)
theorem r2_Big_Add.ok (k:Nat):FnOk PR 110 (r2_Big_Add.sp k) :=
  fn_ok (r2_Big_Add.cok k) hmix Tryz.func110 (code:=r2_Big_Add.code) (by kernel_rfl) (by kernel_rfl) (by kernel_rfl) rfl (by kernel_rfl) (by kernel_rfl) (by kernel_rfl) (fun x=>Nat.le_of_ble_eq_true (by kernel_rfl)) fun x y hy=>(r2_Big_Add.way k x.1 x.2.1).ap hy
noncomputable def r2_Big_Neg.code:Code:=Func.cd Tryz.f111
def r2_Big_Neg.c1 (k:Nat):Nat → Int → (List Int) → Option ((List Int))
  | 0,_,_=>none
  | n+1,v1,v2 =>
   bif' (ilt v1 8)
   (req (inR v1 8) <|
   r2_Big_Neg.c1 k n (iadd .i64 v1 1) (st v2 v1 (ibits .xor .u32 (el 0 v2 v1) 65535)))
   (some v2)
def r2_Big_Neg (k:Nat) (a0:(List Int)):Option (List Int) :=
  bnd (r2_Big_Neg.c1 k k 0 a0) fun o5 =>
  bnd (r2_Of k 1) fun y7 =>
  bnd (r2_Big_Add k o5 y7) fun y9 =>
  some y9
noncomputable def r2_Big_Neg.sp (k:Nat):Go.Sx.Spec:=⟨(.pair T72 .unit),(.one (.dp T72)),fun x=>r2_Big_Neg k x.1,false⟩
noncomputable def r2_Big_Neg.cx (k:Nat):Go.Sx.Ctx:=⟨tys,[(53,r2_Of.sp k),(110,r2_Big_Add.sp k)],eqs,16,false⟩
theorem r2_Big_Neg.cok (k:Nat):CtxOk PR (r2_Big_Neg.cx k):=ctx_ok tysOk eqsOk (FnsOk.cons (r2_Of.ok k) (FnsOk.cons (r2_Big_Add.ok k) FnsOk.nil))
noncomputable def r2_Big_Neg.c1p (v1:Int) (v2:(List Int)):SL:=⟨[(1,(.val .ptr ⟨0,0,(0:Int),0,0⟩)),(2,(.val .ptr ⟨1,0,(0:Int),0,0⟩)),(4,(.val T2 v1))],[(0,.cells T72 v2),(1,.cells T72 (List.replicate 8 (0:Int)))]⟩
noncomputable def r2_Big_Neg.c1q (o:(List Int)):SL:=(fun v=>⟨[(1,(.val .ptr ⟨0,0,(0:Int),0,0⟩)),(2,(.val .ptr ⟨1,0,(0:Int),0,0⟩))],[(0,.cells T72 v),(1,.cells T72 (List.replicate 8 (0:Int)))]⟩) o
noncomputable def r2_Big_Neg.c1x (o:(List Int)):Ex:=(fun _=>(.exit 0)) o
noncomputable def r2_Big_Neg.c1n (o:(List Int)):Nat:=(fun _=>2) o
theorem r2_Big_Neg.c1_ok (k:Nat):∀ (n:Nat) (v1:Int) (v2:(List Int)),Owp (r2_Big_Neg.c1 k n v1 v2) fun o=>LTriple PR (r2_Big_Neg.cx k) (sub r2_Big_Neg.code [1,0,1,0,0]) 2 (r2_Big_Neg.c1p v1 v2) (r2_Big_Neg.c1x o) (r2_Big_Neg.c1n o) (r2_Big_Neg.c1q o)
  | 0,_,_=>fun _ h=>nomatch h
  | n+1,v1,v2=>Owp.of (r2_Big_Neg.c1.eq_2 ..) (
   Owp.bif (fun e3 =>
   Owp.req fun h4 =>
   fun y hy=>loop_back (r2_Big_Neg.cok k) hmix 2 (r2_Big_Neg.c1p (iadd .i64 v1 (1:Int)) (st v2 v1 (ibits .xor .u32 (el (0:Int) v2 v1) (65535:Int)))) [tT] [] [(0,0),(1,1)] (via (finP (aI (aI (aI (aI (aI trivial e3) h4) h4) h4) h4) .normal [(0,0),(1,1)] (r2_Big_Neg.c1p (iadd .i64 v1 (1:Int)) (st v2 v1 (ibits .xor .u32 (el (0:Int) v2 v1) (65535:Int))))) (by kernel_rfl)) ((r2_Big_Neg.c1_ok k n (iadd .i64 v1 (1:Int)) (st v2 v1 (ibits .xor .u32 (el (0:Int) v2 v1) (65535:Int)))).ap hy)) (fun e3 =>
   Owp.some (loop_exit (r2_Big_Neg.cok k) hmix [fF] [] [(0,0),(1,1)] (exne 0) (via (finP (aI trivial e3) (.exit 0) [(0,0),(1,1)] (r2_Big_Neg.c1q v2)) (by kernel_rfl)))))
theorem r2_Big_Neg.way (k:Nat) (a0:(List Int)):Owp (r2_Big_Neg k a0) fun y=>∃ w c0,exec PR (r2_Big_Neg.cx k) r2_Big_Neg.code 0 (entry (.pair T72 .unit) (a0,())).st w (Ret (r2_Big_Neg.cx k) Tryz.f111 c0 (.one (.dp T72)) y):=by
  unfold r2_Big_Neg; exact
   Owp.bnd fun o5 e6 =>
   Owp.bnd fun y7 e8 =>
   Owp.bnd fun y9 e10 =>
   Owp.some (⟨[.cut ⟨[],[(0,0),(1,1)],(r2_Big_Neg.c1p (0:Int) a0),2,(.exit 0),(r2_Big_Neg.c1q o5),2⟩,rS T72 y7,rS T72 y9],[],via (cutP trivial [(0,0),(1,1)] (r2_Big_Neg.c1p (0:Int) a0) (((r2_Big_Neg.c1_ok k k (0:Int) a0).ap e6).triple) (retP (aI (aI trivial e8) e10) (.one (.dp T72)) (y9:(List Int)))) (by kernel_rfl)⟩)
theorem r2_Big_Neg.ok (k:Nat):FnOk PR 111 (r2_Big_Neg.sp k) :=
  fn_ok (r2_Big_Neg.cok k) hmix Tryz.func111 (code:=r2_Big_Neg.code) (by kernel_rfl) (by kernel_rfl) (by kernel_rfl) rfl (by kernel_rfl) (by kernel_rfl) (by kernel_rfl) (fun x=>Nat.le_of_ble_eq_true (by kernel_rfl)) fun x y hy=>(r2_Big_Neg.way k x.1).ap hy
noncomputable def r2_Big_Sub.code:Code:=Func.cd Tryz.f91
def r2_Big_Sub (k:Nat) (a0 a1:(List Int)):Option (List Int) :=
  bnd (r2_Big_Neg k a1) fun y1 =>
  bnd (r2_Big_Add k a0 y1) fun y3 =>
  some y3
noncomputable def r2_Big_Sub.sp (k:Nat):Go.Sx.Spec:=⟨(.pair T72 (.pair T72 .unit)),(.one (.dp T72)),fun x=>r2_Big_Sub k x.1 x.2.1,false⟩
noncomputable def r2_Big_Sub.cx (k:Nat):Go.Sx.Ctx:=⟨tys,[(111,r2_Big_Neg.sp k),(110,r2_Big_Add.sp k)],eqs,9,false⟩
theorem r2_Big_Sub.cok (k:Nat):CtxOk PR (r2_Big_Sub.cx k):=ctx_ok tysOk eqsOk (FnsOk.cons (r2_Big_Neg.ok k) (FnsOk.cons (r2_Big_Add.ok k) FnsOk.nil))
theorem r2_Big_Sub.way (k:Nat) (a0 a1:(List Int)):Owp (r2_Big_Sub k a0 a1) fun y=>∃ w c0,exec PR (r2_Big_Sub.cx k) r2_Big_Sub.code 0 (entry (.pair T72 (.pair T72 .unit)) (a0,a1,())).st w (Ret (r2_Big_Sub.cx k) Tryz.f91 c0 (.one (.dp T72)) y):=by
  unfold r2_Big_Sub; exact
   Owp.bnd fun y1 e2 =>
   Owp.bnd fun y3 e4 =>
   Owp.some (⟨[rS T72 y1,rS T72 y3],[],via (retP (aI (aI trivial e2) e4) (.one (.dp T72)) (y3:(List Int))) (by kernel_rfl)⟩)
theorem r2_Big_Sub.ok (k:Nat):FnOk PR 91 (r2_Big_Sub.sp k) :=
  fn_ok (r2_Big_Sub.cok k) hmix Tryz.func91 (code:=r2_Big_Sub.code) (by kernel_rfl) (by kernel_rfl) (by kernel_rfl) rfl (by kernel_rfl) (by kernel_rfl) (by kernel_rfl) (fun x=>Nat.le_of_ble_eq_true (by kernel_rfl)) fun x y hy=>(r2_Big_Sub.way k x.1 x.2.1).ap hy
noncomputable def r2_Big_twice.code:Code:=Func.cd Tryz.f112
def r2_Big_twice (k:Nat) (a0:(List Int)):Option (List Int) :=
  bnd (r2_Big_Add k a0 a0) fun y1 =>
  some y1
noncomputable def r2_Big_twice.sp (k:Nat):Go.Sx.Spec:=⟨(.pair T72 .unit),(.one (.dp T72)),fun x=>r2_Big_twice k x.1,false⟩
noncomputable def r2_Big_twice.cx (k:Nat):Go.Sx.Ctx:=⟨tys,[(110,r2_Big_Add.sp k)],eqs,6,false⟩
theorem r2_Big_twice.cok (k:Nat):CtxOk PR (r2_Big_twice.cx k):=ctx_ok tysOk eqsOk (FnsOk.cons (r2_Big_Add.ok k) FnsOk.nil)
theorem r2_Big_twice.way (k:Nat) (a0:(List Int)):Owp (r2_Big_twice k a0) fun y=>∃ w c0,exec PR (r2_Big_twice.cx k) r2_Big_twice.code 0 (entry (.pair T72 .unit) (a0,())).st w (Ret (r2_Big_twice.cx k) Tryz.f112 c0 (.one (.dp T72)) y):=by
  unfold r2_Big_twice; exact
   Owp.bnd fun y1 e2 =>
   Owp.some (⟨[rS T72 y1],[],via (retP (aI trivial e2) (.one (.dp T72)) (y1:(List Int))) (by kernel_rfl)⟩)
theorem r2_Big_twice.ok (k:Nat):FnOk PR 112 (r2_Big_twice.sp k) :=
  fn_ok (r2_Big_twice.cok k) hmix Tryz.func112 (code:=r2_Big_twice.code) (by kernel_rfl) (by kernel_rfl) (by kernel_rfl) rfl (by kernel_rfl) (by kernel_rfl) (by kernel_rfl) (fun x=>Nat.le_of_ble_eq_true (by kernel_rfl)) fun x y hy=>(r2_Big_twice.way k x.1).ap hy
noncomputable def r2_Big_Wide.code:Code:=Func.cd Tryz.f118
def r2_Big_Wide.c1 (k:Nat) (a0:(List Int)):Nat → Int → Int → Int → Option ((Int × Int))
  | 0,_,_,_=>none
  | n+1,v1,v2,v3 =>
   bif' (ilt v3 4)
   (req (inR v3 8) <|
   req (ng (imul .i64 16 v3)) <|
   req (inR (iadd .i64 4 v3) 8) <|
   r2_Big_Wide.c1 k a0 n (ibits .or .u64 v1 (ishl .u64 (icv .u64 (el 0 a0 v3)) (imul .i64 16 v3))) (ibits .or .u64 v2 (ishl .u64 (icv .u64 (el 0 a0 (iadd .i64 4 v3))) (imul .i64 16 v3))) (iadd .i64 v3 1))
   (some (v1,v2))
def r2_Big_Wide (k:Nat) (a0:(List Int)):Option V99 :=
  bnd (r2_Big_Wide.c1 k a0 k 0 0 0) fun o8 =>
  some ((icv .i64 o8.2),o8.1,())
noncomputable def r2_Big_Wide.sp (k:Nat):Go.Sx.Spec:=⟨(.pair T72 .unit),(.one (.dp T99)),fun x=>r2_Big_Wide k x.1,false⟩
noncomputable def r2_Big_Wide.cx (k:Nat):Go.Sx.Ctx:=⟨tys,[],eqs,33,false⟩
theorem r2_Big_Wide.cok (k:Nat):CtxOk PR (r2_Big_Wide.cx k):=ctx_ok tysOk eqsOk FnsOk.nil
noncomputable def r2_Big_Wide.c1p (a0:(List Int)) (v1 v2 v3:Int):SL:=⟨[(1,(.val .ptr ⟨0,0,(0:Int),0,0⟩)),(2,(.val .ptr ⟨1,0,(0:Int),0,0⟩)),(3,(.val T12 v1)),(4,(.val T12 v2)),(6,(.val T2 v3))],[(0,.cells T72 a0),(1,.cells T99 ((0:Int),(0:Int),()))]⟩
noncomputable def r2_Big_Wide.c1q (o:(Int × Int)):SL:=(fun v=>⟨[(2,(.val .ptr ⟨0,0,(0:Int),0,0⟩)),(3,(.val T12 v.1)),(4,(.val T12 v.2))],[(0,.cells T99 ((0:Int),(0:Int),()))]⟩) o
noncomputable def r2_Big_Wide.c1x (o:(Int × Int)):Ex:=(fun _=>(.exit 0)) o
noncomputable def r2_Big_Wide.c1n (o:(Int × Int)):Nat:=(fun _=>1) o
theorem r2_Big_Wide.c1_ok (k:Nat) (a0:(List Int)):∀ (n:Nat) (v1 v2 v3:Int),Owp (r2_Big_Wide.c1 k a0 n v1 v2 v3) fun o=>LTriple PR (r2_Big_Wide.cx k) (sub r2_Big_Wide.code [1,1,0,1,0,0]) 2 (r2_Big_Wide.c1p a0 v1 v2 v3) (r2_Big_Wide.c1x o) (r2_Big_Wide.c1n o) (r2_Big_Wide.c1q o)
  | 0,_,_,_=>fun _ h=>nomatch h
  | n+1,v1,v2,v3=>Owp.of (r2_Big_Wide.c1.eq_2 ..) (
   Owp.bif (fun e4 =>
   Owp.req fun h5 =>
   Owp.req fun h6 =>
   Owp.req fun h7 =>
   fun y hy=>loop_back (r2_Big_Wide.cok k) hmix 2 (r2_Big_Wide.c1p a0 (ibits .or .u64 v1 (ishl .u64 (icv .u64 (el (0:Int) a0 v3)) (imul .i64 (16:Int) v3))) (ibits .or .u64 v2 (ishl .u64 (icv .u64 (el (0:Int) a0 (iadd .i64 (4:Int) v3))) (imul .i64 (16:Int) v3))) (iadd .i64 v3 (1:Int))) [tT] [] [(0,0),(1,1)] (via (finP (aI (aI (aI (aI (aI (aI (aI trivial e4) h5) h5) h6) h7) h7) h6) .normal [(0,0),(1,1)] (r2_Big_Wide.c1p a0 (ibits .or .u64 v1 (ishl .u64 (icv .u64 (el (0:Int) a0 v3)) (imul .i64 (16:Int) v3))) (ibits .or .u64 v2 (ishl .u64 (icv .u64 (el (0:Int) a0 (iadd .i64 (4:Int) v3))) (imul .i64 (16:Int) v3))) (iadd .i64 v3 (1:Int)))) (by kernel_rfl)) ((r2_Big_Wide.c1_ok k a0 n (ibits .or .u64 v1 (ishl .u64 (icv .u64 (el (0:Int) a0 v3)) (imul .i64 (16:Int) v3))) (ibits .or .u64 v2 (ishl .u64 (icv .u64 (el (0:Int) a0 (iadd .i64 (4:Int) v3))) (imul .i64 (16:Int) v3))) (iadd .i64 v3 (1:Int))).ap hy)) (fun e4 =>
   Owp.some (loop_exit (r2_Big_Wide.cok k) hmix [fF] [] [(0,1)] (exne 0) (via (finP (aI trivial e4) (.exit 0) [(0,1)] (r2_Big_Wide.c1q (v1,v2))) (by kernel_rfl)))))
theorem r2_Big_Wide.way (k:Nat) (a0:(List Int)):Owp (r2_Big_Wide k a0) fun y=>∃ w c0,exec PR (r2_Big_Wide.cx k) r2_Big_Wide.code 0 (entry (.pair T72 .unit) (a0,())).st w (Ret (r2_Big_Wide.cx k) Tryz.f118 c0 (.one (.dp T99)) y):=by
  unfold r2_Big_Wide; exact
   Owp.bnd fun o8 e9 =>
   Owp.some (⟨[.cut ⟨[],[(0,0),(1,1)],(r2_Big_Wide.c1p a0 (0:Int) (0:Int) (0:Int)),2,(.exit 0),(r2_Big_Wide.c1q o8),1⟩],[],via (cutP trivial [(0,0),(1,1)] (r2_Big_Wide.c1p a0 (0:Int) (0:Int) (0:Int)) (((r2_Big_Wide.c1_ok k a0 k (0:Int) (0:Int) (0:Int)).ap e9).triple) (retP trivial (.one (.dp T99)) (((icv .i64 o8.2),o8.1,()):V99))) (by kernel_rfl)⟩)
theorem r2_Big_Wide.ok (k:Nat):FnOk PR 118 (r2_Big_Wide.sp k) :=
  fn_ok (r2_Big_Wide.cok k) hmix Tryz.func118 (code:=r2_Big_Wide.code) (by kernel_rfl) (by kernel_rfl) (by kernel_rfl) rfl (by kernel_rfl) (by kernel_rfl) (by kernel_rfl) (fun x=>Nat.le_of_ble_eq_true (by kernel_rfl)) fun x y hy=>(r2_Big_Wide.way k x.1).ap hy
noncomputable def r2_Big_Floor.code:Code:=Func.cd Tryz.f113
def r2_Big_Floor.c1 (k:Nat) (a0:(List Int)) (y1:Bool):Option ((List Int)) :=
  bif' y1
  (bnd (r2_Big_Neg k a0) fun y4 =>
   bnd (r2_Of k 1) fun y6 =>
   bnd (r2_Big_Sub k y4 y6) fun y8 =>
   some y8)
  (some a0)
def r2_Big_Floor.c3 (k:Nat) (o10:(List Int)) (v14:Int) (y12 y18 y20:(List Int)) (y24:Int):Option (((List Int) × (List Int))) :=
  bif' (ige y24 0)
  (bnd (r2_Big_Sub k (st y18 0 (ibits .or .u32 (el 0 y18 0) (ibits .and .u32 (ishr .u32 (el 0 o10 (iquo .i64 v14 16)) (irem v14 16)) 1))) y12) fun y27 =>
   bnd (r2_Of k 1) fun y29 =>
   bnd (r2_Big_Add k y20 y29) fun y31 =>
   some (y31,y27))
  (some (y20,(st y18 0 (ibits .or .u32 (el 0 y18 0) (ibits .and .u32 (ishr .u32 (el 0 o10 (iquo .i64 v14 16)) (irem v14 16)) 1)))))
def r2_Big_Floor.c2 (k:Nat) (o10 y12:(List Int)):Nat → Int → (List Int) → (List Int) → Option ((List Int))
  | 0,_,_,_=>none
  | n+1,v14,v15,v16 =>
   bif' (ige v14 0)
   (bnd (r2_Big_twice k v16) fun y18 =>
   bnd (r2_Big_twice k v15) fun y20 =>
   req (inR (iquo .i64 v14 16) 8) <|
   req (ng (irem v14 16)) <|
   bnd (r2_Big_Cmp k (st y18 0 (ibits .or .u32 (el 0 y18 0) (ibits .and .u32 (ishr .u32 (el 0 o10 (iquo .i64 v14 16)) (irem v14 16)) 1))) y12) fun y24 =>
   bnd (r2_Big_Floor.c3 k o10 v14 y12 y18 y20 y24) fun o33 =>
   r2_Big_Floor.c2 k o10 y12 n (isub .i64 v14 1) o33.1 o33.2)
   (some v15)
def r2_Big_Floor (k:Nat) (a0:(List Int)) (a1:Int):Option (Int × Bool) :=
  bnd (r2_Big_Below k a0) fun y1 =>
  bnd (r2_Big_Floor.c1 k a0 y1) fun o10 =>
  bnd (r2_Of k a1) fun y12 =>
  bnd (r2_Big_Floor.c2 k o10 y12 k 127 (List.replicate 8 0) (List.replicate 8 0)) fun o35 =>
  bnd (r2_Of k 4611686018427387904) fun y37 =>
  bnd (r2_Big_twice k y37) fun y39 =>
  bnd (r2_Big_Cmp k o35 y39) fun y41 =>
  bif' (ige y41 0)
  (some (0,false))
  (bnd (r2_Big_Wide k o35) fun y44 =>
   bif' y1
   (some ((isub .i64 (ineg .i64 (icv .i64 y44.2.1)) 1),true))
   (some ((icv .i64 y44.2.1),true)))
noncomputable def r2_Big_Floor.sp (k:Nat):Go.Sx.Spec:=⟨(.pair T72 (.pair T2 .unit)),(.more (.dp T2) (.one (.dp T4))),fun x=>r2_Big_Floor k x.1 x.2.1,false⟩
noncomputable def r2_Big_Floor.cx (k:Nat):Go.Sx.Ctx:=⟨tys,[(92,r2_Big_Below.sp k),(111,r2_Big_Neg.sp k),(53,r2_Of.sp k),(91,r2_Big_Sub.sp k),(112,r2_Big_twice.sp k),(52,r2_Big_Cmp.sp k),(110,r2_Big_Add.sp k),(118,r2_Big_Wide.sp k)],eqs,65,false⟩
theorem r2_Big_Floor.cok (k:Nat):CtxOk PR (r2_Big_Floor.cx k):=ctx_ok tysOk eqsOk (FnsOk.cons (r2_Big_Below.ok k) (FnsOk.cons (r2_Big_Neg.ok k) (FnsOk.cons (r2_Of.ok k) (FnsOk.cons (r2_Big_Sub.ok k) (FnsOk.cons (r2_Big_twice.ok k) (FnsOk.cons (r2_Big_Cmp.ok k) (FnsOk.cons (r2_Big_Add.ok k) (FnsOk.cons (r2_Big_Wide.ok k) FnsOk.nil))))))))
noncomputable def r2_Big_Floor.c1p (a0:(List Int)) (a1:Int) (y1:Bool):SL:=⟨[(1,(.val T2 a1)),(2,(.val .ptr ⟨0,0,(0:Int),0,0⟩)),(6,(.val T4 y1)),(14,(.val T4 y1))],[(0,.cells T72 a0)]⟩
noncomputable def r2_Big_Floor.c1q (a1:Int) (y1:Bool) (o:(List Int)):SL:=(fun v=>⟨[(1,(.val T2 a1)),(2,(.val .ptr ⟨0,0,(0:Int),0,0⟩)),(6,(.val T4 y1))],[(0,.cells T72 v)]⟩) o
noncomputable def r2_Big_Floor.c1x (o:(List Int)):Ex:=(fun _=>.normal) o
noncomputable def r2_Big_Floor.c1n (o:(List Int)):Nat:=(fun _=>1) o
theorem r2_Big_Floor.c1_ok (k:Nat) (a0:(List Int)) (a1:Int) (y1:Bool):Owp (r2_Big_Floor.c1 k a0 y1) fun o=>Triple PR (r2_Big_Floor.cx k) (sub r2_Big_Floor.code [1,1,0,1]) 1 (r2_Big_Floor.c1p a0 a1 y1) (r2_Big_Floor.c1x o) (r2_Big_Floor.c1n o) (r2_Big_Floor.c1q a1 y1 o):=by
  unfold r2_Big_Floor.c1; exact
   Owp.bif (fun e3 =>
   Owp.bnd fun y4 e5 =>
   Owp.bnd fun y6 e7 =>
   Owp.bnd fun y8 e9 =>
   Owp.some (triple_way (r2_Big_Floor.cok k) hmix [tT,rS T72 y4,rS T72 y6,rS T72 y8] [] [(0,0)] (via (finP (aI (aI (aI (aI trivial e3) e5) e7) e9) .normal [(0,0)] (r2_Big_Floor.c1q a1 y1 y8)) (by kernel_rfl)))) (fun e3 =>
   Owp.some (triple_way (r2_Big_Floor.cok k) hmix [fF] [] [(0,0)] (via (finP (aI trivial e3) .normal [(0,0)] (r2_Big_Floor.c1q a1 y1 a0)) (by kernel_rfl))))
noncomputable def r2_Big_Floor.c3p (o10:(List Int)) (v14:Int) (y1:Bool) (y12 y18 y20:(List Int)) (y24:Int):SL:=⟨[(2,(.val .ptr ⟨0,0,(0:Int),0,0⟩)),(6,(.val T4 y1)),(7,(.val .ptr ⟨1,0,(0:Int),0,0⟩)),(8,(.val .ptr ⟨2,0,(0:Int),0,0⟩)),(9,(.val .ptr ⟨3,0,(0:Int),0,0⟩)),(10,(.val T2 v14)),(44,(.val T4 (ige y24 (0:Int))))],[(0,.cells T72 o10),(1,.cells T72 y20),(2,.cells T72 (st y18 (0:Int) (ibits .or .u32 (el (0:Int) y18 (0:Int)) (ibits .and .u32 (ishr .u32 (el (0:Int) o10 (iquo .i64 v14 (16:Int))) (irem v14 (16:Int))) (1:Int))))),(3,.cells T72 y12)]⟩
noncomputable def r2_Big_Floor.c3q (o10:(List Int)) (v14:Int) (y1:Bool) (y12:(List Int)) (o:((List Int) × (List Int))):SL:=(fun v=>⟨[(2,(.val .ptr ⟨0,0,(0:Int),0,0⟩)),(6,(.val T4 y1)),(7,(.val .ptr ⟨1,0,(0:Int),0,0⟩)),(8,(.val .ptr ⟨2,0,(0:Int),0,0⟩)),(9,(.val .ptr ⟨3,0,(0:Int),0,0⟩)),(10,(.val T2 v14))],[(0,.cells T72 o10),(1,.cells T72 v.1),(2,.cells T72 v.2),(3,.cells T72 y12)]⟩) o
noncomputable def r2_Big_Floor.c3x (o:((List Int) × (List Int))):Ex:=(fun _=>.normal) o
noncomputable def r2_Big_Floor.c3n (o:((List Int) × (List Int))):Nat:=(fun _=>4) o
theorem r2_Big_Floor.c3_ok (k:Nat) (o10:(List Int)) (v14:Int) (y1:Bool) (y12 y18 y20:(List Int)) (y24:Int):Owp (r2_Big_Floor.c3 k o10 v14 y12 y18 y20 y24) fun o=>Triple PR (r2_Big_Floor.cx k) (sub r2_Big_Floor.code [1,1,1,1,1,0,1,0,0,1,0,0,1,1,1]) 4 (r2_Big_Floor.c3p o10 v14 y1 y12 y18 y20 y24) (r2_Big_Floor.c3x o) (r2_Big_Floor.c3n o) (r2_Big_Floor.c3q o10 v14 y1 y12 o):=by
  unfold r2_Big_Floor.c3; exact
   Owp.bif (fun e26 =>
   Owp.bnd fun y27 e28 =>
   Owp.bnd fun y29 e30 =>
   Owp.bnd fun y31 e32 =>
   Owp.some (triple_way (r2_Big_Floor.cok k) hmix [tT,rS T72 y27,rS T72 y29,rS T72 y31] [] [(0,0),(1,1),(2,2),(3,3)] (via (finP (aI (aI (aI (aI trivial e26) e28) e30) e32) .normal [(0,0),(1,1),(2,2),(3,3)] (r2_Big_Floor.c3q o10 v14 y1 y12 (y31,y27))) (by kernel_rfl)))) (fun e26 =>
   Owp.some (triple_way (r2_Big_Floor.cok k) hmix [fF] [] [(0,0),(1,1),(2,2),(3,3)] (via (finP (aI trivial e26) .normal [(0,0),(1,1),(2,2),(3,3)] (r2_Big_Floor.c3q o10 v14 y1 y12 (y20,(st y18 (0:Int) (ibits .or .u32 (el (0:Int) y18 (0:Int)) (ibits .and .u32 (ishr .u32 (el (0:Int) o10 (iquo .i64 v14 (16:Int))) (irem v14 (16:Int))) (1:Int))))))) (by kernel_rfl))))
noncomputable def r2_Big_Floor.c2p (o10:(List Int)) (y1:Bool) (y12:(List Int)) (v14:Int) (v15 v16:(List Int)):SL:=⟨[(2,(.val .ptr ⟨0,0,(0:Int),0,0⟩)),(6,(.val T4 y1)),(7,(.val .ptr ⟨1,0,(0:Int),0,0⟩)),(8,(.val .ptr ⟨2,0,(0:Int),0,0⟩)),(9,(.val .ptr ⟨3,0,(0:Int),0,0⟩)),(10,(.val T2 v14))],[(0,.cells T72 o10),(1,.cells T72 v15),(2,.cells T72 v16),(3,.cells T72 y12)]⟩
noncomputable def r2_Big_Floor.c2q (y1:Bool) (o:(List Int)):SL:=(fun v=>⟨[(6,(.val T4 y1)),(7,(.val .ptr ⟨0,0,(0:Int),0,0⟩))],[(0,.cells T72 v)]⟩) o
noncomputable def r2_Big_Floor.c2x (o:(List Int)):Ex:=(fun _=>(.exit 0)) o
noncomputable def r2_Big_Floor.c2n (o:(List Int)):Nat:=(fun _=>1) o
theorem r2_Big_Floor.c2_ok (k:Nat) (o10:(List Int)) (y1:Bool) (y12:(List Int)):∀ (n:Nat) (v14:Int) (v15 v16:(List Int)),Owp (r2_Big_Floor.c2 k o10 y12 n v14 v15 v16) fun o=>LTriple PR (r2_Big_Floor.cx k) (sub r2_Big_Floor.code [1,1,1,1,1,0,1,0,0]) 4 (r2_Big_Floor.c2p o10 y1 y12 v14 v15 v16) (r2_Big_Floor.c2x o) (r2_Big_Floor.c2n o) (r2_Big_Floor.c2q y1 o)
  | 0,_,_,_=>fun _ h=>nomatch h
  | n+1,v14,v15,v16=>Owp.of (r2_Big_Floor.c2.eq_2 ..) (
   Owp.bif (fun e17 =>
   Owp.bnd fun y18 e19 =>
   Owp.bnd fun y20 e21 =>
   Owp.req fun h22 =>
   Owp.req fun h23 =>
   Owp.bnd fun y24 e25 =>
   Owp.bnd fun o33 e34 =>
   fun y hy=>loop_back (r2_Big_Floor.cok k) hmix 4 (r2_Big_Floor.c2p o10 y1 y12 (isub .i64 v14 (1:Int)) o33.1 o33.2) [tT,rS T72 y18,rS T72 y20,rS T2 y24,.cut ⟨[],[(0,0),(1,1),(2,2),(3,3)],(r2_Big_Floor.c3p o10 v14 y1 y12 y18 y20 y24),4,.normal,(r2_Big_Floor.c3q o10 v14 y1 y12 o33),4⟩] [] [(0,0),(1,1),(2,2),(3,3)] (via (cutP (aI (aI (aI (aI (aI (aI (aI (aI (aI (aI (aI (aI (aI trivial e17) e19) e21) (by decide:inR (0:Int) 8)) (by decide:inR (0:Int) 8)) (by decide:nz (16:Int))) h22) h22) (by decide:nz (16:Int))) h23) (by decide:inR (0:Int) 8)) (by decide:inR (0:Int) 8)) e25) [(0,0),(1,1),(2,2),(3,3)] (r2_Big_Floor.c3p o10 v14 y1 y12 y18 y20 y24) (((r2_Big_Floor.c3_ok k o10 v14 y1 y12 y18 y20 y24).ap e34)) (finP trivial .normal [(0,0),(1,1),(2,2),(3,3)] (r2_Big_Floor.c2p o10 y1 y12 (isub .i64 v14 (1:Int)) o33.1 o33.2))) (by kernel_rfl)) ((r2_Big_Floor.c2_ok k o10 y1 y12 n (isub .i64 v14 (1:Int)) o33.1 o33.2).ap hy)) (fun e17 =>
   Owp.some (loop_exit (r2_Big_Floor.cok k) hmix [fF] [] [(0,1)] (exne 0) (via (finP (aI trivial e17) (.exit 0) [(0,1)] (r2_Big_Floor.c2q y1 v15)) (by kernel_rfl)))))
theorem r2_Big_Floor.way (k:Nat) (a0:(List Int)) (a1:Int):Owp (r2_Big_Floor k a0 a1) fun y=>∃ w c0,exec PR (r2_Big_Floor.cx k) r2_Big_Floor.code 0 (entry (.pair T72 (.pair T2 .unit)) (a0,a1,())).st w (Ret (r2_Big_Floor.cx k) Tryz.f113 c0 (.more (.dp T2) (.one (.dp T4))) y):=by
  unfold r2_Big_Floor; exact
   Owp.bnd fun y1 e2 =>
   Owp.bnd fun o10 e11 =>
   Owp.bnd fun y12 e13 =>
   Owp.bnd fun o35 e36 =>
   Owp.bnd fun y37 e38 =>
   Owp.bnd fun y39 e40 =>
   Owp.bnd fun y41 e42 =>
   Owp.bif (fun e43 =>
   Owp.some (⟨[rS T4 y1,.cut ⟨[],[(0,0)],(r2_Big_Floor.c1p a0 a1 y1),1,.normal,(r2_Big_Floor.c1q a1 y1 o10),1⟩,rS T72 y12,.cut ⟨[],[(0,0),(1,1),(2,2),(3,5)],(r2_Big_Floor.c2p o10 y1 y12 (127:Int) (List.replicate 8 (0:Int)) (List.replicate 8 (0:Int))),4,(.exit 0),(r2_Big_Floor.c2q y1 o35),1⟩,rS T72 y37,rS T72 y39,rS T2 y41,tT],[],via (cutP (aI trivial e2) [(0,0)] (r2_Big_Floor.c1p a0 a1 y1) (((r2_Big_Floor.c1_ok k a0 a1 y1).ap e11)) (cutP (aI trivial e13) [(0,0),(1,1),(2,2),(3,5)] (r2_Big_Floor.c2p o10 y1 y12 (127:Int) (List.replicate 8 (0:Int)) (List.replicate 8 (0:Int))) (((r2_Big_Floor.c2_ok k o10 y1 y12 k (127:Int) (List.replicate 8 (0:Int)) (List.replicate 8 (0:Int))).ap e36).triple) (retP (aI (aI (aI (aI trivial e38) e40) e42) e43) (.more (.dp T2) (.one (.dp T4))) (((0:Int),false):(Int × Bool))))) (by kernel_rfl)⟩)) (fun e43 =>
   Owp.bnd fun y44 e45 =>
   Owp.bif (fun e46 =>
   Owp.some (⟨[rS T4 y1,.cut ⟨[],[(0,0)],(r2_Big_Floor.c1p a0 a1 y1),1,.normal,(r2_Big_Floor.c1q a1 y1 o10),1⟩,rS T72 y12,.cut ⟨[],[(0,0),(1,1),(2,2),(3,5)],(r2_Big_Floor.c2p o10 y1 y12 (127:Int) (List.replicate 8 (0:Int)) (List.replicate 8 (0:Int))),4,(.exit 0),(r2_Big_Floor.c2q y1 o35),1⟩,rS T72 y37,rS T72 y39,rS T2 y41,fF,rS T99 y44,tT],[],via (cutP (aI trivial e2) [(0,0)] (r2_Big_Floor.c1p a0 a1 y1) (((r2_Big_Floor.c1_ok k a0 a1 y1).ap e11)) (cutP (aI trivial e13) [(0,0),(1,1),(2,2),(3,5)] (r2_Big_Floor.c2p o10 y1 y12 (127:Int) (List.replicate 8 (0:Int)) (List.replicate 8 (0:Int))) (((r2_Big_Floor.c2_ok k o10 y1 y12 k (127:Int) (List.replicate 8 (0:Int)) (List.replicate 8 (0:Int))).ap e36).triple) (retP (aI (aI (aI (aI (aI (aI trivial e38) e40) e42) e43) e45) e46) (.more (.dp T2) (.one (.dp T4))) (((isub .i64 (ineg .i64 (icv .i64 y44.2.1)) (1:Int)),true):(Int × Bool))))) (by kernel_rfl)⟩)) (fun e46 =>
   Owp.some (⟨[rS T4 y1,.cut ⟨[],[(0,0)],(r2_Big_Floor.c1p a0 a1 y1),1,.normal,(r2_Big_Floor.c1q a1 y1 o10),1⟩,rS T72 y12,.cut ⟨[],[(0,0),(1,1),(2,2),(3,5)],(r2_Big_Floor.c2p o10 y1 y12 (127:Int) (List.replicate 8 (0:Int)) (List.replicate 8 (0:Int))),4,(.exit 0),(r2_Big_Floor.c2q y1 o35),1⟩,rS T72 y37,rS T72 y39,rS T2 y41,fF,rS T99 y44,fF],[],via (cutP (aI trivial e2) [(0,0)] (r2_Big_Floor.c1p a0 a1 y1) (((r2_Big_Floor.c1_ok k a0 a1 y1).ap e11)) (cutP (aI trivial e13) [(0,0),(1,1),(2,2),(3,5)] (r2_Big_Floor.c2p o10 y1 y12 (127:Int) (List.replicate 8 (0:Int)) (List.replicate 8 (0:Int))) (((r2_Big_Floor.c2_ok k o10 y1 y12 k (127:Int) (List.replicate 8 (0:Int)) (List.replicate 8 (0:Int))).ap e36).triple) (retP (aI (aI (aI (aI (aI (aI trivial e38) e40) e42) e43) e45) e46) (.more (.dp T2) (.one (.dp T4))) (((icv .i64 y44.2.1),true):(Int × Bool))))) (by kernel_rfl)⟩)))
theorem r2_Big_Floor.ok (k:Nat):FnOk PR 113 (r2_Big_Floor.sp k) :=
  fn_ok (r2_Big_Floor.cok k) hmix Tryz.func113 (code:=r2_Big_Floor.code) (by kernel_rfl) (by kernel_rfl) (by kernel_rfl) rfl (by kernel_rfl) (by kernel_rfl) (by kernel_rfl) (fun x=>Nat.le_of_ble_eq_true (by kernel_rfl)) fun x y hy=>(r2_Big_Floor.way k x.1 x.2.1).ap hy
noncomputable def r2_Big_Over.code:Code:=Func.cd Tryz.f97
def r2_Big_Over.c1 (k:Nat) (a0:(List Int)) (a1:Int):Option ((Int × (List Int))) :=
  bif' (ilt a1 0)
  (bnd (r2_Big_Neg k a0) fun y3 =>
   some ((ineg .i64 a1),y3))
  (some (a1,a0))
def r2_Big_Over (k:Nat) (a0:(List Int)) (a1:Int):Option (Int × Int) :=
  bif' (ieq a1 0)
  (some (0,17))
  (bnd (r2_Big_Over.c1 k a0 a1) fun o5 =>
   bnd (r2_Big_twice k o5.2) fun y7 =>
   bnd (r2_Of k o5.1) fun y9 =>
   bnd (r2_Big_Add k y7 y9) fun y11 =>
   bnd (r2_Big_Floor k y11 (imul .i64 2 o5.1)) fun y13 =>
   bif' y13.2
   (some (y13.1,0))
   (some (0,2)))
noncomputable def r2_Big_Over.sp (k:Nat):Go.Sx.Spec:=⟨(.pair T72 (.pair T2 .unit)),(.more (.dp T2) (.one (.dp T2))),fun x=>r2_Big_Over k x.1 x.2.1,false⟩
noncomputable def r2_Big_Over.cx (k:Nat):Go.Sx.Ctx:=⟨tys,[(111,r2_Big_Neg.sp k),(112,r2_Big_twice.sp k),(53,r2_Of.sp k),(110,r2_Big_Add.sp k),(113,r2_Big_Floor.sp k)],eqs,30,false⟩
theorem r2_Big_Over.cok (k:Nat):CtxOk PR (r2_Big_Over.cx k):=ctx_ok tysOk eqsOk (FnsOk.cons (r2_Big_Neg.ok k) (FnsOk.cons (r2_Big_twice.ok k) (FnsOk.cons (r2_Of.ok k) (FnsOk.cons (r2_Big_Add.ok k) (FnsOk.cons (r2_Big_Floor.ok k) FnsOk.nil)))))
noncomputable def r2_Big_Over.c1p (a0:(List Int)) (a1:Int):SL:=⟨[(1,(.val T2 a1)),(2,(.val .ptr ⟨0,0,(0:Int),0,0⟩)),(11,(.val T4 (ilt a1 (0:Int))))],[(0,.cells T72 a0)]⟩
noncomputable def r2_Big_Over.c1q (o:(Int × (List Int))):SL:=(fun v=>⟨[(1,(.val T2 v.1)),(2,(.val .ptr ⟨0,0,(0:Int),0,0⟩))],[(0,.cells T72 v.2)]⟩) o
noncomputable def r2_Big_Over.c1x (o:(Int × (List Int))):Ex:=(fun _=>.normal) o
noncomputable def r2_Big_Over.c1n (o:(Int × (List Int))):Nat:=(fun _=>1) o
theorem r2_Big_Over.c1_ok (k:Nat) (a0:(List Int)) (a1:Int):Owp (r2_Big_Over.c1 k a0 a1) fun o=>Triple PR (r2_Big_Over.cx k) (sub r2_Big_Over.code [1,1,0,1]) 1 (r2_Big_Over.c1p a0 a1) (r2_Big_Over.c1x o) (r2_Big_Over.c1n o) (r2_Big_Over.c1q o):=by
  unfold r2_Big_Over.c1; exact
   Owp.bif (fun e2 =>
   Owp.bnd fun y3 e4 =>
   Owp.some (triple_way (r2_Big_Over.cok k) hmix [tT,rS T72 y3] [] [(0,0)] (via (finP (aI (aI trivial e2) e4) .normal [(0,0)] (r2_Big_Over.c1q ((ineg .i64 a1),y3))) (by kernel_rfl)))) (fun e2 =>
   Owp.some (triple_way (r2_Big_Over.cok k) hmix [fF] [] [(0,0)] (via (finP (aI trivial e2) .normal [(0,0)] (r2_Big_Over.c1q (a1,a0))) (by kernel_rfl))))
theorem r2_Big_Over.way (k:Nat) (a0:(List Int)) (a1:Int):Owp (r2_Big_Over k a0 a1) fun y=>∃ w c0,exec PR (r2_Big_Over.cx k) r2_Big_Over.code 0 (entry (.pair T72 (.pair T2 .unit)) (a0,a1,())).st w (Ret (r2_Big_Over.cx k) Tryz.f97 c0 (.more (.dp T2) (.one (.dp T2))) y):=by
  unfold r2_Big_Over; exact
   Owp.bif (fun e1 =>
   Owp.some (⟨[tT],[],via (retP (aI trivial e1) (.more (.dp T2) (.one (.dp T2))) (((0:Int),(17:Int)):(Int × Int))) (by kernel_rfl)⟩)) (fun e1 =>
   Owp.bnd fun o5 e6 =>
   Owp.bnd fun y7 e8 =>
   Owp.bnd fun y9 e10 =>
   Owp.bnd fun y11 e12 =>
   Owp.bnd fun y13 e14 =>
   Owp.bif (fun e15 =>
   Owp.some (⟨[fF,.cut ⟨[],[(0,0)],(r2_Big_Over.c1p a0 a1),1,.normal,(r2_Big_Over.c1q o5),1⟩,rS T72 y7,rS T72 y9,rS T72 y11,.res (.more (.dp T2) (.one (.dp T4))) y13,fF],[],via (cutP (aI trivial e1) [(0,0)] (r2_Big_Over.c1p a0 a1) (((r2_Big_Over.c1_ok k a0 a1).ap e6)) (retP (aI (aI (aI (aI (aI trivial e8) e10) e12) e14) (congrArg not e15)) (.more (.dp T2) (.one (.dp T2))) ((y13.1,(0:Int)):(Int × Int)))) (by kernel_rfl)⟩)) (fun e15 =>
   Owp.some (⟨[fF,.cut ⟨[],[(0,0)],(r2_Big_Over.c1p a0 a1),1,.normal,(r2_Big_Over.c1q o5),1⟩,rS T72 y7,rS T72 y9,rS T72 y11,.res (.more (.dp T2) (.one (.dp T4))) y13,tT],[],via (cutP (aI trivial e1) [(0,0)] (r2_Big_Over.c1p a0 a1) (((r2_Big_Over.c1_ok k a0 a1).ap e6)) (retP (aI (aI (aI (aI (aI trivial e8) e10) e12) e14) (congrArg not e15)) (.more (.dp T2) (.one (.dp T2))) (((0:Int),(2:Int)):(Int × Int)))) (by kernel_rfl)⟩)))
theorem r2_Big_Over.ok (k:Nat):FnOk PR 97 (r2_Big_Over.sp k) :=
  fn_ok (r2_Big_Over.cok k) hmix Tryz.func97 (code:=r2_Big_Over.code) (by kernel_rfl) (by kernel_rfl) (by kernel_rfl) rfl (by kernel_rfl) (by kernel_rfl) (by kernel_rfl) (fun x=>Nat.le_of_ble_eq_true (by kernel_rfl)) fun x y hy=>(r2_Big_Over.way k x.1 x.2.1).ap hy
noncomputable def fix_Clamp.code:Code:=Func.cd Tryz.f39
def fix_Clamp (k:Nat) (a0:Int):Option Int :=
  some (imin (imax a0 (-1099511627776)) 1099511627776)
noncomputable def fix_Clamp.sp (k:Nat):Go.Sx.Spec:=⟨(.pair T2 .unit),(.one (.dp T2)),fun x=>fix_Clamp k x.1,false⟩
noncomputable def fix_Clamp.cx (k:Nat):Go.Sx.Ctx:=⟨tys,[],eqs,6,false⟩
theorem fix_Clamp.cok (k:Nat):CtxOk PR (fix_Clamp.cx k):=ctx_ok tysOk eqsOk FnsOk.nil
theorem fix_Clamp.way (k:Nat) (a0:Int):Owp (fix_Clamp k a0) fun y=>∃ w c0,exec PR (fix_Clamp.cx k) fix_Clamp.code 0 (entry (.pair T2 .unit) (a0,())).st w (Ret (fix_Clamp.cx k) Tryz.f39 c0 (.one (.dp T2)) y):=by
  unfold fix_Clamp; exact
   Owp.some (⟨[],[],via (retP trivial (.one (.dp T2)) ((imin (imax a0 (-1099511627776:Int)) (1099511627776:Int)):Int)) (by kernel_rfl)⟩)
theorem fix_Clamp.ok (k:Nat):FnOk PR 39 (fix_Clamp.sp k) :=
  fn_ok (fix_Clamp.cok k) hmix Tryz.func39 (code:=fix_Clamp.code) (by kernel_rfl) (by kernel_rfl) (by kernel_rfl) rfl (by kernel_rfl) (by kernel_rfl) (by kernel_rfl) (fun x=>Nat.le_of_ble_eq_true (by kernel_rfl)) fun x y hy=>(fix_Clamp.way k x.1).ap hy
noncomputable def fix_mag.code:Code:=Func.cd Tryz.f66
def fix_mag (k:Nat) (a0:Int):Option Int :=
  bif' (ilt a0 0)
  (some (icv .u64 (ineg .i64 a0)))
  (some (icv .u64 a0))
noncomputable def fix_mag.sp (k:Nat):Go.Sx.Spec:=⟨(.pair T2 .unit),(.one (.dp T12)),fun x=>fix_mag k x.1,false⟩
noncomputable def fix_mag.cx (k:Nat):Go.Sx.Ctx:=⟨tys,[],eqs,10,false⟩
theorem fix_mag.cok (k:Nat):CtxOk PR (fix_mag.cx k):=ctx_ok tysOk eqsOk FnsOk.nil
theorem fix_mag.way (k:Nat) (a0:Int):Owp (fix_mag k a0) fun y=>∃ w c0,exec PR (fix_mag.cx k) fix_mag.code 0 (entry (.pair T2 .unit) (a0,())).st w (Ret (fix_mag.cx k) Tryz.f66 c0 (.one (.dp T12)) y):=by
  unfold fix_mag; exact
   Owp.bif (fun e1 =>
   Owp.some (⟨[tT],[],via (retP (aI trivial e1) (.one (.dp T12)) ((icv .u64 (ineg .i64 a0)):Int)) (by kernel_rfl)⟩)) (fun e1 =>
   Owp.some (⟨[fF],[],via (retP (aI trivial e1) (.one (.dp T12)) ((icv .u64 a0):Int)) (by kernel_rfl)⟩))
theorem fix_mag.ok (k:Nat):FnOk PR 66 (fix_mag.sp k) :=
  fn_ok (fix_mag.cok k) hmix Tryz.func66 (code:=fix_mag.code) (by kernel_rfl) (by kernel_rfl) (by kernel_rfl) rfl (by kernel_rfl) (by kernel_rfl) (by kernel_rfl) (fun x=>Nat.le_of_ble_eq_true (by kernel_rfl)) fun x y hy=>(fix_mag.way k x.1).ap hy
end Go.Proofs.T1
