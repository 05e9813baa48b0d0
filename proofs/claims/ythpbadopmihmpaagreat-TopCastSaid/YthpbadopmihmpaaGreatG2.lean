import Derived.Test.YthpbadopmihmpaaGreatG0
import Derived.Test.YthpbadopmihmpaaGreatG1
namespace Go.Proofs.T1
open Go Go.Sx Go.Proofs
set_option maxRecDepth 100000
set_option linter.unusedVariables false
noncomputable def poly_Wide_Over.code:Code:=Func.cd Tryz.f91
def poly_Wide_Over.c1 (k:Nat) (a0:V94):Option (V94) :=
 bif' (ilt a0.1 0)
 (bnd (poly_Wide_Minus k (0,0,()) a0) fun y3 =>
  some y3)
 (some a0)
def poly_Wide_Over.c2 (k:Nat) (a0:V94) (a1:Int):Option ((Bool × Int)) :=
 bif' (ilt a1 0)
 (some ((!(ilt a0.1 0)),(ineg .u64 (icv .u64 a1))))
 (some ((ilt a0.1 0),(icv .u64 a1)))
def poly_Wide_Over.c3 (k:Nat) (o8:(Bool × Int)) (y11:(Int × Int)):Option (Bool) :=
 bif' (igt y11.2 (isub .u64 o8.2 y11.2))
 (some true)
 (bif' (ieq y11.2 (isub .u64 o8.2 y11.2))
  (some (!o8.1))
  (some false))
def poly_Wide_Over.c4 (k:Nat) (o15:Bool) (y11:(Int × Int)):Option (Unit ⊕ Int) :=
 bif' o15
 (bif' (ieq (iadd .u64 y11.1 1) 0)
  (some (.inl ()))
  (some (.inr (iadd .u64 y11.1 1))))
 (some (.inr y11.1))
def poly_Wide_Over.c5 (k:Nat) (o8:(Bool × Int)) (y23:Int):Option (Bool) :=
 bif' o8.1
 (some (ile y23 9223372036854775808))
 (some false)
def poly_Wide_Over.c6 (k:Nat) (o8:(Bool × Int)) (y23:Int):Option (Bool) :=
 bif' o8.1
 (some false)
 (some (ilt y23 9223372036854775808))
def poly_Wide_Over (k:Nat) (a0:V94) (a1:Int):Option (Int × Int) :=
 bif' (ieq a1 0)
 (some (0,17))
 (bnd (poly_Wide_Over.c1 k a0) fun o5 =>
  bnd (poly_Wide_Over.c2 k a0 a1) fun o8 =>
  bif' (ige (icv .u64 o5.1) o8.2)
  (some (0,2))
  (bnd (bits_Div64 k (icv .u64 o5.1) o5.2.1 o8.2) fun y11 =>
  bnd (poly_Wide_Over.c3 k o8 y11) fun o15 =>
  bnd (poly_Wide_Over.c4 k o15 y11) fun o19 =>
  two o19 (fun y21 =>
  some (0,2)) (fun y23 =>
  bnd (poly_Wide_Over.c5 k o8 y23) fun o26 =>
  bif' o26
  (some ((icv .i64 (ineg .u64 y23)),0))
  (bnd (poly_Wide_Over.c6 k o8 y23) fun o30 =>
  bif' o30
  (some ((icv .i64 y23),0))
  (some (0,2))))))
noncomputable def poly_Wide_Over.sp (k:Nat):Go.Sx.Spec:=⟨(.pair T94 (.pair T2 .unit)),(.more (.dp T2) (.one (.dp T2))),fun x=>poly_Wide_Over k x.1 x.2.1,false⟩
noncomputable def poly_Wide_Over.cx (k:Nat):Go.Sx.Ctx:=⟨tys,[(144,poly_Wide_Minus.sp k),(142,bits_Div64.sp k)],eqs,82,0,[],false⟩
theorem poly_Wide_Over.cok (k:Nat):CtxOk PR (poly_Wide_Over.cx k):=ctx_ok tysOk eqsOk (fC (poly_Wide_Minus.ok k) (fC (bits_Div64.ok k) FnsOk.nil)) HsOk.nil
noncomputable def poly_Wide_Over.c1p (a0:V94) (a1:Int):SL:=⟨[(1,(.val T2 a1)),(2,(.val .ptr ⟨0,0,(0:Int),0,0⟩)),(6,(.val T4 (ilt a0.1 (0:Int)))),(17,(.val T4 (ilt a0.1 (0:Int))))],[(0,.cells T94 a0)]⟩
noncomputable def poly_Wide_Over.c1q (a0:V94) (a1:Int) (o:V94):SL:=(fun v=>⟨[(1,(.val T2 a1)),(2,(.val .ptr ⟨0,0,(0:Int),0,0⟩)),(6,(.val T4 (ilt a0.1 (0:Int))))],[(0,.cells T94 v)]⟩) o
noncomputable def poly_Wide_Over.c1x (o:V94):Ex:=(fun _=>.normal) o
noncomputable def poly_Wide_Over.c1n (o:V94):Nat:=(fun _=>1) o
theorem poly_Wide_Over.c1_ok (k:Nat) (a0:V94) (a1:Int):Owp (poly_Wide_Over.c1 k a0) fun o=>Triple PR (poly_Wide_Over.cx k) (sub poly_Wide_Over.code [1,1,1,0,1]) 1 (poly_Wide_Over.c1p a0 a1) (poly_Wide_Over.c1x o) (poly_Wide_Over.c1n o) (poly_Wide_Over.c1q a0 a1 o):=by
 unfold poly_Wide_Over.c1; exact
  oF (fun e2 =>
  oB fun y3 e4 =>
  oS (tW (poly_Wide_Over.cok k) hmix [tT,rS T94 y3] [] [(0,0)] (via (finP (aI (aI tv0 e2) e4) .normal [(0,0)] (poly_Wide_Over.c1q a0 a1 y3)) (by kernel_rfl)))) (fun e2 =>
  oS (tW (poly_Wide_Over.cok k) hmix [fF] [] [(0,0)] (via (finP (aI tv0 e2) .normal [(0,0)] (poly_Wide_Over.c1q a0 a1 a0)) (by kernel_rfl))))
noncomputable def poly_Wide_Over.c2p (a0:V94) (a1:Int) (o5:V94):SL:=⟨[(2,(.val .ptr ⟨0,0,(0:Int),0,0⟩)),(6,(.val T4 (ilt a0.1 (0:Int)))),(7,(.val T12 (icv .u64 a1))),(24,(.val T4 (ilt a1 (0:Int))))],[(0,.cells T94 o5)]⟩
noncomputable def poly_Wide_Over.c2q (o5:V94) (o:(Bool × Int)):SL:=(fun v=>⟨[(2,(.val .ptr ⟨0,0,(0:Int),0,0⟩)),(6,(.val T4 v.1)),(7,(.val T12 v.2))],[(0,.cells T94 o5)]⟩) o
noncomputable def poly_Wide_Over.c2x (o:(Bool × Int)):Ex:=(fun _=>.normal) o
noncomputable def poly_Wide_Over.c2n (o:(Bool × Int)):Nat:=(fun _=>1) o
theorem poly_Wide_Over.c2_ok (k:Nat) (a0:V94) (a1:Int) (o5:V94):Owp (poly_Wide_Over.c2 k a0 a1) fun o=>Triple PR (poly_Wide_Over.cx k) (sub poly_Wide_Over.code [1,1,1,1,1,0,1]) 1 (poly_Wide_Over.c2p a0 a1 o5) (poly_Wide_Over.c2x o) (poly_Wide_Over.c2n o) (poly_Wide_Over.c2q o5 o):=by
 unfold poly_Wide_Over.c2; exact
  oF (fun e7 =>
  oS (tW (poly_Wide_Over.cok k) hmix [tT] [] [(0,0)] (via (finP (aI tv0 e7) .normal [(0,0)] (poly_Wide_Over.c2q o5 ((!(ilt a0.1 (0:Int))),(ineg .u64 (icv .u64 a1))))) (by kernel_rfl)))) (fun e7 =>
  oS (tW (poly_Wide_Over.cok k) hmix [fF] [] [(0,0)] (via (finP (aI tv0 e7) .normal [(0,0)] (poly_Wide_Over.c2q o5 ((ilt a0.1 (0:Int)),(icv .u64 a1)))) (by kernel_rfl))))
noncomputable def poly_Wide_Over.c3p (o8:(Bool × Int)) (y11:(Int × Int)):SL:=⟨[(6,(.val T4 o8.1)),(7,(.val T12 o8.2)),(9,(.val T12 y11.1)),(10,(.val T12 y11.2))],[]⟩
noncomputable def poly_Wide_Over.c3q (o8:(Bool × Int)) (y11:(Int × Int)) (o:Bool):SL:=(fun v=>⟨[(6,(.val T4 o8.1)),(9,(.val T12 y11.1)),(11,(.val T4 v))],[]⟩) o
noncomputable def poly_Wide_Over.c3x (o:Bool):Ex:=(fun _=>.normal) o
noncomputable def poly_Wide_Over.c3n (o:Bool):Nat:=(fun _=>0) o
theorem poly_Wide_Over.c3_ok (k:Nat) (o8:(Bool × Int)) (y11:(Int × Int)):Owp (poly_Wide_Over.c3 k o8 y11) fun o=>Triple PR (poly_Wide_Over.cx k) (sub poly_Wide_Over.code [1,1,1,1,1,1,1,1,1,0]) 0 (poly_Wide_Over.c3p o8 y11) (poly_Wide_Over.c3x o) (poly_Wide_Over.c3n o) (poly_Wide_Over.c3q o8 y11 o):=by
 unfold poly_Wide_Over.c3; exact
  oF (fun e13 =>
  oS (tW (poly_Wide_Over.cok k) hmix [tT,tT,tT,tT,tT,tT,tT,tT,tT,tT,tT] [] [] (via (finP (aI (aI (aI (aI (aI (aI (aI (aI tv0 e13) e13) e13) e13) e13) e13) e13) e13) .normal [] (poly_Wide_Over.c3q o8 y11 true)) (by kernel_rfl)))) (fun e13 =>
  oF (fun e14 =>
  oS (tW (poly_Wide_Over.cok k) hmix [fF,fF,fF,fF,fF,fF,tT,tT,fF,tT,fF] [] [] (via (finP (aI (aI (aI (aI (aI (aI (aI (aI (aI (aI tv0 e13) e13) e13) e13) e13) e13) e14) e14) (aI e13 e14)) e13) .normal [] (poly_Wide_Over.c3q o8 y11 (!o8.1))) (by kernel_rfl)))) (fun e14 =>
  oS (tW (poly_Wide_Over.cok k) hmix [fF,fF,fF,fF,fF,fF,fF,fF,fF,fF,fF] [] [] (via (finP (aI (aI (aI (aI (aI (aI (aI (aI (aI (aI tv0 e13) e13) e13) e13) e13) e13) e14) e14) (aI e13 e14)) e13) .normal [] (poly_Wide_Over.c3q o8 y11 false)) (by kernel_rfl)))))
noncomputable def poly_Wide_Over.c4p (o8:(Bool × Int)) (o15:Bool) (y11:(Int × Int)):SL:=⟨[(6,(.val T4 o8.1)),(9,(.val T12 y11.1)),(59,(.val T4 o15))],[]⟩
noncomputable def poly_Wide_Over.c4q (o8:(Bool × Int)) (o:Unit ⊕ Int):SL:=(fun o=>two o (fun v=>⟨[(4,(.val T2 (0:Int))),(5,(.val T2 (2:Int)))],[]⟩) (fun v=>⟨[(6,(.val T4 o8.1)),(9,(.val T12 v))],[]⟩)) o
noncomputable def poly_Wide_Over.c4x (o:Unit ⊕ Int):Ex:=(fun o=>two o (fun _=>.ret) (fun _=>.normal)) o
noncomputable def poly_Wide_Over.c4n (o:Unit ⊕ Int):Nat:=(fun o=>two o (fun _=>0) (fun _=>0)) o
theorem poly_Wide_Over.c4_ok (k:Nat) (o8:(Bool × Int)) (o15:Bool) (y11:(Int × Int)):Owp (poly_Wide_Over.c4 k o15 y11) fun o=>Triple PR (poly_Wide_Over.cx k) (sub poly_Wide_Over.code [1,1,1,1,1,1,1,1,1,1,0,1]) 0 (poly_Wide_Over.c4p o8 o15 y11) (poly_Wide_Over.c4x o) (poly_Wide_Over.c4n o) (poly_Wide_Over.c4q o8 o):=by
 unfold poly_Wide_Over.c4; exact
  oF (fun e17 =>
  oF (fun e18 =>
  oS (tW (poly_Wide_Over.cok k) hmix [tT,tT] [] [] (via (finP (aI (aI tv0 e17) e18) .ret [] (poly_Wide_Over.c4q o8 (.inl ()))) (by kernel_rfl)))) (fun e18 =>
  oS (tW (poly_Wide_Over.cok k) hmix [tT,fF] [] [] (via (finP (aI (aI tv0 e17) e18) .normal [] (poly_Wide_Over.c4q o8 (.inr (iadd .u64 y11.1 (1:Int))))) (by kernel_rfl))))) (fun e17 =>
  oS (tW (poly_Wide_Over.cok k) hmix [fF] [] [] (via (finP (aI tv0 e17) .normal [] (poly_Wide_Over.c4q o8 (.inr y11.1))) (by kernel_rfl))))
noncomputable def poly_Wide_Over.c5p (o8:(Bool × Int)) (y23:Int):SL:=⟨[(6,(.val T4 o8.1)),(9,(.val T12 y23))],[]⟩
noncomputable def poly_Wide_Over.c5q (o8:(Bool × Int)) (y23:Int) (o:Bool):SL:=(fun v=>⟨[(6,(.val T4 o8.1)),(9,(.val T12 y23)),(64,(.val T4 v))],[]⟩) o
noncomputable def poly_Wide_Over.c5x (o:Bool):Ex:=(fun _=>.normal) o
noncomputable def poly_Wide_Over.c5n (o:Bool):Nat:=(fun _=>0) o
theorem poly_Wide_Over.c5_ok (k:Nat) (o8:(Bool × Int)) (y23:Int):Owp (poly_Wide_Over.c5 k o8 y23) fun o=>Triple PR (poly_Wide_Over.cx k) (sub poly_Wide_Over.code [1,1,1,1,1,1,1,1,1,1,1,0,0,0]) 0 (poly_Wide_Over.c5p o8 y23) (poly_Wide_Over.c5x o) (poly_Wide_Over.c5n o) (poly_Wide_Over.c5q o8 y23 o):=by
 unfold poly_Wide_Over.c5; exact
  oF (fun e25 =>
  oS (tW (poly_Wide_Over.cok k) hmix [tT,tT,tT] [] [] (via (finP (aI (aI (aI tv0 e25) e25) e25) .normal [] (poly_Wide_Over.c5q o8 y23 (ile y23 (9223372036854775808:Int)))) (by kernel_rfl)))) (fun e25 =>
  oS (tW (poly_Wide_Over.cok k) hmix [fF,fF,fF] [] [] (via (finP (aI (aI (aI tv0 e25) e25) e25) .normal [] (poly_Wide_Over.c5q o8 y23 false)) (by kernel_rfl))))
noncomputable def poly_Wide_Over.c6p (o8:(Bool × Int)) (y23:Int):SL:=⟨[(6,(.val T4 o8.1)),(9,(.val T12 y23))],[]⟩
noncomputable def poly_Wide_Over.c6q (y23:Int) (o:Bool):SL:=(fun v=>⟨[(9,(.val T12 y23)),(73,(.val T4 v))],[]⟩) o
noncomputable def poly_Wide_Over.c6x (o:Bool):Ex:=(fun _=>.normal) o
noncomputable def poly_Wide_Over.c6n (o:Bool):Nat:=(fun _=>0) o
theorem poly_Wide_Over.c6_ok (k:Nat) (o8:(Bool × Int)) (y23:Int):Owp (poly_Wide_Over.c6 k o8 y23) fun o=>Triple PR (poly_Wide_Over.cx k) (sub poly_Wide_Over.code [1,1,1,1,1,1,1,1,1,1,1,0,0,1,1,0]) 0 (poly_Wide_Over.c6p o8 y23) (poly_Wide_Over.c6x o) (poly_Wide_Over.c6n o) (poly_Wide_Over.c6q y23 o):=by
 unfold poly_Wide_Over.c6; exact
  oF (fun e29 =>
  oS (tW (poly_Wide_Over.cok k) hmix [fF,fF,fF] [] [] (via (finP (aI (aI (aI tv0 (congrArg not e29)) (congrArg not e29)) (congrArg not e29)) .normal [] (poly_Wide_Over.c6q y23 false)) (by kernel_rfl)))) (fun e29 =>
  oS (tW (poly_Wide_Over.cok k) hmix [tT,tT,tT] [] [] (via (finP (aI (aI (aI tv0 (congrArg not e29)) (congrArg not e29)) (congrArg not e29)) .normal [] (poly_Wide_Over.c6q y23 (ilt y23 (9223372036854775808:Int)))) (by kernel_rfl))))
theorem poly_Wide_Over.way (k:Nat) (a0:V94) (a1:Int):Owp (poly_Wide_Over k a0 a1) fun y=>∃ w c0,exec PR (poly_Wide_Over.cx k) poly_Wide_Over.code 0 (entry (.pair T94 (.pair T2 .unit)) (a0,a1,())).st w (Ret (poly_Wide_Over.cx k) Tryz.f91 c0 (.more (.dp T2) (.one (.dp T2))) y):=by
 unfold poly_Wide_Over; exact
  oF (fun e1 =>
  oS (⟨[tT],[],via (retP (aI tv0 e1) (.more (.dp T2) (.one (.dp T2))) (((0:Int),(17:Int)):(Int × Int))) (by kernel_rfl)⟩)) (fun e1 =>
  oB fun o5 e6 =>
  oB fun o8 e9 =>
  oF (fun e10 =>
  oS (⟨[fF,.cut ⟨[],[(0,0)],(poly_Wide_Over.c1p a0 a1),1,.normal,(poly_Wide_Over.c1q a0 a1 o5),1⟩,.cut ⟨[],[(0,0)],(poly_Wide_Over.c2p a0 a1 o5),1,.normal,(poly_Wide_Over.c2q o5 o8),1⟩,tT],[],via (cutP (aI tv0 e1) [(0,0)] (poly_Wide_Over.c1p a0 a1) (((poly_Wide_Over.c1_ok k a0 a1).ap e6)) (cutP tv0 [(0,0)] (poly_Wide_Over.c2p a0 a1 o5) (((poly_Wide_Over.c2_ok k a0 a1 o5).ap e9)) (retP (aI tv0 e10) (.more (.dp T2) (.one (.dp T2))) (((0:Int),(2:Int)):(Int × Int))))) (by kernel_rfl)⟩)) (fun e10 =>
  oB fun y11 e12 =>
  oB fun o15 e16 =>
  oB fun o19 e20 =>
  Owp.two (fun y21 e22 =>
  oS (⟨[fF,.cut ⟨[],[(0,0)],(poly_Wide_Over.c1p a0 a1),1,.normal,(poly_Wide_Over.c1q a0 a1 o5),1⟩,.cut ⟨[],[(0,0)],(poly_Wide_Over.c2p a0 a1 o5),1,.normal,(poly_Wide_Over.c2q o5 o8),1⟩,fF,.res (.more (.dp T12) (.one (.dp T12))) y11,.cutR 13 ⟨[],[],(poly_Wide_Over.c3p o8 y11),0,.normal,(poly_Wide_Over.c3q o8 y11 o15),0⟩,.cut ⟨[],[],(poly_Wide_Over.c4p o8 o15 y11),0,.ret,(poly_Wide_Over.c4q o8 (.inl ())),0⟩],[],via (cutP (aI tv0 e1) [(0,0)] (poly_Wide_Over.c1p a0 a1) (((poly_Wide_Over.c1_ok k a0 a1).ap e6)) (cutP tv0 [(0,0)] (poly_Wide_Over.c2p a0 a1 o5) (((poly_Wide_Over.c2_ok k a0 a1 o5).ap e9)) (cutP (aI (aI tv0 e10) e12) [] (poly_Wide_Over.c3p o8 y11) (((poly_Wide_Over.c3_ok k o8 y11).ap e16)) (cutP tv0 [] (poly_Wide_Over.c4p o8 o15 y11) (((poly_Wide_Over.c4_ok k o8 o15 y11).ap (e20.trans (congrArg some e22)))) (retP tv0 (.more (.dp T2) (.one (.dp T2))) (((0:Int),(2:Int)):(Int × Int))))))) (by kernel_rfl)⟩)) (fun y23 e24 =>
  oB fun o26 e27 =>
  oF (fun e28 =>
  oS (⟨[fF,.cut ⟨[],[(0,0)],(poly_Wide_Over.c1p a0 a1),1,.normal,(poly_Wide_Over.c1q a0 a1 o5),1⟩,.cut ⟨[],[(0,0)],(poly_Wide_Over.c2p a0 a1 o5),1,.normal,(poly_Wide_Over.c2q o5 o8),1⟩,fF,.res (.more (.dp T12) (.one (.dp T12))) y11,.cutR 13 ⟨[],[],(poly_Wide_Over.c3p o8 y11),0,.normal,(poly_Wide_Over.c3q o8 y11 o15),0⟩,.cut ⟨[],[],(poly_Wide_Over.c4p o8 o15 y11),0,.normal,(poly_Wide_Over.c4q o8 (.inr y23)),0⟩,.cutR 18 ⟨[],[],(poly_Wide_Over.c5p o8 y23),0,.normal,(poly_Wide_Over.c5q o8 y23 o26),0⟩,tT],[],via (cutP (aI tv0 e1) [(0,0)] (poly_Wide_Over.c1p a0 a1) (((poly_Wide_Over.c1_ok k a0 a1).ap e6)) (cutP tv0 [(0,0)] (poly_Wide_Over.c2p a0 a1 o5) (((poly_Wide_Over.c2_ok k a0 a1 o5).ap e9)) (cutP (aI (aI tv0 e10) e12) [] (poly_Wide_Over.c3p o8 y11) (((poly_Wide_Over.c3_ok k o8 y11).ap e16)) (cutP tv0 [] (poly_Wide_Over.c4p o8 o15 y11) (((poly_Wide_Over.c4_ok k o8 o15 y11).ap (e20.trans (congrArg some e24)))) (cutP tv0 [] (poly_Wide_Over.c5p o8 y23) (((poly_Wide_Over.c5_ok k o8 y23).ap e27)) (retP (aI tv0 e28) (.more (.dp T2) (.one (.dp T2))) (((icv .i64 (ineg .u64 y23)),(0:Int)):(Int × Int)))))))) (by kernel_rfl)⟩)) (fun e28 =>
  oB fun o30 e31 =>
  oF (fun e32 =>
  oS (⟨[fF,.cut ⟨[],[(0,0)],(poly_Wide_Over.c1p a0 a1),1,.normal,(poly_Wide_Over.c1q a0 a1 o5),1⟩,.cut ⟨[],[(0,0)],(poly_Wide_Over.c2p a0 a1 o5),1,.normal,(poly_Wide_Over.c2q o5 o8),1⟩,fF,.res (.more (.dp T12) (.one (.dp T12))) y11,.cutR 13 ⟨[],[],(poly_Wide_Over.c3p o8 y11),0,.normal,(poly_Wide_Over.c3q o8 y11 o15),0⟩,.cut ⟨[],[],(poly_Wide_Over.c4p o8 o15 y11),0,.normal,(poly_Wide_Over.c4q o8 (.inr y23)),0⟩,.cutR 18 ⟨[],[],(poly_Wide_Over.c5p o8 y23),0,.normal,(poly_Wide_Over.c5q o8 y23 o26),0⟩,fF,.cutR 20 ⟨[],[],(poly_Wide_Over.c6p o8 y23),0,.normal,(poly_Wide_Over.c6q y23 o30),0⟩,tT],[],via (cutP (aI tv0 e1) [(0,0)] (poly_Wide_Over.c1p a0 a1) (((poly_Wide_Over.c1_ok k a0 a1).ap e6)) (cutP tv0 [(0,0)] (poly_Wide_Over.c2p a0 a1 o5) (((poly_Wide_Over.c2_ok k a0 a1 o5).ap e9)) (cutP (aI (aI tv0 e10) e12) [] (poly_Wide_Over.c3p o8 y11) (((poly_Wide_Over.c3_ok k o8 y11).ap e16)) (cutP tv0 [] (poly_Wide_Over.c4p o8 o15 y11) (((poly_Wide_Over.c4_ok k o8 o15 y11).ap (e20.trans (congrArg some e24)))) (cutP tv0 [] (poly_Wide_Over.c5p o8 y23) (((poly_Wide_Over.c5_ok k o8 y23).ap e27)) (cutP (aI tv0 e28) [] (poly_Wide_Over.c6p o8 y23) (((poly_Wide_Over.c6_ok k o8 y23).ap e31)) (retP (aI tv0 e32) (.more (.dp T2) (.one (.dp T2))) (((icv .i64 y23),(0:Int)):(Int × Int))))))))) (by kernel_rfl)⟩)) (fun e32 =>
  oS (⟨[fF,.cut ⟨[],[(0,0)],(poly_Wide_Over.c1p a0 a1),1,.normal,(poly_Wide_Over.c1q a0 a1 o5),1⟩,.cut ⟨[],[(0,0)],(poly_Wide_Over.c2p a0 a1 o5),1,.normal,(poly_Wide_Over.c2q o5 o8),1⟩,fF,.res (.more (.dp T12) (.one (.dp T12))) y11,.cutR 13 ⟨[],[],(poly_Wide_Over.c3p o8 y11),0,.normal,(poly_Wide_Over.c3q o8 y11 o15),0⟩,.cut ⟨[],[],(poly_Wide_Over.c4p o8 o15 y11),0,.normal,(poly_Wide_Over.c4q o8 (.inr y23)),0⟩,.cutR 18 ⟨[],[],(poly_Wide_Over.c5p o8 y23),0,.normal,(poly_Wide_Over.c5q o8 y23 o26),0⟩,fF,.cutR 20 ⟨[],[],(poly_Wide_Over.c6p o8 y23),0,.normal,(poly_Wide_Over.c6q y23 o30),0⟩,fF],[],via (cutP (aI tv0 e1) [(0,0)] (poly_Wide_Over.c1p a0 a1) (((poly_Wide_Over.c1_ok k a0 a1).ap e6)) (cutP tv0 [(0,0)] (poly_Wide_Over.c2p a0 a1 o5) (((poly_Wide_Over.c2_ok k a0 a1 o5).ap e9)) (cutP (aI (aI tv0 e10) e12) [] (poly_Wide_Over.c3p o8 y11) (((poly_Wide_Over.c3_ok k o8 y11).ap e16)) (cutP tv0 [] (poly_Wide_Over.c4p o8 o15 y11) (((poly_Wide_Over.c4_ok k o8 o15 y11).ap (e20.trans (congrArg some e24)))) (cutP tv0 [] (poly_Wide_Over.c5p o8 y23) (((poly_Wide_Over.c5_ok k o8 y23).ap e27)) (cutP (aI tv0 e28) [] (poly_Wide_Over.c6p o8 y23) (((poly_Wide_Over.c6_ok k o8 y23).ap e31)) (retP (aI tv0 e32) (.more (.dp T2) (.one (.dp T2))) (((0:Int),(2:Int)):(Int × Int))))))))) (by kernel_rfl)⟩))))))
theorem poly_Wide_Over.ok (k:Nat):FnOk PR 91 (poly_Wide_Over.sp k) :=
 fn_ok (poly_Wide_Over.cok k) hmix Tryz.func91 (code:=poly_Wide_Over.code) (by kernel_rfl) (by kernel_rfl) (by kernel_rfl) rfl rfl (by kernel_rfl) (by kernel_rfl) (by kernel_rfl) (fun x=>Nat.le_of_ble_eq_true (by kernel_rfl)) fun x y hy=>(poly_Wide_Over.way k x.1 x.2.1).ap hy
noncomputable def poly_Has.code:Code:=Func.cd Tryz.f95
def poly_Has.c1 (k:Nat) (a0:(List V26)) (a1:V26):Option (Bool) :=
 bnd (poly_Check k a0) fun y1 =>
 bif' (ine y1 0)
 (some true)
 (bnd (poly_within k a1) fun y4 =>
  some (!y4))
def poly_Has.c2 (k:Nat) (a0:(List V26)) (a1:V26):Nat→Int→Option (Unit ⊕ Unit)
 | 0,_=>none
 | n+1,v9 =>
  bif' (ilt v9 (len a0))
  (req (inL v9 a0) <|req (nz (len a0)) <|req (inL (irem (iadd .i64 v9 1) (len a0)) a0) <|bnd (poly_side k (el Z26 a0 v9) (el Z26 a0 (irem (iadd .i64 v9 1) (len a0))) a1) fun y14 =>
  bif' (ilt y14 0)
  (some (.inl ()))
  (poly_Has.c2 k a0 a1 n (iadd .i64 v9 1)))
  (some (.inr ()))
def poly_Has (k:Nat) (a0:(List V26)) (a1:V26):Option Bool :=
 bnd (poly_Has.c1 k a0 a1) fun o6 =>
 bif' o6
 (some false)
 (bnd (poly_Has.c2 k a0 a1 k 0) fun o17 =>
  two o17 (fun y19 =>
  some false) (fun y21 =>
  some true))
noncomputable def poly_Has.sp (k:Nat):Go.Sx.Spec:=⟨(.pair T36 (.pair T26 .unit)),(.one (.dp T4)),fun x=>poly_Has k x.1 x.2.1,false⟩
noncomputable def poly_Has.cx (k:Nat):Go.Sx.Ctx:=⟨tys,[(18,poly_Check.sp k),(31,poly_within.sp k),(32,poly_side.sp k)],eqs,35,0,[],false⟩
theorem poly_Has.cok (k:Nat):CtxOk PR (poly_Has.cx k):=ctx_ok tysOk eqsOk (fC (poly_Check.ok k) (fC (poly_within.ok k) (fC (poly_side.ok k) FnsOk.nil))) HsOk.nil
noncomputable def poly_Has.c1p (a0:(List V26)) (a1:V26):SL:=⟨[(0,(.val T36 a0)),(3,(.val .ptr ⟨0,0,(0:Int),0,0⟩))],[(0,.cells T26 a1)]⟩
noncomputable def poly_Has.c1q (a0:(List V26)) (a1:V26) (o:Bool):SL:=(fun v=>⟨[(0,(.val T36 a0)),(3,(.val .ptr ⟨0,0,(0:Int),0,0⟩)),(14,(.val T4 v))],[(0,.cells T26 a1)]⟩) o
noncomputable def poly_Has.c1x (o:Bool):Ex:=(fun _=>.normal) o
noncomputable def poly_Has.c1n (o:Bool):Nat:=(fun _=>1) o
theorem poly_Has.c1_ok (k:Nat) (a0:(List V26)) (a1:V26):Owp (poly_Has.c1 k a0 a1) fun o=>Triple PR (poly_Has.cx k) (sub poly_Has.code [1,0,0]) 1 (poly_Has.c1p a0 a1) (poly_Has.c1x o) (poly_Has.c1n o) (poly_Has.c1q a0 a1 o):=by
 unfold poly_Has.c1; exact
  oB fun y1 e2 =>
  oF (fun e3 =>
  oS (tW (poly_Has.cok k) hmix [rS T2 y1,tT,tT,tT,tT,tT] [] [(0,0)] (via (finP (aI (aI (aI (aI (aI tv0 e2) e3) e3) e3) e3) .normal [(0,0)] (poly_Has.c1q a0 a1 true)) (by kernel_rfl)))) (fun e3 =>
  oB fun y4 e5 =>
  oS (tW (poly_Has.cok k) hmix [rS T2 y1,fF,fF,rS T4 y4,fF,fF] [] [(0,0)] (via (finP (aI (aI (aI (aI (aI tv0 e2) e3) (aI e3 e5)) e3) e3) .normal [(0,0)] (poly_Has.c1q a0 a1 (!y4))) (by kernel_rfl))))
noncomputable def poly_Has.c2p (a0:(List V26)) (a1:V26) (v9:Int):SL:=⟨[(0,(.val T36 a0)),(3,(.val .ptr ⟨0,0,(0:Int),0,0⟩)),(15,(.val T36 a0)),(16,(.val T2 (len a0))),(17,(.val T2 v9))],[(0,.cells T26 a1)]⟩
noncomputable def poly_Has.c2q (o:Unit ⊕ Unit):SL:=(fun o=>two o (fun v=>⟨[(4,(.val T4 false))],[]⟩) (fun v=>⟨[],[]⟩)) o
noncomputable def poly_Has.c2x (o:Unit ⊕ Unit):Ex:=(fun o=>two o (fun _=>.ret) (fun _=>(.exit 0))) o
noncomputable def poly_Has.c2n (o:Unit ⊕ Unit):Nat:=(fun o=>two o (fun _=>0) (fun _=>0)) o
theorem poly_Has.c2_ok (k:Nat) (a0:(List V26)) (a1:V26):∀ (n:Nat) (v9:Int),Owp (poly_Has.c2 k a0 a1 n v9) fun o=>LTriple PR (poly_Has.cx k) (sub poly_Has.code [1,1,0,1,0,0]) 1 (poly_Has.c2p a0 a1 v9) (poly_Has.c2x o) (poly_Has.c2n o) (poly_Has.c2q o)
 | 0,_=>fun _ h=>nomatch h
 | n+1,v9=>Owp.of (poly_Has.c2.eq_2 ..) (
  oF (fun e10 =>
  oR fun h11 =>
  oR fun h12 =>
  oR fun h13 =>
  oB fun y14 e15 =>
  oF (fun e16 =>
  oS (loop_exit (poly_Has.cok k) hmix [tT,rS T2 y14,tT] [] [] exne_ret (via (finP (aI (aI (aI (aI (aI (aI tv0 e10) h11) h12) h13) e15) e16) .ret [] (poly_Has.c2q (.inl ()))) (by kernel_rfl)))) (fun e16 =>
  fun y hy=>loop_back (poly_Has.cok k) hmix 1 (poly_Has.c2p a0 a1 (iadd .i64 v9 (1:Int))) [tT,rS T2 y14,fF] [] [(0,0)] (via (finP (aI (aI (aI (aI (aI (aI tv0 e10) h11) h12) h13) e15) e16) .normal [(0,0)] (poly_Has.c2p a0 a1 (iadd .i64 v9 (1:Int)))) (by kernel_rfl)) ((poly_Has.c2_ok k a0 a1 n (iadd .i64 v9 (1:Int))).ap hy))) (fun e10 =>
  oS (loop_exit (poly_Has.cok k) hmix [fF] [] [] (exne 0) (via (finP (aI tv0 e10) (.exit 0) [] (poly_Has.c2q (.inr ()))) (by kernel_rfl)))))
theorem poly_Has.way (k:Nat) (a0:(List V26)) (a1:V26):Owp (poly_Has k a0 a1) fun y=>∃ w c0,exec PR (poly_Has.cx k) poly_Has.code 0 (entry (.pair T36 (.pair T26 .unit)) (a0,a1,())).st w (Ret (poly_Has.cx k) Tryz.f95 c0 (.one (.dp T4)) y):=by
 unfold poly_Has; exact
  oB fun o6 e7 =>
  oF (fun e8 =>
  oS (⟨[.cutR 1 ⟨[],[(0,0)],(poly_Has.c1p a0 a1),1,.normal,(poly_Has.c1q a0 a1 o6),1⟩,tT],[],via (cutP tv0 [(0,0)] (poly_Has.c1p a0 a1) (((poly_Has.c1_ok k a0 a1).ap e7)) (retP (aI tv0 e8) (.one (.dp T4)) (false:Bool))) (by kernel_rfl)⟩)) (fun e8 =>
  oB fun o17 e18 =>
  Owp.two (fun y19 e20 =>
  oS (⟨[.cutR 1 ⟨[],[(0,0)],(poly_Has.c1p a0 a1),1,.normal,(poly_Has.c1q a0 a1 o6),1⟩,fF,.cut ⟨[],[(0,0)],(poly_Has.c2p a0 a1 (0:Int)),1,.ret,(poly_Has.c2q (.inl ())),0⟩],[],via (cutP tv0 [(0,0)] (poly_Has.c1p a0 a1) (((poly_Has.c1_ok k a0 a1).ap e7)) (cutP (aI tv0 e8) [(0,0)] (poly_Has.c2p a0 a1 (0:Int)) (((poly_Has.c2_ok k a0 a1 k (0:Int)).ap (e18.trans (congrArg some e20))).triple) (retP tv0 (.one (.dp T4)) (false:Bool)))) (by kernel_rfl)⟩)) (fun y21 e22 =>
  oS (⟨[.cutR 1 ⟨[],[(0,0)],(poly_Has.c1p a0 a1),1,.normal,(poly_Has.c1q a0 a1 o6),1⟩,fF,.cut ⟨[],[(0,0)],(poly_Has.c2p a0 a1 (0:Int)),1,(.exit 0),(poly_Has.c2q (.inr ())),0⟩],[],via (cutP tv0 [(0,0)] (poly_Has.c1p a0 a1) (((poly_Has.c1_ok k a0 a1).ap e7)) (cutP (aI tv0 e8) [(0,0)] (poly_Has.c2p a0 a1 (0:Int)) (((poly_Has.c2_ok k a0 a1 k (0:Int)).ap (e18.trans (congrArg some e22))).triple) (retP tv0 (.one (.dp T4)) (true:Bool)))) (by kernel_rfl)⟩)))
theorem poly_Has.ok (k:Nat):FnOk PR 95 (poly_Has.sp k) :=
 fn_ok (poly_Has.cok k) hmix Tryz.func95 (code:=poly_Has.code) (by kernel_rfl) (by kernel_rfl) (by kernel_rfl) rfl rfl (by kernel_rfl) (by kernel_rfl) (by kernel_rfl) (fun x=>Nat.le_of_ble_eq_true (by kernel_rfl)) fun x y hy=>(poly_Has.way k x.1 x.2.1).ap hy
noncomputable def fix_Clamp.code:Code:=Func.cd Tryz.f50
def fix_Clamp (k:Nat) (a0:Int):Option Int :=
 some (imin (imax a0 (-1099511627776)) 1099511627776)
noncomputable def fix_Clamp.sp (k:Nat):Go.Sx.Spec:=⟨(.pair T2 .unit),(.one (.dp T2)),fun x=>fix_Clamp k x.1,false⟩
noncomputable def fix_Clamp.cx (k:Nat):Go.Sx.Ctx:=⟨tys,[],eqs,6,0,[],false⟩
theorem fix_Clamp.cok (k:Nat):CtxOk PR (fix_Clamp.cx k):=ctx_ok tysOk eqsOk FnsOk.nil HsOk.nil
theorem fix_Clamp.way (k:Nat) (a0:Int):Owp (fix_Clamp k a0) fun y=>∃ w c0,exec PR (fix_Clamp.cx k) fix_Clamp.code 0 (entry (.pair T2 .unit) (a0,())).st w (Ret (fix_Clamp.cx k) Tryz.f50 c0 (.one (.dp T2)) y):=by
 unfold fix_Clamp; exact
  oS (⟨[],[],via (retP tv0 (.one (.dp T2)) ((imin (imax a0 (-1099511627776:Int)) (1099511627776:Int)):Int)) (by kernel_rfl)⟩)
theorem fix_Clamp.ok (k:Nat):FnOk PR 50 (fix_Clamp.sp k) :=
 fn_ok (fix_Clamp.cok k) hmix Tryz.func50 (code:=fix_Clamp.code) (by kernel_rfl) (by kernel_rfl) (by kernel_rfl) rfl rfl (by kernel_rfl) (by kernel_rfl) (by kernel_rfl) (fun x=>Nat.le_of_ble_eq_true (by kernel_rfl)) fun x y hy=>(fix_Clamp.way k x.1).ap hy
noncomputable def fix_Add.code:Code:=Func.cd Tryz.f23
def fix_Add (k:Nat) (a0 a1:Int):Option Int :=
 bnd (fix_Clamp k a0) fun y1 =>
 bnd (fix_Clamp k a1) fun y3 =>
 bnd (fix_Clamp k (iadd .i64 y1 y3)) fun y5 =>
 some y5
noncomputable def fix_Add.sp (k:Nat):Go.Sx.Spec:=⟨T26,(.one (.dp T2)),fun x=>fix_Add k x.1 x.2.1,false⟩
noncomputable def fix_Add.cx (k:Nat):Go.Sx.Ctx:=⟨tys,[(50,fix_Clamp.sp k)],eqs,11,0,[],false⟩
theorem fix_Add.cok (k:Nat):CtxOk PR (fix_Add.cx k):=ctx_ok tysOk eqsOk (fC (fix_Clamp.ok k) FnsOk.nil) HsOk.nil
theorem fix_Add.way (k:Nat) (a0 a1:Int):Owp (fix_Add k a0 a1) fun y=>∃ w c0,exec PR (fix_Add.cx k) fix_Add.code 0 (entry T26 (a0,a1,())).st w (Ret (fix_Add.cx k) Tryz.f23 c0 (.one (.dp T2)) y):=by
 unfold fix_Add; exact
  oB fun y1 e2 =>
  oB fun y3 e4 =>
  oB fun y5 e6 =>
  oS (⟨[rS T2 y1,rS T2 y3,rS T2 y5],[],via (retP (aI (aI (aI tv0 e2) e4) e6) (.one (.dp T2)) (y5:Int)) (by kernel_rfl)⟩)
theorem fix_Add.ok (k:Nat):FnOk PR 23 (fix_Add.sp k) :=
 fn_ok (fix_Add.cok k) hmix Tryz.func23 (code:=fix_Add.code) (by kernel_rfl) (by kernel_rfl) (by kernel_rfl) rfl rfl (by kernel_rfl) (by kernel_rfl) (by kernel_rfl) (fun x=>Nat.le_of_ble_eq_true (by kernel_rfl)) fun x y hy=>(fix_Add.way k x.1 x.2.1).ap hy
noncomputable def fix_mag.code:Code:=Func.cd Tryz.f141
def fix_mag (k:Nat) (a0:Int):Option Int :=
 bif' (ilt a0 0)
 (some (icv .u64 (ineg .i64 a0)))
 (some (icv .u64 a0))
noncomputable def fix_mag.sp (k:Nat):Go.Sx.Spec:=⟨(.pair T2 .unit),(.one (.dp T12)),fun x=>fix_mag k x.1,false⟩
noncomputable def fix_mag.cx (k:Nat):Go.Sx.Ctx:=⟨tys,[],eqs,10,0,[],false⟩
theorem fix_mag.cok (k:Nat):CtxOk PR (fix_mag.cx k):=ctx_ok tysOk eqsOk FnsOk.nil HsOk.nil
theorem fix_mag.way (k:Nat) (a0:Int):Owp (fix_mag k a0) fun y=>∃ w c0,exec PR (fix_mag.cx k) fix_mag.code 0 (entry (.pair T2 .unit) (a0,())).st w (Ret (fix_mag.cx k) Tryz.f141 c0 (.one (.dp T12)) y):=by
 unfold fix_mag; exact
  oF (fun e1 =>
  oS (⟨[tT],[],via (retP (aI tv0 e1) (.one (.dp T12)) ((icv .u64 (ineg .i64 a0)):Int)) (by kernel_rfl)⟩)) (fun e1 =>
  oS (⟨[fF],[],via (retP (aI tv0 e1) (.one (.dp T12)) ((icv .u64 a0):Int)) (by kernel_rfl)⟩))
theorem fix_mag.ok (k:Nat):FnOk PR 141 (fix_mag.sp k) :=
 fn_ok (fix_mag.cok k) hmix Tryz.func141 (code:=fix_mag.code) (by kernel_rfl) (by kernel_rfl) (by kernel_rfl) rfl rfl (by kernel_rfl) (by kernel_rfl) (by kernel_rfl) (fun x=>Nat.le_of_ble_eq_true (by kernel_rfl)) fun x y hy=>(fix_mag.way k x.1).ap hy
noncomputable def fix_MulDiv.code:Code:=Func.cd Tryz.f85
def fix_MulDiv.c1 (k:Nat) (y1 y3:Int):Option (Bool) :=
 bif' (ilt y3 0)
 (some (!(ilt y1 0)))
 (some (ilt y1 0))
def fix_MulDiv.c2 (k:Nat) (o9:Bool) (y5:Int):Option (Bool) :=
 bif' (ilt y5 0)
 (some (!o9))
 (some o9)
def fix_MulDiv.c3 (k:Nat) (y24:(Int × Int)):Option ((Int × Int)) :=
 bif' (igt y24.1 1099511627776)
 (some (1099511627777,0))
 (some (y24.1,y24.2))
def fix_MulDiv.c4 (k:Nat) (o27:(Int × Int)) (y14:Int):Option (Int) :=
 bif' (igt o27.2 (isub .u64 y14 o27.2))
 (some (iadd .i64 (icv .i64 o27.1) 1))
 (some (icv .i64 o27.1))
def fix_MulDiv.c5 (k:Nat) (o27:(Int × Int)) (y14:Int):Option (Int) :=
 bif' (ige o27.2 (isub .u64 y14 o27.2))
 (some (iadd .i64 (icv .i64 o27.1) 1))
 (some (icv .i64 o27.1))
def fix_MulDiv (k:Nat) (a0 a1 a2:Int):Option Int :=
 bnd (fix_Clamp k a0) fun y1 =>
 bnd (fix_Clamp k a1) fun y3 =>
 bnd (fix_Clamp k a2) fun y5 =>
 bif' (ieq y5 0)
 (some 0)
 (bnd (fix_MulDiv.c1 k y1 y3) fun o9 =>
  bnd (fix_MulDiv.c2 k o9 y5) fun o12 =>
  bnd (fix_mag k y5) fun y14 =>
  bnd (fix_mag k y1) fun y16 =>
  bnd (fix_mag k y3) fun y18 =>
  bnd (bits_Mul64 k y16 y18) fun y20 =>
  bif' (ige y20.1 y14)
  (bif' o12
  (some (-1099511627776))
  (some 1099511627776))
  (bnd (bits_Div64 k y20.1 y20.2 y14) fun y24 =>
  bnd (fix_MulDiv.c3 k y24) fun o27 =>
  bif' o12
  (bnd (fix_MulDiv.c4 k o27 y14) fun o31 =>
  bnd (fix_Clamp k (ineg .i64 o31)) fun y33 =>
  some y33)
  (bnd (fix_MulDiv.c5 k o27 y14) fun o36 =>
  bnd (fix_Clamp k o36) fun y38 =>
  some y38)))
noncomputable def fix_MulDiv.sp (k:Nat):Go.Sx.Spec:=⟨(.pair T2 T26),(.one (.dp T2)),fun x=>fix_MulDiv k x.1 x.2.1 x.2.2.1,false⟩
noncomputable def fix_MulDiv.cx (k:Nat):Go.Sx.Ctx:=⟨tys,[(50,fix_Clamp.sp k),(141,fix_mag.sp k),(99,bits_Mul64.sp k),(142,bits_Div64.sp k)],eqs,78,0,[],false⟩
theorem fix_MulDiv.cok (k:Nat):CtxOk PR (fix_MulDiv.cx k):=ctx_ok tysOk eqsOk (fC (fix_Clamp.ok k) (fC (fix_mag.ok k) (fC (bits_Mul64.ok k) (fC (bits_Div64.ok k) FnsOk.nil)))) HsOk.nil
noncomputable def fix_MulDiv.c1p (y1 y3 y5:Int):SL:=⟨[(0,(.val T2 y1)),(1,(.val T2 y3)),(2,(.val T2 y5)),(7,(.val T4 (ilt y1 (0:Int)))),(25,(.val T4 (ilt y3 (0:Int))))],[]⟩
noncomputable def fix_MulDiv.c1q (y1 y3 y5:Int) (o:Bool):SL:=(fun v=>⟨[(0,(.val T2 y1)),(1,(.val T2 y3)),(2,(.val T2 y5)),(7,(.val T4 v))],[]⟩) o
noncomputable def fix_MulDiv.c1x (o:Bool):Ex:=(fun _=>.normal) o
noncomputable def fix_MulDiv.c1n (o:Bool):Nat:=(fun _=>0) o
theorem fix_MulDiv.c1_ok (k:Nat) (y1 y3 y5:Int):Owp (fix_MulDiv.c1 k y1 y3) fun o=>Triple PR (fix_MulDiv.cx k) (sub fix_MulDiv.code [1,1,1,1,0,1]) 0 (fix_MulDiv.c1p y1 y3 y5) (fix_MulDiv.c1x o) (fix_MulDiv.c1n o) (fix_MulDiv.c1q y1 y3 y5 o):=by
 unfold fix_MulDiv.c1; exact
  oF (fun e8 =>
  oS (tW (fix_MulDiv.cok k) hmix [tT] [] [] (via (finP (aI tv0 e8) .normal [] (fix_MulDiv.c1q y1 y3 y5 (!(ilt y1 (0:Int))))) (by kernel_rfl)))) (fun e8 =>
  oS (tW (fix_MulDiv.cok k) hmix [fF] [] [] (via (finP (aI tv0 e8) .normal [] (fix_MulDiv.c1q y1 y3 y5 (ilt y1 (0:Int)))) (by kernel_rfl))))
noncomputable def fix_MulDiv.c2p (o9:Bool) (y1 y3 y5:Int):SL:=⟨[(0,(.val T2 y1)),(1,(.val T2 y3)),(2,(.val T2 y5)),(7,(.val T4 o9)),(29,(.val T4 (ilt y5 (0:Int))))],[]⟩
noncomputable def fix_MulDiv.c2q (y1 y3 y5:Int) (o:Bool):SL:=(fun v=>⟨[(0,(.val T2 y1)),(1,(.val T2 y3)),(2,(.val T2 y5)),(7,(.val T4 v))],[]⟩) o
noncomputable def fix_MulDiv.c2x (o:Bool):Ex:=(fun _=>.normal) o
noncomputable def fix_MulDiv.c2n (o:Bool):Nat:=(fun _=>0) o
theorem fix_MulDiv.c2_ok (k:Nat) (o9:Bool) (y1 y3 y5:Int):Owp (fix_MulDiv.c2 k o9 y5) fun o=>Triple PR (fix_MulDiv.cx k) (sub fix_MulDiv.code [1,1,1,1,1,0,1]) 0 (fix_MulDiv.c2p o9 y1 y3 y5) (fix_MulDiv.c2x o) (fix_MulDiv.c2n o) (fix_MulDiv.c2q y1 y3 y5 o):=by
 unfold fix_MulDiv.c2; exact
  oF (fun e11 =>
  oS (tW (fix_MulDiv.cok k) hmix [tT] [] [] (via (finP (aI tv0 e11) .normal [] (fix_MulDiv.c2q y1 y3 y5 (!o9))) (by kernel_rfl)))) (fun e11 =>
  oS (tW (fix_MulDiv.cok k) hmix [fF] [] [] (via (finP (aI tv0 e11) .normal [] (fix_MulDiv.c2q y1 y3 y5 o9)) (by kernel_rfl))))
noncomputable def fix_MulDiv.c3p (o12:Bool) (y14:Int) (y24:(Int × Int)):SL:=⟨[(7,(.val T4 o12)),(8,(.val T12 y14)),(11,(.val T12 y24.1)),(12,(.val T12 y24.2)),(54,(.val T4 (igt y24.1 (1099511627776:Int))))],[]⟩
noncomputable def fix_MulDiv.c3q (o12:Bool) (y14:Int) (o:(Int × Int)):SL:=(fun v=>⟨[(7,(.val T4 o12)),(8,(.val T12 y14)),(11,(.val T12 v.1)),(12,(.val T12 v.2))],[]⟩) o
noncomputable def fix_MulDiv.c3x (o:(Int × Int)):Ex:=(fun _=>.normal) o
noncomputable def fix_MulDiv.c3n (o:(Int × Int)):Nat:=(fun _=>0) o
theorem fix_MulDiv.c3_ok (k:Nat) (o12:Bool) (y14:Int) (y24:(Int × Int)):Owp (fix_MulDiv.c3 k y24) fun o=>Triple PR (fix_MulDiv.cx k) (sub fix_MulDiv.code [1,1,1,1,1,1,1,1,1,1,0,1]) 0 (fix_MulDiv.c3p o12 y14 y24) (fix_MulDiv.c3x o) (fix_MulDiv.c3n o) (fix_MulDiv.c3q o12 y14 o):=by
 unfold fix_MulDiv.c3; exact
  oF (fun e26 =>
  oS (tW (fix_MulDiv.cok k) hmix [tT] [] [] (via (finP (aI tv0 e26) .normal [] (fix_MulDiv.c3q o12 y14 ((1099511627777:Int),(0:Int)))) (by kernel_rfl)))) (fun e26 =>
  oS (tW (fix_MulDiv.cok k) hmix [fF] [] [] (via (finP (aI tv0 e26) .normal [] (fix_MulDiv.c3q o12 y14 (y24.1,y24.2))) (by kernel_rfl))))
noncomputable def fix_MulDiv.c4p (o27:(Int × Int)) (y14:Int):SL:=⟨[(13,(.val T2 (icv .i64 o27.1))),(72,(.val T4 (igt o27.2 (isub .u64 y14 o27.2))))],[]⟩
noncomputable def fix_MulDiv.c4q (o:Int):SL:=(fun v=>⟨[(13,(.val T2 v))],[]⟩) o
noncomputable def fix_MulDiv.c4x (o:Int):Ex:=(fun _=>.normal) o
noncomputable def fix_MulDiv.c4n (o:Int):Nat:=(fun _=>0) o
theorem fix_MulDiv.c4_ok (k:Nat) (o27:(Int × Int)) (y14:Int):Owp (fix_MulDiv.c4 k o27 y14) fun o=>Triple PR (fix_MulDiv.cx k) (sub fix_MulDiv.code [1,1,1,1,1,1,1,1,1,1,1,1,1,0,1]) 0 (fix_MulDiv.c4p o27 y14) (fix_MulDiv.c4x o) (fix_MulDiv.c4n o) (fix_MulDiv.c4q o):=by
 unfold fix_MulDiv.c4; exact
  oF (fun e30 =>
  oS (tW (fix_MulDiv.cok k) hmix [tT] [] [] (via (finP (aI tv0 e30) .normal [] (fix_MulDiv.c4q (iadd .i64 (icv .i64 o27.1) (1:Int)))) (by kernel_rfl)))) (fun e30 =>
  oS (tW (fix_MulDiv.cok k) hmix [fF] [] [] (via (finP (aI tv0 e30) .normal [] (fix_MulDiv.c4q (icv .i64 o27.1))) (by kernel_rfl))))
noncomputable def fix_MulDiv.c5p (o27:(Int × Int)) (y14:Int):SL:=⟨[(13,(.val T2 (icv .i64 o27.1))),(63,(.val T4 (ige o27.2 (isub .u64 y14 o27.2))))],[]⟩
noncomputable def fix_MulDiv.c5q (o:Int):SL:=(fun v=>⟨[(13,(.val T2 v))],[]⟩) o
noncomputable def fix_MulDiv.c5x (o:Int):Ex:=(fun _=>.normal) o
noncomputable def fix_MulDiv.c5n (o:Int):Nat:=(fun _=>0) o
theorem fix_MulDiv.c5_ok (k:Nat) (o27:(Int × Int)) (y14:Int):Owp (fix_MulDiv.c5 k o27 y14) fun o=>Triple PR (fix_MulDiv.cx k) (sub fix_MulDiv.code [1,1,1,1,1,1,1,1,1,1,1,1,0,1,0,0,1]) 0 (fix_MulDiv.c5p o27 y14) (fix_MulDiv.c5x o) (fix_MulDiv.c5n o) (fix_MulDiv.c5q o):=by
 unfold fix_MulDiv.c5; exact
  oF (fun e35 =>
  oS (tW (fix_MulDiv.cok k) hmix [tT] [] [] (via (finP (aI tv0 e35) .normal [] (fix_MulDiv.c5q (iadd .i64 (icv .i64 o27.1) (1:Int)))) (by kernel_rfl)))) (fun e35 =>
  oS (tW (fix_MulDiv.cok k) hmix [fF] [] [] (via (finP (aI tv0 e35) .normal [] (fix_MulDiv.c5q (icv .i64 o27.1))) (by kernel_rfl))))
theorem fix_MulDiv.way (k:Nat) (a0 a1 a2:Int):Owp (fix_MulDiv k a0 a1 a2) fun y=>∃ w c0,exec PR (fix_MulDiv.cx k) fix_MulDiv.code 0 (entry (.pair T2 T26) (a0,a1,a2,())).st w (Ret (fix_MulDiv.cx k) Tryz.f85 c0 (.one (.dp T2)) y):=by
 unfold fix_MulDiv; exact
  oB fun y1 e2 =>
  oB fun y3 e4 =>
  oB fun y5 e6 =>
  oF (fun e7 =>
  oS (⟨[rS T2 y1,rS T2 y3,rS T2 y5,tT],[],via (retP (aI (aI (aI (aI tv0 e2) e4) e6) e7) (.one (.dp T2)) ((0:Int):Int)) (by kernel_rfl)⟩)) (fun e7 =>
  oB fun o9 e10 =>
  oB fun o12 e13 =>
  oB fun y14 e15 =>
  oB fun y16 e17 =>
  oB fun y18 e19 =>
  oB fun y20 e21 =>
  oF (fun e22 =>
  oF (fun e23 =>
  oS (⟨[rS T2 y1,rS T2 y3,rS T2 y5,fF,.cut ⟨[],[],(fix_MulDiv.c1p y1 y3 y5),0,.normal,(fix_MulDiv.c1q y1 y3 y5 o9),0⟩,.cut ⟨[],[],(fix_MulDiv.c2p o9 y1 y3 y5),0,.normal,(fix_MulDiv.c2q y1 y3 y5 o12),0⟩,rS T12 y14,rS T12 y16,rS T12 y18,.res (.more (.dp T12) (.one (.dp T12))) y20,tT,tT],[],via (cutP (aI (aI (aI (aI tv0 e2) e4) e6) e7) [] (fix_MulDiv.c1p y1 y3 y5) (((fix_MulDiv.c1_ok k y1 y3 y5).ap e10)) (cutP tv0 [] (fix_MulDiv.c2p o9 y1 y3 y5) (((fix_MulDiv.c2_ok k o9 y1 y3 y5).ap e13)) (retP (aI (aI (aI (aI (aI (aI tv0 e15) e17) e19) e21) e22) e23) (.one (.dp T2)) ((-1099511627776:Int):Int)))) (by kernel_rfl)⟩)) (fun e23 =>
  oS (⟨[rS T2 y1,rS T2 y3,rS T2 y5,fF,.cut ⟨[],[],(fix_MulDiv.c1p y1 y3 y5),0,.normal,(fix_MulDiv.c1q y1 y3 y5 o9),0⟩,.cut ⟨[],[],(fix_MulDiv.c2p o9 y1 y3 y5),0,.normal,(fix_MulDiv.c2q y1 y3 y5 o12),0⟩,rS T12 y14,rS T12 y16,rS T12 y18,.res (.more (.dp T12) (.one (.dp T12))) y20,tT,fF],[],via (cutP (aI (aI (aI (aI tv0 e2) e4) e6) e7) [] (fix_MulDiv.c1p y1 y3 y5) (((fix_MulDiv.c1_ok k y1 y3 y5).ap e10)) (cutP tv0 [] (fix_MulDiv.c2p o9 y1 y3 y5) (((fix_MulDiv.c2_ok k o9 y1 y3 y5).ap e13)) (retP (aI (aI (aI (aI (aI (aI tv0 e15) e17) e19) e21) e22) e23) (.one (.dp T2)) ((1099511627776:Int):Int)))) (by kernel_rfl)⟩))) (fun e22 =>
  oB fun y24 e25 =>
  oB fun o27 e28 =>
  oF (fun e29 =>
  oB fun o31 e32 =>
  oB fun y33 e34 =>
  oS (⟨[rS T2 y1,rS T2 y3,rS T2 y5,fF,.cut ⟨[],[],(fix_MulDiv.c1p y1 y3 y5),0,.normal,(fix_MulDiv.c1q y1 y3 y5 o9),0⟩,.cut ⟨[],[],(fix_MulDiv.c2p o9 y1 y3 y5),0,.normal,(fix_MulDiv.c2q y1 y3 y5 o12),0⟩,rS T12 y14,rS T12 y16,rS T12 y18,.res (.more (.dp T12) (.one (.dp T12))) y20,fF,.res (.more (.dp T12) (.one (.dp T12))) y24,.cut ⟨[],[],(fix_MulDiv.c3p o12 y14 y24),0,.normal,(fix_MulDiv.c3q o12 y14 o27),0⟩,fF,.cut ⟨[],[],(fix_MulDiv.c4p o27 y14),0,.normal,(fix_MulDiv.c4q o31),0⟩,rS T2 y33],[],via (cutP (aI (aI (aI (aI tv0 e2) e4) e6) e7) [] (fix_MulDiv.c1p y1 y3 y5) (((fix_MulDiv.c1_ok k y1 y3 y5).ap e10)) (cutP tv0 [] (fix_MulDiv.c2p o9 y1 y3 y5) (((fix_MulDiv.c2_ok k o9 y1 y3 y5).ap e13)) (cutP (aI (aI (aI (aI (aI (aI tv0 e15) e17) e19) e21) e22) e25) [] (fix_MulDiv.c3p o12 y14 y24) (((fix_MulDiv.c3_ok k o12 y14 y24).ap e28)) (cutP (aI tv0 (congrArg not e29)) [] (fix_MulDiv.c4p o27 y14) (((fix_MulDiv.c4_ok k o27 y14).ap e32)) (retP (aI tv0 e34) (.one (.dp T2)) (y33:Int)))))) (by kernel_rfl)⟩)) (fun e29 =>
  oB fun o36 e37 =>
  oB fun y38 e39 =>
  oS (⟨[rS T2 y1,rS T2 y3,rS T2 y5,fF,.cut ⟨[],[],(fix_MulDiv.c1p y1 y3 y5),0,.normal,(fix_MulDiv.c1q y1 y3 y5 o9),0⟩,.cut ⟨[],[],(fix_MulDiv.c2p o9 y1 y3 y5),0,.normal,(fix_MulDiv.c2q y1 y3 y5 o12),0⟩,rS T12 y14,rS T12 y16,rS T12 y18,.res (.more (.dp T12) (.one (.dp T12))) y20,fF,.res (.more (.dp T12) (.one (.dp T12))) y24,.cut ⟨[],[],(fix_MulDiv.c3p o12 y14 y24),0,.normal,(fix_MulDiv.c3q o12 y14 o27),0⟩,tT,.cut ⟨[],[],(fix_MulDiv.c5p o27 y14),0,.normal,(fix_MulDiv.c5q o36),0⟩,rS T2 y38],[],via (cutP (aI (aI (aI (aI tv0 e2) e4) e6) e7) [] (fix_MulDiv.c1p y1 y3 y5) (((fix_MulDiv.c1_ok k y1 y3 y5).ap e10)) (cutP tv0 [] (fix_MulDiv.c2p o9 y1 y3 y5) (((fix_MulDiv.c2_ok k o9 y1 y3 y5).ap e13)) (cutP (aI (aI (aI (aI (aI (aI tv0 e15) e17) e19) e21) e22) e25) [] (fix_MulDiv.c3p o12 y14 y24) (((fix_MulDiv.c3_ok k o12 y14 y24).ap e28)) (cutP (aI tv0 (congrArg not e29)) [] (fix_MulDiv.c5p o27 y14) (((fix_MulDiv.c5_ok k o27 y14).ap e37)) (retP (aI tv0 e39) (.one (.dp T2)) (y38:Int)))))) (by kernel_rfl)⟩))))
theorem fix_MulDiv.ok (k:Nat):FnOk PR 85 (fix_MulDiv.sp k) :=
 fn_ok (fix_MulDiv.cok k) hmix Tryz.func85 (code:=fix_MulDiv.code) (by kernel_rfl) (by kernel_rfl) (by kernel_rfl) rfl rfl (by kernel_rfl) (by kernel_rfl) (by kernel_rfl) (fun x=>Nat.le_of_ble_eq_true (by kernel_rfl)) fun x y hy=>(fix_MulDiv.way k x.1 x.2.1 x.2.2.1).ap hy
noncomputable def fix_Mul.code:Code:=Func.cd Tryz.f47
def fix_Mul (k:Nat) (a0 a1:Int):Option Int :=
 bnd (fix_MulDiv k a0 a1 65536) fun y1 =>
 some y1
noncomputable def fix_Mul.sp (k:Nat):Go.Sx.Spec:=⟨T26,(.one (.dp T2)),fun x=>fix_Mul k x.1 x.2.1,false⟩
noncomputable def fix_Mul.cx (k:Nat):Go.Sx.Ctx:=⟨tys,[(85,fix_MulDiv.sp k)],eqs,8,0,[],false⟩
theorem fix_Mul.cok (k:Nat):CtxOk PR (fix_Mul.cx k):=ctx_ok tysOk eqsOk (fC (fix_MulDiv.ok k) FnsOk.nil) HsOk.nil
theorem fix_Mul.way (k:Nat) (a0 a1:Int):Owp (fix_Mul k a0 a1) fun y=>∃ w c0,exec PR (fix_Mul.cx k) fix_Mul.code 0 (entry T26 (a0,a1,())).st w (Ret (fix_Mul.cx k) Tryz.f47 c0 (.one (.dp T2)) y):=by
 unfold fix_Mul; exact
  oB fun y1 e2 =>
  oS (⟨[rS T2 y1],[],via (retP (aI tv0 e2) (.one (.dp T2)) (y1:Int)) (by kernel_rfl)⟩)
theorem fix_Mul.ok (k:Nat):FnOk PR 47 (fix_Mul.sp k) :=
 fn_ok (fix_Mul.cok k) hmix Tryz.func47 (code:=fix_Mul.code) (by kernel_rfl) (by kernel_rfl) (by kernel_rfl) rfl rfl (by kernel_rfl) (by kernel_rfl) (by kernel_rfl) (fun x=>Nat.le_of_ble_eq_true (by kernel_rfl)) fun x y hy=>(fix_Mul.way k x.1 x.2.1).ap hy
noncomputable def fix_Sub.code:Code:=Func.cd Tryz.f98
def fix_Sub (k:Nat) (a0 a1:Int):Option Int :=
 bnd (fix_Clamp k a0) fun y1 =>
 bnd (fix_Clamp k a1) fun y3 =>
 bnd (fix_Clamp k (isub .i64 y1 y3)) fun y5 =>
 some y5
noncomputable def fix_Sub.sp (k:Nat):Go.Sx.Spec:=⟨T26,(.one (.dp T2)),fun x=>fix_Sub k x.1 x.2.1,false⟩
noncomputable def fix_Sub.cx (k:Nat):Go.Sx.Ctx:=⟨tys,[(50,fix_Clamp.sp k)],eqs,11,0,[],false⟩
theorem fix_Sub.cok (k:Nat):CtxOk PR (fix_Sub.cx k):=ctx_ok tysOk eqsOk (fC (fix_Clamp.ok k) FnsOk.nil) HsOk.nil
theorem fix_Sub.way (k:Nat) (a0 a1:Int):Owp (fix_Sub k a0 a1) fun y=>∃ w c0,exec PR (fix_Sub.cx k) fix_Sub.code 0 (entry T26 (a0,a1,())).st w (Ret (fix_Sub.cx k) Tryz.f98 c0 (.one (.dp T2)) y):=by
 unfold fix_Sub; exact
  oB fun y1 e2 =>
  oB fun y3 e4 =>
  oB fun y5 e6 =>
  oS (⟨[rS T2 y1,rS T2 y3,rS T2 y5],[],via (retP (aI (aI (aI tv0 e2) e4) e6) (.one (.dp T2)) (y5:Int)) (by kernel_rfl)⟩)
theorem fix_Sub.ok (k:Nat):FnOk PR 98 (fix_Sub.sp k) :=
 fn_ok (fix_Sub.cok k) hmix Tryz.func98 (code:=fix_Sub.code) (by kernel_rfl) (by kernel_rfl) (by kernel_rfl) rfl rfl (by kernel_rfl) (by kernel_rfl) (by kernel_rfl) (fun x=>Nat.le_of_ble_eq_true (by kernel_rfl)) fun x y hy=>(fix_Sub.way k x.1 x.2.1).ap hy
noncomputable def fix_Root.code:Code:=Func.cd Tryz.f157
def fix_Root.c2 (k:Nat) (a0 a1:Int) (y4:(Int × Int)):Option (Bool) :=
 bif' (ilt y4.1 a0)
 (some true)
 (bif' (ieq y4.1 a0)
  (some (ile y4.2 a1))
  (some false))
def fix_Root.c3 (k:Nat) (o8:Bool) (v1 v2:Int):Option (Int) :=
 bif' o8
 (some (ibits .or .u64 v1 v2))
 (some v1)
def fix_Root.c1 (k:Nat) (a0 a1:Int):Nat→Int→Int→Option (Int)
 | 0,_,_=>none
 | n+1,v1,v2 =>
  bif' (igt v2 0)
  (bnd (bits_Mul64 k (ibits .or .u64 v1 v2) (ibits .or .u64 v1 v2)) fun y4 =>
  bnd (fix_Root.c2 k a0 a1 y4) fun o8 =>
  bnd (fix_Root.c3 k o8 v1 v2) fun o11 =>
  fix_Root.c1 k a0 a1 n o11 (ishr .u64 v2 1))
  (some v1)
def fix_Root (k:Nat) (a0 a1:Int):Option Int :=
 bnd (fix_Root.c1 k a0 a1 k 0 9223372036854775808) fun o13 =>
 some o13
noncomputable def fix_Root.sp (k:Nat):Go.Sx.Spec:=⟨(.pair T12 (.pair T12 .unit)),(.one (.dp T12)),fun x=>fix_Root k x.1 x.2.1,false⟩
noncomputable def fix_Root.cx (k:Nat):Go.Sx.Ctx:=⟨tys,[(99,bits_Mul64.sp k)],eqs,38,0,[],false⟩
theorem fix_Root.cok (k:Nat):CtxOk PR (fix_Root.cx k):=ctx_ok tysOk eqsOk (fC (bits_Mul64.ok k) FnsOk.nil) HsOk.nil
noncomputable def fix_Root.c2p (a0 a1 v1 v2:Int) (y4:(Int × Int)):SL:=⟨[(0,(.val T12 a0)),(1,(.val T12 a1)),(5,(.val T12 v1)),(6,(.val T12 v2)),(7,(.val T12 (ibits .or .u64 v1 v2))),(8,(.val T12 y4.1)),(9,(.val T12 y4.2))],[]⟩
noncomputable def fix_Root.c2q (a0 a1 v1 v2:Int) (o:Bool):SL:=(fun v=>⟨[(0,(.val T12 a0)),(1,(.val T12 a1)),(5,(.val T12 v1)),(6,(.val T12 v2)),(7,(.val T12 (ibits .or .u64 v1 v2))),(35,(.val T4 v))],[]⟩) o
noncomputable def fix_Root.c2x (o:Bool):Ex:=(fun _=>.normal) o
noncomputable def fix_Root.c2n (o:Bool):Nat:=(fun _=>0) o
theorem fix_Root.c2_ok (k:Nat) (a0 a1 v1 v2:Int) (y4:(Int × Int)):Owp (fix_Root.c2 k a0 a1 y4) fun o=>Triple PR (fix_Root.cx k) (sub fix_Root.code [1,1,0,1,0,0,1,0,0,1,1,0]) 0 (fix_Root.c2p a0 a1 v1 v2 y4) (fix_Root.c2x o) (fix_Root.c2n o) (fix_Root.c2q a0 a1 v1 v2 o):=by
 unfold fix_Root.c2; exact
  oF (fun e6 =>
  oS (tW (fix_Root.cok k) hmix [tT,tT,tT,tT,tT,tT,tT,tT,tT,tT] [] [] (via (finP (aI (aI (aI (aI (aI (aI tv0 e6) e6) e6) e6) e6) e6) .normal [] (fix_Root.c2q a0 a1 v1 v2 true)) (by kernel_rfl)))) (fun e6 =>
  oF (fun e7 =>
  oS (tW (fix_Root.cok k) hmix [fF,fF,fF,fF,tT,tT,tT,fF,tT,fF] [] [] (via (finP (aI (aI (aI (aI (aI (aI (aI (aI (aI tv0 e6) e6) e6) e6) e7) e7) e7) (aI e6 e7)) e6) .normal [] (fix_Root.c2q a0 a1 v1 v2 (ile y4.2 a1))) (by kernel_rfl)))) (fun e7 =>
  oS (tW (fix_Root.cok k) hmix [fF,fF,fF,fF,fF,fF,fF,fF,fF,fF] [] [] (via (finP (aI (aI (aI (aI (aI (aI (aI (aI (aI tv0 e6) e6) e6) e6) e7) e7) e7) (aI e6 e7)) e6) .normal [] (fix_Root.c2q a0 a1 v1 v2 false)) (by kernel_rfl)))))
noncomputable def fix_Root.c3p (a0 a1:Int) (o8:Bool) (v1 v2:Int):SL:=⟨[(0,(.val T12 a0)),(1,(.val T12 a1)),(5,(.val T12 v1)),(6,(.val T12 v2)),(7,(.val T12 (ibits .or .u64 v1 v2))),(35,(.val T4 o8))],[]⟩
noncomputable def fix_Root.c3q (a0 a1 v2 o:Int):SL:=(fun v=>⟨[(0,(.val T12 a0)),(1,(.val T12 a1)),(5,(.val T12 v)),(6,(.val T12 v2))],[]⟩) o
noncomputable def fix_Root.c3x (o:Int):Ex:=(fun _=>.normal) o
noncomputable def fix_Root.c3n (o:Int):Nat:=(fun _=>0) o
theorem fix_Root.c3_ok (k:Nat) (a0 a1:Int) (o8:Bool) (v1 v2:Int):Owp (fix_Root.c3 k o8 v1 v2) fun o=>Triple PR (fix_Root.cx k) (sub fix_Root.code [1,1,0,1,0,0,1,0,0,1,1,1]) 0 (fix_Root.c3p a0 a1 o8 v1 v2) (fix_Root.c3x o) (fix_Root.c3n o) (fix_Root.c3q a0 a1 v2 o):=by
 unfold fix_Root.c3; exact
  oF (fun e10 =>
  oS (tW (fix_Root.cok k) hmix [tT] [] [] (via (finP (aI tv0 e10) .normal [] (fix_Root.c3q a0 a1 v2 (ibits .or .u64 v1 v2))) (by kernel_rfl)))) (fun e10 =>
  oS (tW (fix_Root.cok k) hmix [fF] [] [] (via (finP (aI tv0 e10) .normal [] (fix_Root.c3q a0 a1 v2 v1)) (by kernel_rfl))))
noncomputable def fix_Root.c1p (a0 a1 v1 v2:Int):SL:=⟨[(0,(.val T12 a0)),(1,(.val T12 a1)),(5,(.val T12 v1)),(6,(.val T12 v2))],[]⟩
noncomputable def fix_Root.c1q (o:Int):SL:=(fun v=>⟨[(5,(.val T12 v))],[]⟩) o
noncomputable def fix_Root.c1x (o:Int):Ex:=(fun _=>(.exit 0)) o
noncomputable def fix_Root.c1n (o:Int):Nat:=(fun _=>0) o
theorem fix_Root.c1_ok (k:Nat) (a0 a1:Int):∀ (n:Nat) (v1 v2:Int),Owp (fix_Root.c1 k a0 a1 n v1 v2) fun o=>LTriple PR (fix_Root.cx k) (sub fix_Root.code [1,1,0,1,0,0]) 0 (fix_Root.c1p a0 a1 v1 v2) (fix_Root.c1x o) (fix_Root.c1n o) (fix_Root.c1q o)
 | 0,_,_=>fun _ h=>nomatch h
 | n+1,v1,v2=>Owp.of (fix_Root.c1.eq_2 ..) (
  oF (fun e3 =>
  oB fun y4 e5 =>
  oB fun o8 e9 =>
  oB fun o11 e12 =>
  fun y hy=>loop_back (fix_Root.cok k) hmix 0 (fix_Root.c1p a0 a1 o11 (ishr .u64 v2 (1:Int))) [tT,.res (.more (.dp T12) (.one (.dp T12))) y4,.cutR 7 ⟨[],[],(fix_Root.c2p a0 a1 v1 v2 y4),0,.normal,(fix_Root.c2q a0 a1 v1 v2 o8),0⟩,.cut ⟨[],[],(fix_Root.c3p a0 a1 o8 v1 v2),0,.normal,(fix_Root.c3q a0 a1 v2 o11),0⟩] [] [] (via (cutP (aI (aI tv0 e3) e5) [] (fix_Root.c2p a0 a1 v1 v2 y4) (((fix_Root.c2_ok k a0 a1 v1 v2 y4).ap e9)) (cutP tv0 [] (fix_Root.c3p a0 a1 o8 v1 v2) (((fix_Root.c3_ok k a0 a1 o8 v1 v2).ap e12)) (finP (aI tv0 (by decide:ng (1:Int))) .normal [] (fix_Root.c1p a0 a1 o11 (ishr .u64 v2 (1:Int)))))) (by kernel_rfl)) ((fix_Root.c1_ok k a0 a1 n o11 (ishr .u64 v2 (1:Int))).ap hy)) (fun e3 =>
  oS (loop_exit (fix_Root.cok k) hmix [fF] [] [] (exne 0) (via (finP (aI tv0 e3) (.exit 0) [] (fix_Root.c1q v1)) (by kernel_rfl)))))
theorem fix_Root.way (k:Nat) (a0 a1:Int):Owp (fix_Root k a0 a1) fun y=>∃ w c0,exec PR (fix_Root.cx k) fix_Root.code 0 (entry (.pair T12 (.pair T12 .unit)) (a0,a1,())).st w (Ret (fix_Root.cx k) Tryz.f157 c0 (.one (.dp T12)) y):=by
 unfold fix_Root; exact
  oB fun o13 e14 =>
  oS (⟨[.cut ⟨[],[],(fix_Root.c1p a0 a1 (0:Int) (9223372036854775808:Int)),0,(.exit 0),(fix_Root.c1q o13),0⟩],[],via (cutP tv0 [] (fix_Root.c1p a0 a1 (0:Int) (9223372036854775808:Int)) (((fix_Root.c1_ok k a0 a1 k (0:Int) (9223372036854775808:Int)).ap e14).triple) (retP tv0 (.one (.dp T12)) (o13:Int))) (by kernel_rfl)⟩)
theorem fix_Root.ok (k:Nat):FnOk PR 157 (fix_Root.sp k) :=
 fn_ok (fix_Root.cok k) hmix Tryz.func157 (code:=fix_Root.code) (by kernel_rfl) (by kernel_rfl) (by kernel_rfl) rfl rfl (by kernel_rfl) (by kernel_rfl) (by kernel_rfl) (fun x=>Nat.le_of_ble_eq_true (by kernel_rfl)) fun x y hy=>(fix_Root.way k x.1 x.2.1).ap hy
noncomputable def vec_Add.code:Code:=Func.cd Tryz.f10
def vec_Add (k:Nat) (a0 a1:V26):Option V26 :=
 bnd (fix_Add k a0.1 a1.1) fun y1 =>
 bnd (fix_Add k a0.2.1 a1.2.1) fun y3 =>
 some (y1,y3,())
noncomputable def vec_Add.sp (k:Nat):Go.Sx.Spec:=⟨T133,(.one (.dp T26)),fun x=>vec_Add k x.1 x.2.1,false⟩
noncomputable def vec_Add.cx (k:Nat):Go.Sx.Ctx:=⟨tys,[(23,fix_Add.sp k)],eqs,16,0,[],false⟩
theorem vec_Add.cok (k:Nat):CtxOk PR (vec_Add.cx k):=ctx_ok tysOk eqsOk (fC (fix_Add.ok k) FnsOk.nil) HsOk.nil
theorem vec_Add.way (k:Nat) (a0 a1:V26):Owp (vec_Add k a0 a1) fun y=>∃ w c0,exec PR (vec_Add.cx k) vec_Add.code 0 (entry T133 (a0,a1,())).st w (Ret (vec_Add.cx k) Tryz.f10 c0 (.one (.dp T26)) y):=by
 unfold vec_Add; exact
  oB fun y1 e2 =>
  oB fun y3 e4 =>
  oS (⟨[rS T2 y1,rS T2 y3],[],via (retP (aI (aI tv0 e2) e4) (.one (.dp T26)) ((y1,y3,()):V26)) (by kernel_rfl)⟩)
theorem vec_Add.ok (k:Nat):FnOk PR 10 (vec_Add.sp k) :=
 fn_ok (vec_Add.cok k) hmix Tryz.func10 (code:=vec_Add.code) (by kernel_rfl) (by kernel_rfl) (by kernel_rfl) rfl rfl (by kernel_rfl) (by kernel_rfl) (by kernel_rfl) (fun x=>Nat.le_of_ble_eq_true (by kernel_rfl)) fun x y hy=>(vec_Add.way k x.1 x.2.1).ap hy
noncomputable def trig_table.code:Code:=Func.cd Tryz.f168
def trig_table (k:Nat):Option (List Int) :=
 some [0,1608,3216,4821,6424,8022,9616,11204,12785,14359,15924,17479,19024,20557,22078,23586,25080,26558,28020,29466,30893,32303,33692,35062,36410,37736,39040,40320,41576,42806,44011,45190,46341,47464,48559,49624,50660,51665,52639,53581,54491,55368,56212,57022,57798,58538,59244,59914,60547,61145,61705,62228,62714,63162,63572,63944,64277,64571,64827,65043,65220,65358,65457,65516,65536]
noncomputable def trig_table.sp (k:Nat):Go.Sx.Spec:=⟨.unit,(.one (.dp (.arr 65 T2))),fun x=>trig_table k,false⟩
noncomputable def trig_table.cx (k:Nat):Go.Sx.Ctx:=⟨tys,[],eqs,2,0,[],false⟩
theorem trig_table.cok (k:Nat):CtxOk PR (trig_table.cx k):=ctx_ok tysOk eqsOk FnsOk.nil HsOk.nil
theorem trig_table.way (k:Nat):Owp (trig_table k) fun y=>∃ w c0,exec PR (trig_table.cx k) trig_table.code 0 (entry .unit ()).st w (Ret (trig_table.cx k) Tryz.f168 c0 (.one (.dp (.arr 65 T2))) y):=by
 unfold trig_table; exact
  oS (⟨[],[],via (retP tv0 (.one (.dp (.arr 65 T2))) ([(0:Int),(1608:Int),(3216:Int),(4821:Int),(6424:Int),(8022:Int),(9616:Int),(11204:Int),(12785:Int),(14359:Int),(15924:Int),(17479:Int),(19024:Int),(20557:Int),(22078:Int),(23586:Int),(25080:Int),(26558:Int),(28020:Int),(29466:Int),(30893:Int),(32303:Int),(33692:Int),(35062:Int),(36410:Int),(37736:Int),(39040:Int),(40320:Int),(41576:Int),(42806:Int),(44011:Int),(45190:Int),(46341:Int),(47464:Int),(48559:Int),(49624:Int),(50660:Int),(51665:Int),(52639:Int),(53581:Int),(54491:Int),(55368:Int),(56212:Int),(57022:Int),(57798:Int),(58538:Int),(59244:Int),(59914:Int),(60547:Int),(61145:Int),(61705:Int),(62228:Int),(62714:Int),(63162:Int),(63572:Int),(63944:Int),(64277:Int),(64571:Int),(64827:Int),(65043:Int),(65220:Int),(65358:Int),(65457:Int),(65516:Int),(65536:Int)]:(List Int))) (by kernel_rfl)⟩)
theorem trig_table.ok (k:Nat):FnOk PR 168 (trig_table.sp k) :=
 fn_ok (trig_table.cok k) hmix Tryz.func168 (code:=trig_table.code) (by kernel_rfl) (by kernel_rfl) (by kernel_rfl) rfl rfl (by kernel_rfl) (by kernel_rfl) (by kernel_rfl) (fun x=>Nat.le_of_ble_eq_true (by kernel_rfl)) fun x y hy=>(trig_table.way k).ap hy
noncomputable def trig_first.code:Code:=Func.cd Tryz.f146
def trig_first (k:Nat) (a0:Int):Option Int :=
 bnd (trig_table k) fun y1 =>
 bif' (ieq (irem a0 256) 0)
 (req (inR (iquo .i64 a0 256) 65) <|some (el 0 y1 (iquo .i64 a0 256)))
 (req (inR (iquo .i64 a0 256) 65) <|req (inR (iadd .i64 (iquo .i64 a0 256) 1) 65) <|some (iadd .i64 (el 0 y1 (iquo .i64 a0 256)) (iquo .i64 (iadd .i64 (imul .i64 (isub .i64 (el 0 y1 (iadd .i64 (iquo .i64 a0 256) 1)) (el 0 y1 (iquo .i64 a0 256))) (irem a0 256)) 128) 256)))
noncomputable def trig_first.sp (k:Nat):Go.Sx.Spec:=⟨(.pair T2 .unit),(.one (.dp T2)),fun x=>trig_first k x.1,false⟩
noncomputable def trig_first.cx (k:Nat):Go.Sx.Ctx:=⟨tys,[(168,trig_table.sp k)],eqs,32,0,[],false⟩
theorem trig_first.cok (k:Nat):CtxOk PR (trig_first.cx k):=ctx_ok tysOk eqsOk (fC (trig_table.ok k) FnsOk.nil) HsOk.nil
theorem trig_first.way (k:Nat) (a0:Int):Owp (trig_first k a0) fun y=>∃ w c0,exec PR (trig_first.cx k) trig_first.code 0 (entry (.pair T2 .unit) (a0,())).st w (Ret (trig_first.cx k) Tryz.f146 c0 (.one (.dp T2)) y):=by
 unfold trig_first; exact
  oB fun y1 e2 =>
  oF (fun e3 =>
  oR fun h4 =>
  oS (⟨[.res (.one (.dp (.arr 65 T2))) y1,tT],[],via (retP (aI (aI (aI (aI (aI (aI tv0 e2) (by decide:nz (256:Int))) (by decide:nz (256:Int))) e3) h4) h4) (.one (.dp T2)) ((el (0:Int) y1 (iquo .i64 a0 (256:Int))):Int)) (by kernel_rfl)⟩)) (fun e3 =>
  oR fun h5 =>
  oR fun h6 =>
  oS (⟨[.res (.one (.dp (.arr 65 T2))) y1,fF],[],via (retP (aI (aI (aI (aI (aI (aI (aI (aI (aI (aI (aI tv0 e2) (by decide:nz (256:Int))) (by decide:nz (256:Int))) e3) h5) h5) h6) h6) h5) h5) (by decide:nz (256:Int))) (.one (.dp T2)) ((iadd .i64 (el (0:Int) y1 (iquo .i64 a0 (256:Int))) (iquo .i64 (iadd .i64 (imul .i64 (isub .i64 (el (0:Int) y1 (iadd .i64 (iquo .i64 a0 (256:Int)) (1:Int))) (el (0:Int) y1 (iquo .i64 a0 (256:Int)))) (irem a0 (256:Int))) (128:Int)) (256:Int))):Int)) (by kernel_rfl)⟩))
theorem trig_first.ok (k:Nat):FnOk PR 146 (trig_first.sp k) :=
 fn_ok (trig_first.cok k) hmix Tryz.func146 (code:=trig_first.code) (by kernel_rfl) (by kernel_rfl) (by kernel_rfl) rfl rfl (by kernel_rfl) (by kernel_rfl) (by kernel_rfl) (fun x=>Nat.le_of_ble_eq_true (by kernel_rfl)) fun x y hy=>(trig_first.way k x.1).ap hy
noncomputable def trig_Sin.code:Code:=Func.cd Tryz.f97
def trig_Sin (k:Nat) (a0:Int):Option Int :=
 bif' (ieq (iquo .i64 (ibits .and .i64 a0 65535) 16384) 0)
 (bnd (trig_first k (irem (ibits .and .i64 a0 65535) 16384)) fun y2 =>
  some y2)
 (bif' (ieq (iquo .i64 (ibits .and .i64 a0 65535) 16384) 1)
  (bnd (trig_first k (isub .i64 16384 (irem (ibits .and .i64 a0 65535) 16384))) fun y5 =>
  some y5)
  (bif' (ieq (iquo .i64 (ibits .and .i64 a0 65535) 16384) 2)
  (bnd (trig_first k (irem (ibits .and .i64 a0 65535) 16384)) fun y8 =>
  some (ineg .i64 y8))
  (bnd (trig_first k (isub .i64 16384 (irem (ibits .and .i64 a0 65535) 16384))) fun y10 =>
  some (ineg .i64 y10))))
noncomputable def trig_Sin.sp (k:Nat):Go.Sx.Spec:=⟨(.pair T2 .unit),(.one (.dp T2)),fun x=>trig_Sin k x.1,false⟩
noncomputable def trig_Sin.cx (k:Nat):Go.Sx.Ctx:=⟨tys,[(146,trig_first.sp k)],eqs,28,0,[],false⟩
theorem trig_Sin.cok (k:Nat):CtxOk PR (trig_Sin.cx k):=ctx_ok tysOk eqsOk (fC (trig_first.ok k) FnsOk.nil) HsOk.nil
theorem trig_Sin.way (k:Nat) (a0:Int):Owp (trig_Sin k a0) fun y=>∃ w c0,exec PR (trig_Sin.cx k) trig_Sin.code 0 (entry (.pair T2 .unit) (a0,())).st w (Ret (trig_Sin.cx k) Tryz.f97 c0 (.one (.dp T2)) y):=by
 unfold trig_Sin; exact
  oF (fun e1 =>
  oB fun y2 e3 =>
  oS (⟨[tT,rS T2 y2],[],via (retP (aI (aI (aI (aI tv0 (by decide:nz (16384:Int))) (by decide:nz (16384:Int))) e1) e3) (.one (.dp T2)) (y2:Int)) (by kernel_rfl)⟩)) (fun e1 =>
  oF (fun e4 =>
  oB fun y5 e6 =>
  oS (⟨[fF,tT,rS T2 y5],[],via (retP (aI (aI (aI (aI (aI tv0 (by decide:nz (16384:Int))) (by decide:nz (16384:Int))) e1) e4) e6) (.one (.dp T2)) (y5:Int)) (by kernel_rfl)⟩)) (fun e4 =>
  oF (fun e7 =>
  oB fun y8 e9 =>
  oS (⟨[fF,fF,tT,rS T2 y8],[],via (retP (aI (aI (aI (aI (aI (aI tv0 (by decide:nz (16384:Int))) (by decide:nz (16384:Int))) e1) e4) e7) e9) (.one (.dp T2)) ((ineg .i64 y8):Int)) (by kernel_rfl)⟩)) (fun e7 =>
  oB fun y10 e11 =>
  oS (⟨[fF,fF,fF,rS T2 y10],[],via (retP (aI (aI (aI (aI (aI (aI tv0 (by decide:nz (16384:Int))) (by decide:nz (16384:Int))) e1) e4) e7) e11) (.one (.dp T2)) ((ineg .i64 y10):Int)) (by kernel_rfl)⟩))))
theorem trig_Sin.ok (k:Nat):FnOk PR 97 (trig_Sin.sp k) :=
 fn_ok (trig_Sin.cok k) hmix Tryz.func97 (code:=trig_Sin.code) (by kernel_rfl) (by kernel_rfl) (by kernel_rfl) rfl rfl (by kernel_rfl) (by kernel_rfl) (by kernel_rfl) (fun x=>Nat.le_of_ble_eq_true (by kernel_rfl)) fun x y hy=>(trig_Sin.way k x.1).ap hy
noncomputable def trig_Cos.code:Code:=Func.cd Tryz.f96
def trig_Cos (k:Nat) (a0:Int):Option Int :=
 bnd (trig_Sin k (iadd .i64 (ibits .and .i64 a0 65535) 16384)) fun y1 =>
 some y1
noncomputable def trig_Cos.sp (k:Nat):Go.Sx.Spec:=⟨(.pair T2 .unit),(.one (.dp T2)),fun x=>trig_Cos k x.1,false⟩
noncomputable def trig_Cos.cx (k:Nat):Go.Sx.Ctx:=⟨tys,[(97,trig_Sin.sp k)],eqs,7,0,[],false⟩
theorem trig_Cos.cok (k:Nat):CtxOk PR (trig_Cos.cx k):=ctx_ok tysOk eqsOk (fC (trig_Sin.ok k) FnsOk.nil) HsOk.nil
theorem trig_Cos.way (k:Nat) (a0:Int):Owp (trig_Cos k a0) fun y=>∃ w c0,exec PR (trig_Cos.cx k) trig_Cos.code 0 (entry (.pair T2 .unit) (a0,())).st w (Ret (trig_Cos.cx k) Tryz.f96 c0 (.one (.dp T2)) y):=by
 unfold trig_Cos; exact
  oB fun y1 e2 =>
  oS (⟨[rS T2 y1],[],via (retP (aI tv0 e2) (.one (.dp T2)) (y1:Int)) (by kernel_rfl)⟩)
theorem trig_Cos.ok (k:Nat):FnOk PR 96 (trig_Cos.sp k) :=
 fn_ok (trig_Cos.cok k) hmix Tryz.func96 (code:=trig_Cos.code) (by kernel_rfl) (by kernel_rfl) (by kernel_rfl) rfl rfl (by kernel_rfl) (by kernel_rfl) (by kernel_rfl) (fun x=>Nat.le_of_ble_eq_true (by kernel_rfl)) fun x y hy=>(trig_Cos.way k x.1).ap hy
noncomputable def vec_Turn.code:Code:=Func.cd Tryz.f54
def vec_Turn (k:Nat) (a0:V26) (a1:Int):Option V26 :=
 bnd (trig_Cos k a1) fun y1 =>
 bnd (trig_Sin k a1) fun y3 =>
 bnd (fix_Mul k a0.1 y1) fun y5 =>
 bnd (fix_Mul k a0.2.1 y3) fun y7 =>
 bnd (fix_Sub k y5 y7) fun y9 =>
 bnd (fix_Mul k a0.1 y3) fun y11 =>
 bnd (fix_Mul k a0.2.1 y1) fun y13 =>
 bnd (fix_Add k y11 y13) fun y15 =>
 some (y9,y15,())
noncomputable def vec_Turn.sp (k:Nat):Go.Sx.Spec:=⟨(.pair T26 (.pair T2 .unit)),(.one (.dp T26)),fun x=>vec_Turn k x.1 x.2.1,false⟩
noncomputable def vec_Turn.cx (k:Nat):Go.Sx.Ctx:=⟨tys,[(96,trig_Cos.sp k),(97,trig_Sin.sp k),(47,fix_Mul.sp k),(98,fix_Sub.sp k),(23,fix_Add.sp k)],eqs,30,0,[],false⟩
theorem vec_Turn.cok (k:Nat):CtxOk PR (vec_Turn.cx k):=ctx_ok tysOk eqsOk (fC (trig_Cos.ok k) (fC (trig_Sin.ok k) (fC (fix_Mul.ok k) (fC (fix_Sub.ok k) (fC (fix_Add.ok k) FnsOk.nil))))) HsOk.nil
theorem vec_Turn.way (k:Nat) (a0:V26) (a1:Int):Owp (vec_Turn k a0 a1) fun y=>∃ w c0,exec PR (vec_Turn.cx k) vec_Turn.code 0 (entry (.pair T26 (.pair T2 .unit)) (a0,a1,())).st w (Ret (vec_Turn.cx k) Tryz.f54 c0 (.one (.dp T26)) y):=by
 unfold vec_Turn; exact
  oB fun y1 e2 =>
  oB fun y3 e4 =>
  oB fun y5 e6 =>
  oB fun y7 e8 =>
  oB fun y9 e10 =>
  oB fun y11 e12 =>
  oB fun y13 e14 =>
  oB fun y15 e16 =>
  oS (⟨[rS T2 y1,rS T2 y3,rS T2 y5,rS T2 y7,rS T2 y9,rS T2 y11,rS T2 y13,rS T2 y15],[],via (retP (aI (aI (aI (aI (aI (aI (aI (aI tv0 e2) e4) e6) e8) e10) e12) e14) e16) (.one (.dp T26)) ((y9,y15,()):V26)) (by kernel_rfl)⟩)
theorem vec_Turn.ok (k:Nat):FnOk PR 54 (vec_Turn.sp k) :=
 fn_ok (vec_Turn.cok k) hmix Tryz.func54 (code:=vec_Turn.code) (by kernel_rfl) (by kernel_rfl) (by kernel_rfl) rfl rfl (by kernel_rfl) (by kernel_rfl) (by kernel_rfl) (fun x=>Nat.le_of_ble_eq_true (by kernel_rfl)) fun x y hy=>(vec_Turn.way k x.1 x.2.1).ap hy
noncomputable def vec_Sub.code:Code:=Func.cd Tryz.f68
def vec_Sub (k:Nat) (a0 a1:V26):Option V26 :=
 bnd (fix_Sub k a0.1 a1.1) fun y1 =>
 bnd (fix_Sub k a0.2.1 a1.2.1) fun y3 =>
 some (y1,y3,())
noncomputable def vec_Sub.sp (k:Nat):Go.Sx.Spec:=⟨T133,(.one (.dp T26)),fun x=>vec_Sub k x.1 x.2.1,false⟩
noncomputable def vec_Sub.cx (k:Nat):Go.Sx.Ctx:=⟨tys,[(98,fix_Sub.sp k)],eqs,16,0,[],false⟩
theorem vec_Sub.cok (k:Nat):CtxOk PR (vec_Sub.cx k):=ctx_ok tysOk eqsOk (fC (fix_Sub.ok k) FnsOk.nil) HsOk.nil
theorem vec_Sub.way (k:Nat) (a0 a1:V26):Owp (vec_Sub k a0 a1) fun y=>∃ w c0,exec PR (vec_Sub.cx k) vec_Sub.code 0 (entry T133 (a0,a1,())).st w (Ret (vec_Sub.cx k) Tryz.f68 c0 (.one (.dp T26)) y):=by
 unfold vec_Sub; exact
  oB fun y1 e2 =>
  oB fun y3 e4 =>
  oS (⟨[rS T2 y1,rS T2 y3],[],via (retP (aI (aI tv0 e2) e4) (.one (.dp T26)) ((y1,y3,()):V26)) (by kernel_rfl)⟩)
theorem vec_Sub.ok (k:Nat):FnOk PR 68 (vec_Sub.sp k) :=
 fn_ok (vec_Sub.cok k) hmix Tryz.func68 (code:=vec_Sub.code) (by kernel_rfl) (by kernel_rfl) (by kernel_rfl) rfl rfl (by kernel_rfl) (by kernel_rfl) (by kernel_rfl) (fun x=>Nat.le_of_ble_eq_true (by kernel_rfl)) fun x y hy=>(vec_Sub.way k x.1 x.2.1).ap hy
noncomputable def vec_mag.code:Code:=Func.cd Tryz.f123
def vec_mag (k:Nat) (a0:Int):Option Int :=
 some (icv .u64 (imax a0 (ineg .i64 a0)))
noncomputable def vec_mag.sp (k:Nat):Go.Sx.Spec:=⟨(.pair T2 .unit),(.one (.dp T12)),fun x=>vec_mag k x.1,false⟩
noncomputable def vec_mag.cx (k:Nat):Go.Sx.Ctx:=⟨tys,[],eqs,8,0,[],false⟩
theorem vec_mag.cok (k:Nat):CtxOk PR (vec_mag.cx k):=ctx_ok tysOk eqsOk FnsOk.nil HsOk.nil
theorem vec_mag.way (k:Nat) (a0:Int):Owp (vec_mag k a0) fun y=>∃ w c0,exec PR (vec_mag.cx k) vec_mag.code 0 (entry (.pair T2 .unit) (a0,())).st w (Ret (vec_mag.cx k) Tryz.f123 c0 (.one (.dp T12)) y):=by
 unfold vec_mag; exact
  oS (⟨[],[],via (retP tv0 (.one (.dp T12)) ((icv .u64 (imax a0 (ineg .i64 a0))):Int)) (by kernel_rfl)⟩)
theorem vec_mag.ok (k:Nat):FnOk PR 123 (vec_mag.sp k) :=
 fn_ok (vec_mag.cok k) hmix Tryz.func123 (code:=vec_mag.code) (by kernel_rfl) (by kernel_rfl) (by kernel_rfl) rfl rfl (by kernel_rfl) (by kernel_rfl) (by kernel_rfl) (fun x=>Nat.le_of_ble_eq_true (by kernel_rfl)) fun x y hy=>(vec_mag.way k x.1).ap hy
noncomputable def vec_length.code:Code:=Func.cd Tryz.f124
def vec_length (k:Nat) (a0 a1:Int):Option Int :=
 bnd (vec_mag k a0) fun y1 =>
 bnd (vec_mag k a0) fun y3 =>
 bnd (bits_Mul64 k y1 y3) fun y5 =>
 bnd (vec_mag k a1) fun y7 =>
 bnd (vec_mag k a1) fun y9 =>
 bnd (bits_Mul64 k y7 y9) fun y11 =>
 bnd (bits_Add64 k y5.2 y11.2 0) fun y13 =>
 bnd (bits_Add64 k y5.1 y11.1 y13.2) fun y15 =>
 bnd (fix_Root k y15.1 y13.1) fun y17 =>
 some (icv .i64 y17)
noncomputable def vec_length.sp (k:Nat):Go.Sx.Spec:=⟨T26,(.one (.dp T2)),fun x=>vec_length k x.1 x.2.1,false⟩
noncomputable def vec_length.cx (k:Nat):Go.Sx.Ctx:=⟨tys,[(123,vec_mag.sp k),(99,bits_Mul64.sp k),(143,bits_Add64.sp k),(157,fix_Root.sp k)],eqs,46,0,[],false⟩
theorem vec_length.cok (k:Nat):CtxOk PR (vec_length.cx k):=ctx_ok tysOk eqsOk (fC (vec_mag.ok k) (fC (bits_Mul64.ok k) (fC (bits_Add64.ok k) (fC (fix_Root.ok k) FnsOk.nil)))) HsOk.nil
theorem vec_length.way (k:Nat) (a0 a1:Int):Owp (vec_length k a0 a1) fun y=>∃ w c0,exec PR (vec_length.cx k) vec_length.code 0 (entry T26 (a0,a1,())).st w (Ret (vec_length.cx k) Tryz.f124 c0 (.one (.dp T2)) y):=by
 unfold vec_length; exact
  oB fun y1 e2 =>
  oB fun y3 e4 =>
  oB fun y5 e6 =>
  oB fun y7 e8 =>
  oB fun y9 e10 =>
  oB fun y11 e12 =>
  oB fun y13 e14 =>
  oB fun y15 e16 =>
  oB fun y17 e18 =>
  oS (⟨[rS T12 y1,rS T12 y3,.res (.more (.dp T12) (.one (.dp T12))) y5,rS T12 y7,rS T12 y9,.res (.more (.dp T12) (.one (.dp T12))) y11,.res (.more (.dp T12) (.one (.dp T12))) y13,.res (.more (.dp T12) (.one (.dp T12))) y15,rS T12 y17],[],via (retP (aI (aI (aI (aI (aI (aI (aI (aI (aI tv0 e2) e4) e6) e8) e10) e12) e14) e16) e18) (.one (.dp T2)) ((icv .i64 y17):Int)) (by kernel_rfl)⟩)
theorem vec_length.ok (k:Nat):FnOk PR 124 (vec_length.sp k) :=
 fn_ok (vec_length.cok k) hmix Tryz.func124 (code:=vec_length.code) (by kernel_rfl) (by kernel_rfl) (by kernel_rfl) rfl rfl (by kernel_rfl) (by kernel_rfl) (by kernel_rfl) (fun x=>Nat.le_of_ble_eq_true (by kernel_rfl)) fun x y hy=>(vec_length.way k x.1 x.2.1).ap hy
noncomputable def vec_Len.code:Code:=Func.cd Tryz.f71
def vec_Len (k:Nat) (a0:V26):Option Int :=
 bnd (fix_Clamp k a0.1) fun y1 =>
 bnd (fix_Clamp k a0.2.1) fun y3 =>
 bnd (vec_length k y1 y3) fun y5 =>
 bnd (fix_Clamp k y5) fun y7 =>
 some y7
noncomputable def vec_Len.sp (k:Nat):Go.Sx.Spec:=⟨(.pair T26 .unit),(.one (.dp T2)),fun x=>vec_Len k x.1,false⟩
noncomputable def vec_Len.cx (k:Nat):Go.Sx.Ctx:=⟨tys,[(50,fix_Clamp.sp k),(124,vec_length.sp k)],eqs,11,0,[],false⟩
theorem vec_Len.cok (k:Nat):CtxOk PR (vec_Len.cx k):=ctx_ok tysOk eqsOk (fC (fix_Clamp.ok k) (fC (vec_length.ok k) FnsOk.nil)) HsOk.nil
theorem vec_Len.way (k:Nat) (a0:V26):Owp (vec_Len k a0) fun y=>∃ w c0,exec PR (vec_Len.cx k) vec_Len.code 0 (entry (.pair T26 .unit) (a0,())).st w (Ret (vec_Len.cx k) Tryz.f71 c0 (.one (.dp T2)) y):=by
 unfold vec_Len; exact
  oB fun y1 e2 =>
  oB fun y3 e4 =>
  oB fun y5 e6 =>
  oB fun y7 e8 =>
  oS (⟨[rS T2 y1,rS T2 y3,rS T2 y5,rS T2 y7],[],via (retP (aI (aI (aI (aI tv0 e2) e4) e6) e8) (.one (.dp T2)) (y7:Int)) (by kernel_rfl)⟩)
theorem vec_Len.ok (k:Nat):FnOk PR 71 (vec_Len.sp k) :=
 fn_ok (vec_Len.cok k) hmix Tryz.func71 (code:=vec_Len.code) (by kernel_rfl) (by kernel_rfl) (by kernel_rfl) rfl rfl (by kernel_rfl) (by kernel_rfl) (by kernel_rfl) (fun x=>Nat.le_of_ble_eq_true (by kernel_rfl)) fun x y hy=>(vec_Len.way k x.1).ap hy
noncomputable def slices_Clone.code:Code:=Func.cd Tryz.f37
def slices_Clone (k:Nat) (a0:(List V48)):Option (List V48) :=
 req (room0 56 a0) <|some a0
noncomputable def slices_Clone.sp (k:Nat):Go.Sx.Spec:=⟨(.pair (.slice T48) .unit),(.one (.ow T48 49)),fun x=>slices_Clone k x.1,false⟩
noncomputable def slices_Clone.cx (k:Nat):Go.Sx.Ctx:=⟨tys,[],eqs,8,0,[],false⟩
theorem slices_Clone.cok (k:Nat):CtxOk PR (slices_Clone.cx k):=ctx_ok tysOk eqsOk FnsOk.nil HsOk.nil
theorem slices_Clone.way (k:Nat) (a0:(List V48)):Owp (slices_Clone k a0) fun y=>∃ w c0,exec PR (slices_Clone.cx k) slices_Clone.code 0 (entry (.pair (.slice T48) .unit) (a0,())).st w (Ret (slices_Clone.cx k) Tryz.f37 c0 (.one (.ow T48 49)) y):=by
 unfold slices_Clone; exact
  oR fun h1=>match a0,h1 with
  | [],h1=>oS (⟨[.fork [] [tT]],[.own 2 T48 49],via (show (True→(True∧(True∧some (Blk.row T48 ([]:(List V48)) 49)=some (Blk.row T48 ([]:(List V48)) 49))))∧((True∧room0 56 ([]:(List V48)))∧(True∧some (Blk.row T48 ([]:(List V48)) 49)=some (Blk.row T48 ([]:(List V48)) 49))) from ⟨fun _=>⟨tv0,tv0,rfl⟩,⟨tv0,h1⟩,tv0,rfl⟩) (by kernel_rfl)⟩)
  | a :: l,h1=>oS (⟨[fF,tT],[.own 2 T48 49],via (show ((True∧false=false)∧room0 56 (a :: l))∧(True∧some (Blk.row T48 (a :: l:(List V48)) 49)=some (Blk.row T48 (a :: l:(List V48)) 49)) from ⟨⟨⟨tv0,rfl⟩,h1⟩,tv0,rfl⟩) (by kernel_rfl)⟩)
theorem slices_Clone.ok (k:Nat):FnOk PR 37 (slices_Clone.sp k) :=
 fn_ok (slices_Clone.cok k) hmix Tryz.func37 (code:=slices_Clone.code) (by kernel_rfl) (by kernel_rfl) (by kernel_rfl) rfl rfl (by kernel_rfl) (by kernel_rfl) (by kernel_rfl) (fun x=>Nat.le_of_ble_eq_true (by kernel_rfl)) fun x y hy=>(slices_Clone.way k x.1).ap hy
noncomputable def slices_Clone_39.code:Code:=Func.cd Tryz.f39
def slices_Clone_39 (k:Nat) (a0:(List V45)):Option (List V45) :=
 req (room0 120 a0) <|some a0
noncomputable def slices_Clone_39.sp (k:Nat):Go.Sx.Spec:=⟨(.pair (.slice T45) .unit),(.one (.ow T45 46)),fun x=>slices_Clone_39 k x.1,false⟩
noncomputable def slices_Clone_39.cx (k:Nat):Go.Sx.Ctx:=⟨tys,[],eqs,8,0,[],false⟩
theorem slices_Clone_39.cok (k:Nat):CtxOk PR (slices_Clone_39.cx k):=ctx_ok tysOk eqsOk FnsOk.nil HsOk.nil
theorem slices_Clone_39.way (k:Nat) (a0:(List V45)):Owp (slices_Clone_39 k a0) fun y=>∃ w c0,exec PR (slices_Clone_39.cx k) slices_Clone_39.code 0 (entry (.pair (.slice T45) .unit) (a0,())).st w (Ret (slices_Clone_39.cx k) Tryz.f39 c0 (.one (.ow T45 46)) y):=by
 unfold slices_Clone_39; exact
  oR fun h1=>match a0,h1 with
  | [],h1=>oS (⟨[.fork [] [tT]],[.own 2 T45 46],via (show (True→(True∧(True∧some (Blk.row T45 ([]:(List V45)) 46)=some (Blk.row T45 ([]:(List V45)) 46))))∧((True∧room0 120 ([]:(List V45)))∧(True∧some (Blk.row T45 ([]:(List V45)) 46)=some (Blk.row T45 ([]:(List V45)) 46))) from ⟨fun _=>⟨tv0,tv0,rfl⟩,⟨tv0,h1⟩,tv0,rfl⟩) (by kernel_rfl)⟩)
  | a :: l,h1=>oS (⟨[fF,tT],[.own 2 T45 46],via (show ((True∧false=false)∧room0 120 (a :: l))∧(True∧some (Blk.row T45 (a :: l:(List V45)) 46)=some (Blk.row T45 (a :: l:(List V45)) 46)) from ⟨⟨⟨tv0,rfl⟩,h1⟩,tv0,rfl⟩) (by kernel_rfl)⟩)
theorem slices_Clone_39.ok (k:Nat):FnOk PR 39 (slices_Clone_39.sp k) :=
 fn_ok (slices_Clone_39.cok k) hmix Tryz.func39 (code:=slices_Clone_39.code) (by kernel_rfl) (by kernel_rfl) (by kernel_rfl) rfl rfl (by kernel_rfl) (by kernel_rfl) (by kernel_rfl) (fun x=>Nat.le_of_ble_eq_true (by kernel_rfl)) fun x y hy=>(slices_Clone_39.way k x.1).ap hy
noncomputable def mass_cross.code:Code:=Func.cd Tryz.f90
def mass_cross (k:Nat) (a0 a1:V26):Option Int :=
 some (isub .i64 (imul .i64 a0.1 a1.2.1) (imul .i64 a0.2.1 a1.1))
noncomputable def mass_cross.sp (k:Nat):Go.Sx.Spec:=⟨T133,(.one (.dp T2)),fun x=>mass_cross k x.1 x.2.1,false⟩
noncomputable def mass_cross.cx (k:Nat):Go.Sx.Ctx:=⟨tys,[],eqs,16,0,[],false⟩
theorem mass_cross.cok (k:Nat):CtxOk PR (mass_cross.cx k):=ctx_ok tysOk eqsOk FnsOk.nil HsOk.nil
theorem mass_cross.way (k:Nat) (a0 a1:V26):Owp (mass_cross k a0 a1) fun y=>∃ w c0,exec PR (mass_cross.cx k) mass_cross.code 0 (entry T133 (a0,a1,())).st w (Ret (mass_cross.cx k) Tryz.f90 c0 (.one (.dp T2)) y):=by
 unfold mass_cross; exact
  oS (⟨[],[],via (retP tv0 (.one (.dp T2)) ((isub .i64 (imul .i64 a0.1 a1.2.1) (imul .i64 a0.2.1 a1.1)):Int)) (by kernel_rfl)⟩)
theorem mass_cross.ok (k:Nat):FnOk PR 90 (mass_cross.sp k) :=
 fn_ok (mass_cross.cok k) hmix Tryz.func90 (code:=mass_cross.code) (by kernel_rfl) (by kernel_rfl) (by kernel_rfl) rfl rfl (by kernel_rfl) (by kernel_rfl) (by kernel_rfl) (fun x=>Nat.le_of_ble_eq_true (by kernel_rfl)) fun x y hy=>(mass_cross.way k x.1 x.2.1).ap hy
noncomputable def mass_centre.code:Code:=Func.cd Tryz.f88
def mass_centre.c1 (k:Nat) (a0:(List V26)):Nat→Int→V94→V94→Option ((V94 × V94))
 | 0,_,_,_=>none
 | n+1,v1,v2,v3 =>
  bif' (ilt v1 (len a0))
  (req (inL v1 a0) <|req (nz (len a0)) <|req (inL (irem (iadd .i64 v1 1) (len a0)) a0) <|bnd (mass_cross k (el Z26 a0 v1) (el Z26 a0 (irem (iadd .i64 v1 1) (len a0)))) fun y8 =>
  bnd (poly_Times k (iadd .i64 (el Z26 a0 v1).1 (el Z26 a0 (irem (iadd .i64 v1 1) (len a0))).1) y8) fun y10 =>
  bnd (poly_Wide_Plus k v2 y10) fun y12 =>
  bnd (poly_Times k (iadd .i64 (el Z26 a0 v1).2.1 (el Z26 a0 (irem (iadd .i64 v1 1) (len a0))).2.1) y8) fun y14 =>
  bnd (poly_Wide_Plus k v3 y14) fun y16 =>
  mass_centre.c1 k a0 n (iadd .i64 v1 1) y12 y16)
  (some (v2,v3))
def mass_centre (k:Nat) (a0:(List V26)) (a1:Int):Option V26 :=
 bnd (mass_centre.c1 k a0 k 0 (0,0,()) (0,0,())) fun o18 =>
 bnd (poly_Wide_Over k o18.1 (imul .i64 3 a1)) fun y20 =>
 bnd (poly_Wide_Over k o18.2 (imul .i64 3 a1)) fun y22 =>
 some (y20.1,y22.1,())
noncomputable def mass_centre.sp (k:Nat):Go.Sx.Spec:=⟨(.pair T36 (.pair T2 .unit)),(.one (.dp T26)),fun x=>mass_centre k x.1 x.2.1,false⟩
noncomputable def mass_centre.cx (k:Nat):Go.Sx.Ctx:=⟨tys,[(90,mass_cross.sp k),(55,poly_Times.sp k),(89,poly_Wide_Plus.sp k),(91,poly_Wide_Over.sp k)],eqs,69,0,[],false⟩
theorem mass_centre.cok (k:Nat):CtxOk PR (mass_centre.cx k):=ctx_ok tysOk eqsOk (fC (mass_cross.ok k) (fC (poly_Times.ok k) (fC (poly_Wide_Plus.ok k) (fC (poly_Wide_Over.ok k) FnsOk.nil)))) HsOk.nil
noncomputable def mass_centre.c1p (a0:(List V26)) (a1 v1:Int) (v2 v3:V94):SL:=⟨[(0,(.val T36 a0)),(1,(.val T2 a1)),(4,(.val .ptr ⟨0,0,(0:Int),0,0⟩)),(5,(.val .ptr ⟨1,0,(0:Int),0,0⟩)),(6,(.val .ptr ⟨2,0,(0:Int),0,0⟩)),(15,(.val T36 a0)),(16,(.val T2 (len a0))),(17,(.val T2 v1))],[(0,.cells T26 ((0:Int),(0:Int),())),(1,.cells T94 v2),(2,.cells T94 v3)]⟩
noncomputable def mass_centre.c1q (a1:Int) (o:(V94 × V94)):SL:=(fun v=>⟨[(1,(.val T2 a1)),(4,(.val .ptr ⟨0,0,(0:Int),0,0⟩)),(5,(.val .ptr ⟨1,0,(0:Int),0,0⟩)),(6,(.val .ptr ⟨2,0,(0:Int),0,0⟩))],[(0,.cells T26 ((0:Int),(0:Int),())),(1,.cells T94 v.1),(2,.cells T94 v.2)]⟩) o
noncomputable def mass_centre.c1x (o:(V94 × V94)):Ex:=(fun _=>(.exit 0)) o
noncomputable def mass_centre.c1n (o:(V94 × V94)):Nat:=(fun _=>3) o
theorem mass_centre.c1_ok (k:Nat) (a0:(List V26)) (a1:Int):∀ (n:Nat) (v1:Int) (v2 v3:V94),Owp (mass_centre.c1 k a0 n v1 v2 v3) fun o=>LTriple PR (mass_centre.cx k) (sub mass_centre.code [1,1,0,1,0,0]) 3 (mass_centre.c1p a0 a1 v1 v2 v3) (mass_centre.c1x o) (mass_centre.c1n o) (mass_centre.c1q a1 o)
 | 0,_,_,_=>fun _ h=>nomatch h
 | n+1,v1,v2,v3=>Owp.of (mass_centre.c1.eq_2 ..) (
  oF (fun e4 =>
  oR fun h5 =>
  oR fun h6 =>
  oR fun h7 =>
  oB fun y8 e9 =>
  oB fun y10 e11 =>
  oB fun y12 e13 =>
  oB fun y14 e15 =>
  oB fun y16 e17 =>
  fun y hy=>loop_back (mass_centre.cok k) hmix 3 (mass_centre.c1p a0 a1 (iadd .i64 v1 (1:Int)) y12 y16) [tT,rS T2 y8,rS T94 y10,rS T94 y12,rS T94 y14,rS T94 y16] [] [(0,0),(1,1),(2,2)] (via (finP (aI (aI (aI (aI (aI (aI (aI (aI (aI tv0 e4) h5) h6) h7) e9) e11) e13) e15) e17) .normal [(0,0),(1,1),(2,2)] (mass_centre.c1p a0 a1 (iadd .i64 v1 (1:Int)) y12 y16)) (by kernel_rfl)) ((mass_centre.c1_ok k a0 a1 n (iadd .i64 v1 (1:Int)) y12 y16).ap hy)) (fun e4 =>
  oS (loop_exit (mass_centre.cok k) hmix [fF] [] [(0,0),(1,1),(2,2)] (exne 0) (via (finP (aI tv0 e4) (.exit 0) [(0,0),(1,1),(2,2)] (mass_centre.c1q a1 (v2,v3))) (by kernel_rfl)))))
theorem mass_centre.way (k:Nat) (a0:(List V26)) (a1:Int):Owp (mass_centre k a0 a1) fun y=>∃ w c0,exec PR (mass_centre.cx k) mass_centre.code 0 (entry (.pair T36 (.pair T2 .unit)) (a0,a1,())).st w (Ret (mass_centre.cx k) Tryz.f88 c0 (.one (.dp T26)) y):=by
 unfold mass_centre; exact
  oB fun o18 e19 =>
  oB fun y20 e21 =>
  oB fun y22 e23 =>
  oS (⟨[.cut ⟨[],[(0,0),(1,1),(2,2)],(mass_centre.c1p a0 a1 (0:Int) ((0:Int),(0:Int),()) ((0:Int),(0:Int),())),3,(.exit 0),(mass_centre.c1q a1 o18),3⟩,.res (.more (.dp T2) (.one (.dp T2))) y20,.res (.more (.dp T2) (.one (.dp T2))) y22],[],via (cutP tv0 [(0,0),(1,1),(2,2)] (mass_centre.c1p a0 a1 (0:Int) ((0:Int),(0:Int),()) ((0:Int),(0:Int),())) (((mass_centre.c1_ok k a0 a1 k (0:Int) ((0:Int),(0:Int),()) ((0:Int),(0:Int),())).ap e19).triple) (retP (aI (aI tv0 e21) e23) (.one (.dp T26)) ((y20.1,y22.1,()):V26))) (by kernel_rfl)⟩)
theorem mass_centre.ok (k:Nat):FnOk PR 88 (mass_centre.sp k) :=
 fn_ok (mass_centre.cok k) hmix Tryz.func88 (code:=mass_centre.code) (by kernel_rfl) (by kernel_rfl) (by kernel_rfl) rfl rfl (by kernel_rfl) (by kernel_rfl) (by kernel_rfl) (fun x=>Nat.le_of_ble_eq_true (by kernel_rfl)) fun x y hy=>(mass_centre.way k x.1 x.2.1).ap hy
noncomputable def mass_times.code:Code:=Func.cd Tryz.f92
def mass_times (k:Nat) (a0 a1 a2:Int):Option Int :=
 bnd (poly_Times k a0 a1) fun y1 =>
 bnd (poly_Wide_Over k y1 a2) fun y3 =>
 some y3.1
noncomputable def mass_times.sp (k:Nat):Go.Sx.Spec:=⟨(.pair T2 T26),(.one (.dp T2)),fun x=>mass_times k x.1 x.2.1 x.2.2.1,false⟩
noncomputable def mass_times.cx (k:Nat):Go.Sx.Ctx:=⟨tys,[(55,poly_Times.sp k),(91,poly_Wide_Over.sp k)],eqs,18,0,[],false⟩
theorem mass_times.cok (k:Nat):CtxOk PR (mass_times.cx k):=ctx_ok tysOk eqsOk (fC (poly_Times.ok k) (fC (poly_Wide_Over.ok k) FnsOk.nil)) HsOk.nil
theorem mass_times.way (k:Nat) (a0 a1 a2:Int):Owp (mass_times k a0 a1 a2) fun y=>∃ w c0,exec PR (mass_times.cx k) mass_times.code 0 (entry (.pair T2 T26) (a0,a1,a2,())).st w (Ret (mass_times.cx k) Tryz.f92 c0 (.one (.dp T2)) y):=by
 unfold mass_times; exact
  oB fun y1 e2 =>
  oB fun y3 e4 =>
  oS (⟨[rS T94 y1,.res (.more (.dp T2) (.one (.dp T2))) y3],[],via (retP (aI (aI tv0 e2) e4) (.one (.dp T2)) (y3.1:Int)) (by kernel_rfl)⟩)
theorem mass_times.ok (k:Nat):FnOk PR 92 (mass_times.sp k) :=
 fn_ok (mass_times.cok k) hmix Tryz.func92 (code:=mass_times.code) (by kernel_rfl) (by kernel_rfl) (by kernel_rfl) rfl rfl (by kernel_rfl) (by kernel_rfl) (by kernel_rfl) (fun x=>Nat.le_of_ble_eq_true (by kernel_rfl)) fun x y hy=>(mass_times.way k x.1 x.2.1 x.2.2.1).ap hy
end Go.Proofs.T1
