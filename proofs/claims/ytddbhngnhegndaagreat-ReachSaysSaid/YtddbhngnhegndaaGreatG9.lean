import Derived.Test.YtddbhngnhegndaaGreatG8
namespace Go.Proofs.T1
open Go Go.Sx Go.Proofs
set_option maxRecDepth 100000
set_option linter.unusedVariables false
noncomputable def tourlaw2_ReachSays.code:Code:=Func.cd Tryz.f3
def tourlaw2_ReachSays.c1 (k:Nat) (a1:V25) (y10:Int):Option (Int) :=
  bif' (ieq y10 0)
  (bnd (r2_Body k a1) fun y13 =>
   some y13)
  (some y10)
def tourlaw2_ReachSays.c2 (k:Nat) (a2 o15:Int):Option (Bool) :=
  bif' (ieq o15 0)
  (bif' (ilt a2 0)
   (some true)
   (some (igt a2 65536)))
  (some false)
def tourlaw2_ReachSays.c3 (k:Nat) (o15:Int) (o19:Bool):Option (Int) :=
  bif' o19
  (some 1)
  (some o15)
def tourlaw2_ReachSays.c4 (k:Nat) (o22:Int) (y4:(Int × Int)) (y6:(Int × (Bool × Int))) (y8:(Int × Int)):Option (Bool) :=
  bif' (ieq y4.2 o22)
  (bif' (ieq y6.2.2 o22)
   (bif' (ieq y8.2 o22)
   (bif' (ieq y4.1 0)
   (bif' (ieq y6.1 0)
   (bif' y6.2.1
   (some false)
   (some (ieq y8.1 0)))
   (some false))
   (some false))
   (some false))
   (some false))
  (some false)
def tourlaw2_ReachSays (k:Nat) (a0 a1:V25) (a2:Int):Option Bool :=
  bnd (tourlaw2_reachBegun k) fun y1 =>
  bif' y1
  (bnd (reach_Bound k a0 a1 a2) fun y4 =>
   bnd (reach_Time k a0 a1 a2) fun y6 =>
   bnd (reach_Sink k a0 a1 a2) fun y8 =>
   bnd (r2_Body k a0) fun y10 =>
   bnd (tourlaw2_ReachSays.c1 k a1 y10) fun o15 =>
   bnd (tourlaw2_ReachSays.c2 k a2 o15) fun o19 =>
   bnd (tourlaw2_ReachSays.c3 k o15 o19) fun o22 =>
   bif' (ine o22 0)
   (bnd (tourlaw2_ReachSays.c4 k o22 y4 y6 y8) fun o31 =>
   some o31)
   (bif' (igt y4.1 8388608)
   (some true)
   (bnd (r2_Time k a0 a1 a2) fun y34 =>
   bif' (ieq y4.2 0)
   (bif' (ieq y6.2.2 0)
   (bif' (ieq y8.2 0)
   (bnd (r2_Bound k a0 a1 a2) fun y39 =>
   bif' (ieq y4.1 y39)
   (bif' (ieq y6.1 y34.1)
   (bif' (Ty.eqb T4 y6.2.1 y34.2)
   (bnd (r2_Sink k a0 a1 a2) fun y44 =>
   some (ieq y8.1 y44))
   (some false))
   (some false))
   (some false))
   (some false))
   (some false))
   (some false))))
  (some false)
noncomputable def tourlaw2_ReachSays.sp (k:Nat):Go.Sx.Spec:=⟨(.pair T25 (.pair T25 (.pair T2 .unit))),(.one (.dp T4)),fun x=>tourlaw2_ReachSays k x.1 x.2.1 x.2.2.1,false⟩
noncomputable def tourlaw2_ReachSays.cx (k:Nat):Go.Sx.Ctx:=⟨tys,[(4,tourlaw2_reachBegun.sp k),(5,reach_Bound.sp k),(6,reach_Time.sp k),(7,reach_Sink.sp k),(8,r2_Body.sp k),(9,r2_Time.sp k),(10,r2_Bound.sp k),(11,r2_Sink.sp k)],eqs,133,false⟩
theorem tourlaw2_ReachSays.cok (k:Nat):CtxOk PR (tourlaw2_ReachSays.cx k):=ctx_ok tysOk eqsOk (FnsOk.cons (tourlaw2_reachBegun.ok k) (FnsOk.cons (reach_Bound.ok k) (FnsOk.cons (reach_Time.ok k) (FnsOk.cons (reach_Sink.ok k) (FnsOk.cons (r2_Body.ok k) (FnsOk.cons (r2_Time.ok k) (FnsOk.cons (r2_Bound.ok k) (FnsOk.cons (r2_Sink.ok k) FnsOk.nil))))))))
noncomputable def tourlaw2_ReachSays.c1p (a0 a1:V25) (a2:Int) (y4:(Int × Int)) (y6:(Int × (Bool × Int))) (y8:(Int × Int)) (y10:Int):SL:=⟨[(2,(.val T2 a2)),(3,(.val .ptr ⟨0,0,(0:Int),0,0⟩)),(4,(.val .ptr ⟨1,0,(0:Int),0,0⟩)),(7,(.val T2 y4.1)),(8,(.val T2 y4.2)),(9,(.val T2 y6.1)),(10,(.val T4 y6.2.1)),(11,(.val T2 y6.2.2)),(12,(.val T2 y8.1)),(13,(.val T2 y8.2)),(14,(.val T2 y10)),(44,(.val T4 (ieq y10 (0:Int))))],[(0,.cells T25 a0),(1,.cells T25 a1)]⟩
noncomputable def tourlaw2_ReachSays.c1q (a0 a1:V25) (a2:Int) (y4:(Int × Int)) (y6:(Int × (Bool × Int))) (y8:(Int × Int)) (o:Int):SL:=(fun v=>⟨[(2,(.val T2 a2)),(3,(.val .ptr ⟨0,0,(0:Int),0,0⟩)),(4,(.val .ptr ⟨1,0,(0:Int),0,0⟩)),(7,(.val T2 y4.1)),(8,(.val T2 y4.2)),(9,(.val T2 y6.1)),(10,(.val T4 y6.2.1)),(11,(.val T2 y6.2.2)),(12,(.val T2 y8.1)),(13,(.val T2 y8.2)),(14,(.val T2 v))],[(0,.cells T25 a0),(1,.cells T25 a1)]⟩) o
noncomputable def tourlaw2_ReachSays.c1x (o:Int):Ex:=(fun _=>.normal) o
noncomputable def tourlaw2_ReachSays.c1n (o:Int):Nat:=(fun _=>2) o
theorem tourlaw2_ReachSays.c1_ok (k:Nat) (a0 a1:V25) (a2:Int) (y4:(Int × Int)) (y6:(Int × (Bool × Int))) (y8:(Int × Int)) (y10:Int):Owp (tourlaw2_ReachSays.c1 k a1 y10) fun o=>Triple PR (tourlaw2_ReachSays.cx k) (sub tourlaw2_ReachSays.code [1,1,1,1,1,1,0,1]) 2 (tourlaw2_ReachSays.c1p a0 a1 a2 y4 y6 y8 y10) (tourlaw2_ReachSays.c1x o) (tourlaw2_ReachSays.c1n o) (tourlaw2_ReachSays.c1q a0 a1 a2 y4 y6 y8 o):=by
  unfold tourlaw2_ReachSays.c1; exact
   Owp.bif (fun e12 =>
   Owp.bnd fun y13 e14 =>
   Owp.some (triple_way (tourlaw2_ReachSays.cok k) hmix [tT,rS T2 y13] [] [(0,0),(1,1)] (via (finP (aI (aI trivial e12) e14) .normal [(0,0),(1,1)] (tourlaw2_ReachSays.c1q a0 a1 a2 y4 y6 y8 y13)) (by kernel_rfl)))) (fun e12 =>
   Owp.some (triple_way (tourlaw2_ReachSays.cok k) hmix [fF] [] [(0,0),(1,1)] (via (finP (aI trivial e12) .normal [(0,0),(1,1)] (tourlaw2_ReachSays.c1q a0 a1 a2 y4 y6 y8 y10)) (by kernel_rfl))))
noncomputable def tourlaw2_ReachSays.c2p (a0 a1:V25) (a2 o15:Int) (y4:(Int × Int)) (y6:(Int × (Bool × Int))) (y8:(Int × Int)):SL:=⟨[(2,(.val T2 a2)),(3,(.val .ptr ⟨0,0,(0:Int),0,0⟩)),(4,(.val .ptr ⟨1,0,(0:Int),0,0⟩)),(7,(.val T2 y4.1)),(8,(.val T2 y4.2)),(9,(.val T2 y6.1)),(10,(.val T4 y6.2.1)),(11,(.val T2 y6.2.2)),(12,(.val T2 y8.1)),(13,(.val T2 y8.2)),(14,(.val T2 o15))],[(0,.cells T25 a0),(1,.cells T25 a1)]⟩
noncomputable def tourlaw2_ReachSays.c2q (a0 a1:V25) (a2 o15:Int) (y4:(Int × Int)) (y6:(Int × (Bool × Int))) (y8:(Int × Int)) (o:Bool):SL:=(fun v=>⟨[(2,(.val T2 a2)),(3,(.val .ptr ⟨0,0,(0:Int),0,0⟩)),(4,(.val .ptr ⟨1,0,(0:Int),0,0⟩)),(7,(.val T2 y4.1)),(8,(.val T2 y4.2)),(9,(.val T2 y6.1)),(10,(.val T4 y6.2.1)),(11,(.val T2 y6.2.2)),(12,(.val T2 y8.1)),(13,(.val T2 y8.2)),(14,(.val T2 o15)),(56,(.val T4 v))],[(0,.cells T25 a0),(1,.cells T25 a1)]⟩) o
noncomputable def tourlaw2_ReachSays.c2x (o:Bool):Ex:=(fun _=>.normal) o
noncomputable def tourlaw2_ReachSays.c2n (o:Bool):Nat:=(fun _=>2) o
theorem tourlaw2_ReachSays.c2_ok (k:Nat) (a0 a1:V25) (a2 o15:Int) (y4:(Int × Int)) (y6:(Int × (Bool × Int))) (y8:(Int × Int)):Owp (tourlaw2_ReachSays.c2 k a2 o15) fun o=>Triple PR (tourlaw2_ReachSays.cx k) (sub tourlaw2_ReachSays.code [1,1,1,1,1,1,1,0,0]) 2 (tourlaw2_ReachSays.c2p a0 a1 a2 o15 y4 y6 y8) (tourlaw2_ReachSays.c2x o) (tourlaw2_ReachSays.c2n o) (tourlaw2_ReachSays.c2q a0 a1 a2 o15 y4 y6 y8 o):=by
  unfold tourlaw2_ReachSays.c2; exact
   Owp.bif (fun e17 =>
   Owp.bif (fun e18 =>
   Owp.some (triple_way (tourlaw2_ReachSays.cok k) hmix [tT,tT,tT,tT,tT,tT,tT,tT] [] [(0,0),(1,1)] (via (finP (aI (aI (aI (aI (aI (aI (aI trivial e17) e17) e17) e18) e18) (aI e17 e18)) e17) .normal [(0,0),(1,1)] (tourlaw2_ReachSays.c2q a0 a1 a2 o15 y4 y6 y8 true)) (by kernel_rfl)))) (fun e18 =>
   Owp.some (triple_way (tourlaw2_ReachSays.cok k) hmix [tT,tT,tT,fF,fF,tT,fF,tT] [] [(0,0),(1,1)] (via (finP (aI (aI (aI (aI (aI (aI (aI trivial e17) e17) e17) e18) e18) (aI e17 e18)) e17) .normal [(0,0),(1,1)] (tourlaw2_ReachSays.c2q a0 a1 a2 o15 y4 y6 y8 (igt a2 (65536:Int)))) (by kernel_rfl))))) (fun e17 =>
   Owp.some (triple_way (tourlaw2_ReachSays.cok k) hmix [fF,fF,fF,tT,tT,fF,tT,fF] [] [(0,0),(1,1)] (via (finP (aI (aI (aI (aI (aI trivial e17) e17) e17) e17) e17) .normal [(0,0),(1,1)] (tourlaw2_ReachSays.c2q a0 a1 a2 o15 y4 y6 y8 false)) (by kernel_rfl))))
noncomputable def tourlaw2_ReachSays.c3p (a0 a1:V25) (a2 o15:Int) (o19:Bool) (y4:(Int × Int)) (y6:(Int × (Bool × Int))) (y8:(Int × Int)):SL:=⟨[(2,(.val T2 a2)),(3,(.val .ptr ⟨0,0,(0:Int),0,0⟩)),(4,(.val .ptr ⟨1,0,(0:Int),0,0⟩)),(7,(.val T2 y4.1)),(8,(.val T2 y4.2)),(9,(.val T2 y6.1)),(10,(.val T4 y6.2.1)),(11,(.val T2 y6.2.2)),(12,(.val T2 y8.1)),(13,(.val T2 y8.2)),(14,(.val T2 o15)),(56,(.val T4 o19))],[(0,.cells T25 a0),(1,.cells T25 a1)]⟩
noncomputable def tourlaw2_ReachSays.c3q (a0 a1:V25) (a2:Int) (y4:(Int × Int)) (y6:(Int × (Bool × Int))) (y8:(Int × Int)) (o:Int):SL:=(fun v=>⟨[(2,(.val T2 a2)),(3,(.val .ptr ⟨0,0,(0:Int),0,0⟩)),(4,(.val .ptr ⟨1,0,(0:Int),0,0⟩)),(7,(.val T2 y4.1)),(8,(.val T2 y4.2)),(9,(.val T2 y6.1)),(10,(.val T4 y6.2.1)),(11,(.val T2 y6.2.2)),(12,(.val T2 y8.1)),(13,(.val T2 y8.2)),(14,(.val T2 v))],[(0,.cells T25 a0),(1,.cells T25 a1)]⟩) o
noncomputable def tourlaw2_ReachSays.c3x (o:Int):Ex:=(fun _=>.normal) o
noncomputable def tourlaw2_ReachSays.c3n (o:Int):Nat:=(fun _=>2) o
theorem tourlaw2_ReachSays.c3_ok (k:Nat) (a0 a1:V25) (a2 o15:Int) (o19:Bool) (y4:(Int × Int)) (y6:(Int × (Bool × Int))) (y8:(Int × Int)):Owp (tourlaw2_ReachSays.c3 k o15 o19) fun o=>Triple PR (tourlaw2_ReachSays.cx k) (sub tourlaw2_ReachSays.code [1,1,1,1,1,1,1,0,1]) 2 (tourlaw2_ReachSays.c3p a0 a1 a2 o15 o19 y4 y6 y8) (tourlaw2_ReachSays.c3x o) (tourlaw2_ReachSays.c3n o) (tourlaw2_ReachSays.c3q a0 a1 a2 y4 y6 y8 o):=by
  unfold tourlaw2_ReachSays.c3; exact
   Owp.bif (fun e21 =>
   Owp.some (triple_way (tourlaw2_ReachSays.cok k) hmix [tT] [] [(0,0),(1,1)] (via (finP (aI trivial e21) .normal [(0,0),(1,1)] (tourlaw2_ReachSays.c3q a0 a1 a2 y4 y6 y8 (1:Int))) (by kernel_rfl)))) (fun e21 =>
   Owp.some (triple_way (tourlaw2_ReachSays.cok k) hmix [fF] [] [(0,0),(1,1)] (via (finP (aI trivial e21) .normal [(0,0),(1,1)] (tourlaw2_ReachSays.c3q a0 a1 a2 y4 y6 y8 o15)) (by kernel_rfl))))
noncomputable def tourlaw2_ReachSays.c4p (o22:Int) (y4:(Int × Int)) (y6:(Int × (Bool × Int))) (y8:(Int × Int)):SL:=⟨[(7,(.val T2 y4.1)),(8,(.val T2 y4.2)),(9,(.val T2 y6.1)),(10,(.val T4 y6.2.1)),(11,(.val T2 y6.2.2)),(12,(.val T2 y8.1)),(13,(.val T2 y8.2)),(14,(.val T2 o22))],[]⟩
noncomputable def tourlaw2_ReachSays.c4q (o:Bool):SL:=(fun v=>⟨[(6,(.val T4 v))],[]⟩) o
noncomputable def tourlaw2_ReachSays.c4x (o:Bool):Ex:=(fun _=>.normal) o
noncomputable def tourlaw2_ReachSays.c4n (o:Bool):Nat:=(fun _=>0) o
theorem tourlaw2_ReachSays.c4_ok (k:Nat) (o22:Int) (y4:(Int × Int)) (y6:(Int × (Bool × Int))) (y8:(Int × Int)):Owp (tourlaw2_ReachSays.c4 k o22 y4 y6 y8) fun o=>Triple PR (tourlaw2_ReachSays.cx k) (sub tourlaw2_ReachSays.code [1,1,1,1,1,1,1,1,0,1,0,0]) 0 (tourlaw2_ReachSays.c4p o22 y4 y6 y8) (tourlaw2_ReachSays.c4x o) (tourlaw2_ReachSays.c4n o) (tourlaw2_ReachSays.c4q o):=by
  unfold tourlaw2_ReachSays.c4; exact
   Owp.bif (fun e25 =>
   Owp.bif (fun e26 =>
   Owp.bif (fun e27 =>
   Owp.bif (fun e28 =>
   Owp.bif (fun e29 =>
   Owp.bif (fun e30 =>
   Owp.some (triple_way (tourlaw2_ReachSays.cok k) hmix [tT,tT,tT,tT,tT,tT,tT,tT,tT,tT,tT,tT,tT,tT,tT,tT,tT,fF,fF,fF] [] [] (via (finP (aI (aI (aI (aI (aI (aI (aI (aI (aI (aI (aI (aI (aI (aI (aI (aI (aI (aI (aI (aI trivial e25) e25) e25) e25) e26) e26) e26) e26) e27) e27) e27) e28) e28) e28) e29) e29) e29) (congrArg not e30)) (congrArg not e30)) (congrArg not e30)) .normal [] (tourlaw2_ReachSays.c4q false)) (by kernel_rfl)))) (fun e30 =>
   Owp.some (triple_way (tourlaw2_ReachSays.cok k) hmix [tT,tT,tT,tT,tT,tT,tT,tT,tT,tT,tT,tT,tT,tT,tT,tT,tT,tT,tT,tT] [] [] (via (finP (aI (aI (aI (aI (aI (aI (aI (aI (aI (aI (aI (aI (aI (aI (aI (aI (aI (aI (aI (aI trivial e25) e25) e25) e25) e26) e26) e26) e26) e27) e27) e27) e28) e28) e28) e29) e29) e29) (congrArg not e30)) (congrArg not e30)) (congrArg not e30)) .normal [] (tourlaw2_ReachSays.c4q (ieq y8.1 (0:Int)))) (by kernel_rfl))))) (fun e29 =>
   Owp.some (triple_way (tourlaw2_ReachSays.cok k) hmix [tT,tT,tT,tT,tT,tT,tT,tT,tT,tT,tT,tT,tT,tT,fF,fF,fF,fF,fF,fF] [] [] (via (finP (aI (aI (aI (aI (aI (aI (aI (aI (aI (aI (aI (aI (aI (aI (aI (aI (aI (aI (aI (aI trivial e25) e25) e25) e25) e26) e26) e26) e26) e27) e27) e27) e28) e28) e28) e29) e29) e29) ff) ff) ff) .normal [] (tourlaw2_ReachSays.c4q false)) (by kernel_rfl))))) (fun e28 =>
   Owp.some (triple_way (tourlaw2_ReachSays.cok k) hmix [tT,tT,tT,tT,tT,tT,tT,tT,tT,tT,tT,fF,fF,fF,fF,fF,fF,fF,fF,fF] [] [] (via (finP (aI (aI (aI (aI (aI (aI (aI (aI (aI (aI (aI (aI (aI (aI (aI (aI (aI (aI (aI (aI trivial e25) e25) e25) e25) e26) e26) e26) e26) e27) e27) e27) e28) e28) e28) ff) ff) ff) ff) ff) ff) .normal [] (tourlaw2_ReachSays.c4q false)) (by kernel_rfl))))) (fun e27 =>
   Owp.some (triple_way (tourlaw2_ReachSays.cok k) hmix [tT,tT,tT,tT,tT,tT,tT,tT,fF,fF,fF,fF,fF,fF,fF,fF,fF,fF,fF,fF] [] [] (via (finP (aI (aI (aI (aI (aI (aI (aI (aI (aI (aI (aI (aI (aI (aI (aI (aI (aI (aI (aI (aI trivial e25) e25) e25) e25) e26) e26) e26) e26) e27) e27) e27) ff) ff) ff) ff) ff) ff) ff) ff) ff) .normal [] (tourlaw2_ReachSays.c4q false)) (by kernel_rfl))))) (fun e26 =>
   Owp.some (triple_way (tourlaw2_ReachSays.cok k) hmix [tT,tT,tT,tT,fF,fF,fF,fF,fF,fF,fF,fF,fF,fF,fF,fF,fF,fF,fF,fF] [] [] (via (finP (aI (aI (aI (aI (aI (aI (aI (aI (aI (aI (aI (aI (aI (aI (aI (aI (aI (aI (aI (aI trivial e25) e25) e25) e25) e26) e26) e26) e26) ff) ff) ff) ff) ff) ff) ff) ff) ff) ff) ff) ff) .normal [] (tourlaw2_ReachSays.c4q false)) (by kernel_rfl))))) (fun e25 =>
   Owp.some (triple_way (tourlaw2_ReachSays.cok k) hmix [fF,fF,fF,fF,fF,fF,fF,fF,fF,fF,fF,fF,fF,fF,fF,fF,fF,fF,fF,fF] [] [] (via (finP (aI (aI (aI (aI (aI (aI (aI (aI (aI (aI (aI (aI (aI (aI (aI (aI (aI (aI (aI (aI trivial e25) e25) e25) e25) ff) ff) ff) ff) ff) ff) ff) ff) ff) ff) ff) ff) ff) ff) ff) ff) .normal [] (tourlaw2_ReachSays.c4q false)) (by kernel_rfl))))
theorem tourlaw2_ReachSays.way (k:Nat) (a0 a1:V25) (a2:Int):Owp (tourlaw2_ReachSays k a0 a1 a2) fun y=>∃ w c0,exec PR (tourlaw2_ReachSays.cx k) tourlaw2_ReachSays.code 0 (entry (.pair T25 (.pair T25 (.pair T2 .unit))) (a0,a1,a2,())).st w (Ret (tourlaw2_ReachSays.cx k) Tryz.f3 c0 (.one (.dp T4)) y):=by
  unfold tourlaw2_ReachSays; exact
   Owp.bnd fun y1 e2 =>
   Owp.bif (fun e3 =>
   Owp.bnd fun y4 e5 =>
   Owp.bnd fun y6 e7 =>
   Owp.bnd fun y8 e9 =>
   Owp.bnd fun y10 e11 =>
   Owp.bnd fun o15 e16 =>
   Owp.bnd fun o19 e20 =>
   Owp.bnd fun o22 e23 =>
   Owp.bif (fun e24 =>
   Owp.bnd fun o31 e32 =>
   Owp.some (⟨[rS T4 y1,fF,.res (.more (.dp T2) (.one (.dp T2))) y4,.res (.more (.dp T2) (.more (.dp T4) (.one (.dp T2)))) y6,.res (.more (.dp T2) (.one (.dp T2))) y8,rS T2 y10,.cut ⟨[],[(0,0),(1,1)],(tourlaw2_ReachSays.c1p a0 a1 a2 y4 y6 y8 y10),2,.normal,(tourlaw2_ReachSays.c1q a0 a1 a2 y4 y6 y8 o15),2⟩,.cutR 9 ⟨[],[(0,0),(1,1)],(tourlaw2_ReachSays.c2p a0 a1 a2 o15 y4 y6 y8),2,.normal,(tourlaw2_ReachSays.c2q a0 a1 a2 o15 y4 y6 y8 o19),2⟩,.cut ⟨[],[(0,0),(1,1)],(tourlaw2_ReachSays.c3p a0 a1 a2 o15 o19 y4 y6 y8),2,.normal,(tourlaw2_ReachSays.c3q a0 a1 a2 y4 y6 y8 o22),2⟩,tT,.cutR 12 ⟨[],[],(tourlaw2_ReachSays.c4p o22 y4 y6 y8),0,.normal,(tourlaw2_ReachSays.c4q o31),0⟩],[],via (cutP (aI (aI (aI (aI (aI (aI trivial e2) (congrArg not e3)) e5) e7) e9) e11) [(0,0),(1,1)] (tourlaw2_ReachSays.c1p a0 a1 a2 y4 y6 y8 y10) (((tourlaw2_ReachSays.c1_ok k a0 a1 a2 y4 y6 y8 y10).ap e16)) (cutP trivial [(0,0),(1,1)] (tourlaw2_ReachSays.c2p a0 a1 a2 o15 y4 y6 y8) (((tourlaw2_ReachSays.c2_ok k a0 a1 a2 o15 y4 y6 y8).ap e20)) (cutP trivial [(0,0),(1,1)] (tourlaw2_ReachSays.c3p a0 a1 a2 o15 o19 y4 y6 y8) (((tourlaw2_ReachSays.c3_ok k a0 a1 a2 o15 o19 y4 y6 y8).ap e23)) (cutP (aI trivial e24) [] (tourlaw2_ReachSays.c4p o22 y4 y6 y8) (((tourlaw2_ReachSays.c4_ok k o22 y4 y6 y8).ap e32)) (retP trivial (.one (.dp T4)) (o31:Bool)))))) (by kernel_rfl)⟩)) (fun e24 =>
   Owp.bif (fun e33 =>
   Owp.some (⟨[rS T4 y1,fF,.res (.more (.dp T2) (.one (.dp T2))) y4,.res (.more (.dp T2) (.more (.dp T4) (.one (.dp T2)))) y6,.res (.more (.dp T2) (.one (.dp T2))) y8,rS T2 y10,.cut ⟨[],[(0,0),(1,1)],(tourlaw2_ReachSays.c1p a0 a1 a2 y4 y6 y8 y10),2,.normal,(tourlaw2_ReachSays.c1q a0 a1 a2 y4 y6 y8 o15),2⟩,.cutR 9 ⟨[],[(0,0),(1,1)],(tourlaw2_ReachSays.c2p a0 a1 a2 o15 y4 y6 y8),2,.normal,(tourlaw2_ReachSays.c2q a0 a1 a2 o15 y4 y6 y8 o19),2⟩,.cut ⟨[],[(0,0),(1,1)],(tourlaw2_ReachSays.c3p a0 a1 a2 o15 o19 y4 y6 y8),2,.normal,(tourlaw2_ReachSays.c3q a0 a1 a2 y4 y6 y8 o22),2⟩,fF,tT],[],via (cutP (aI (aI (aI (aI (aI (aI trivial e2) (congrArg not e3)) e5) e7) e9) e11) [(0,0),(1,1)] (tourlaw2_ReachSays.c1p a0 a1 a2 y4 y6 y8 y10) (((tourlaw2_ReachSays.c1_ok k a0 a1 a2 y4 y6 y8 y10).ap e16)) (cutP trivial [(0,0),(1,1)] (tourlaw2_ReachSays.c2p a0 a1 a2 o15 y4 y6 y8) (((tourlaw2_ReachSays.c2_ok k a0 a1 a2 o15 y4 y6 y8).ap e20)) (cutP trivial [(0,0),(1,1)] (tourlaw2_ReachSays.c3p a0 a1 a2 o15 o19 y4 y6 y8) (((tourlaw2_ReachSays.c3_ok k a0 a1 a2 o15 o19 y4 y6 y8).ap e23)) (retP (aI (aI trivial e24) e33) (.one (.dp T4)) (true:Bool))))) (by kernel_rfl)⟩)) (fun e33 =>
   Owp.bnd fun y34 e35 =>
   Owp.bif (fun e36 =>
   Owp.bif (fun e37 =>
   Owp.bif (fun e38 =>
   Owp.bnd fun y39 e40 =>
   Owp.bif (fun e41 =>
   Owp.bif (fun e42 =>
   Owp.bif (fun e43 =>
   Owp.bnd fun y44 e45 =>
   Owp.some (⟨[rS T4 y1,fF,.res (.more (.dp T2) (.one (.dp T2))) y4,.res (.more (.dp T2) (.more (.dp T4) (.one (.dp T2)))) y6,.res (.more (.dp T2) (.one (.dp T2))) y8,rS T2 y10,.cut ⟨[],[(0,0),(1,1)],(tourlaw2_ReachSays.c1p a0 a1 a2 y4 y6 y8 y10),2,.normal,(tourlaw2_ReachSays.c1q a0 a1 a2 y4 y6 y8 o15),2⟩,.cutR 9 ⟨[],[(0,0),(1,1)],(tourlaw2_ReachSays.c2p a0 a1 a2 o15 y4 y6 y8),2,.normal,(tourlaw2_ReachSays.c2q a0 a1 a2 o15 y4 y6 y8 o19),2⟩,.cut ⟨[],[(0,0),(1,1)],(tourlaw2_ReachSays.c3p a0 a1 a2 o15 o19 y4 y6 y8),2,.normal,(tourlaw2_ReachSays.c3q a0 a1 a2 y4 y6 y8 o22),2⟩,fF,fF,.res (.more (.dp T2) (.one (.dp T4))) y34,tT,tT,tT,tT,tT,tT,tT,tT,tT,tT,tT,rS T2 y39,tT,tT,tT,tT,tT,tT,tT,tT,tT,tT,tT,tT,tT,tT,tT,rS T2 y44,tT,tT],[],via (cutP (aI (aI (aI (aI (aI (aI trivial e2) (congrArg not e3)) e5) e7) e9) e11) [(0,0),(1,1)] (tourlaw2_ReachSays.c1p a0 a1 a2 y4 y6 y8 y10) (((tourlaw2_ReachSays.c1_ok k a0 a1 a2 y4 y6 y8 y10).ap e16)) (cutP trivial [(0,0),(1,1)] (tourlaw2_ReachSays.c2p a0 a1 a2 o15 y4 y6 y8) (((tourlaw2_ReachSays.c2_ok k a0 a1 a2 o15 y4 y6 y8).ap e20)) (cutP trivial [(0,0),(1,1)] (tourlaw2_ReachSays.c3p a0 a1 a2 o15 o19 y4 y6 y8) (((tourlaw2_ReachSays.c3_ok k a0 a1 a2 o15 o19 y4 y6 y8).ap e23)) (retP (aI (aI (aI (aI (aI (aI (aI (aI (aI (aI (aI (aI (aI (aI (aI (aI (aI (aI (aI (aI (aI (aI (aI (aI (aI (aI (aI (aI (aI (aI (aI trivial e24) e33) e35) e36) e36) e36) e37) e37) e37) e38) e38) e38) e38) (aI e38 e40)) e38) e38) e41) e41) e41) e41) e42) e42) e42) e42) e43) e43) e43) e43) (aI e43 e45)) e43) e43) (.one (.dp T4)) ((ieq y8.1 y44):Bool))))) (by kernel_rfl)⟩)) (fun e43 =>
   Owp.some (⟨[rS T4 y1,fF,.res (.more (.dp T2) (.one (.dp T2))) y4,.res (.more (.dp T2) (.more (.dp T4) (.one (.dp T2)))) y6,.res (.more (.dp T2) (.one (.dp T2))) y8,rS T2 y10,.cut ⟨[],[(0,0),(1,1)],(tourlaw2_ReachSays.c1p a0 a1 a2 y4 y6 y8 y10),2,.normal,(tourlaw2_ReachSays.c1q a0 a1 a2 y4 y6 y8 o15),2⟩,.cutR 9 ⟨[],[(0,0),(1,1)],(tourlaw2_ReachSays.c2p a0 a1 a2 o15 y4 y6 y8),2,.normal,(tourlaw2_ReachSays.c2q a0 a1 a2 o15 y4 y6 y8 o19),2⟩,.cut ⟨[],[(0,0),(1,1)],(tourlaw2_ReachSays.c3p a0 a1 a2 o15 o19 y4 y6 y8),2,.normal,(tourlaw2_ReachSays.c3q a0 a1 a2 y4 y6 y8 o22),2⟩,fF,fF,.res (.more (.dp T2) (.one (.dp T4))) y34,tT,tT,tT,tT,tT,tT,tT,tT,tT,tT,tT,rS T2 y39,tT,tT,tT,tT,tT,tT,tT,tT,tT,tT,fF,fF,fF,fF,fF,tT,fF,fF],[],via (cutP (aI (aI (aI (aI (aI (aI trivial e2) (congrArg not e3)) e5) e7) e9) e11) [(0,0),(1,1)] (tourlaw2_ReachSays.c1p a0 a1 a2 y4 y6 y8 y10) (((tourlaw2_ReachSays.c1_ok k a0 a1 a2 y4 y6 y8 y10).ap e16)) (cutP trivial [(0,0),(1,1)] (tourlaw2_ReachSays.c2p a0 a1 a2 o15 y4 y6 y8) (((tourlaw2_ReachSays.c2_ok k a0 a1 a2 o15 y4 y6 y8).ap e20)) (cutP trivial [(0,0),(1,1)] (tourlaw2_ReachSays.c3p a0 a1 a2 o15 o19 y4 y6 y8) (((tourlaw2_ReachSays.c3_ok k a0 a1 a2 o15 o19 y4 y6 y8).ap e23)) (retP (aI (aI (aI (aI (aI (aI (aI (aI (aI (aI (aI (aI (aI (aI (aI (aI (aI (aI (aI (aI (aI (aI (aI (aI (aI (aI (aI (aI (aI (aI (aI trivial e24) e33) e35) e36) e36) e36) e37) e37) e37) e38) e38) e38) e38) (aI e38 e40)) e38) e38) e41) e41) e41) e41) e42) e42) e42) e42) e43) e43) e43) e43) e43) e43) e43) (.one (.dp T4)) (false:Bool))))) (by kernel_rfl)⟩))) (fun e42 =>
   Owp.some (⟨[rS T4 y1,fF,.res (.more (.dp T2) (.one (.dp T2))) y4,.res (.more (.dp T2) (.more (.dp T4) (.one (.dp T2)))) y6,.res (.more (.dp T2) (.one (.dp T2))) y8,rS T2 y10,.cut ⟨[],[(0,0),(1,1)],(tourlaw2_ReachSays.c1p a0 a1 a2 y4 y6 y8 y10),2,.normal,(tourlaw2_ReachSays.c1q a0 a1 a2 y4 y6 y8 o15),2⟩,.cutR 9 ⟨[],[(0,0),(1,1)],(tourlaw2_ReachSays.c2p a0 a1 a2 o15 y4 y6 y8),2,.normal,(tourlaw2_ReachSays.c2q a0 a1 a2 o15 y4 y6 y8 o19),2⟩,.cut ⟨[],[(0,0),(1,1)],(tourlaw2_ReachSays.c3p a0 a1 a2 o15 o19 y4 y6 y8),2,.normal,(tourlaw2_ReachSays.c3q a0 a1 a2 y4 y6 y8 o22),2⟩,fF,fF,.res (.more (.dp T2) (.one (.dp T4))) y34,tT,tT,tT,tT,tT,tT,tT,tT,tT,tT,tT,rS T2 y39,tT,tT,tT,tT,tT,tT,fF,fF,fF,fF,fF,fF,fF,fF,fF,tT,fF,fF],[],via (cutP (aI (aI (aI (aI (aI (aI trivial e2) (congrArg not e3)) e5) e7) e9) e11) [(0,0),(1,1)] (tourlaw2_ReachSays.c1p a0 a1 a2 y4 y6 y8 y10) (((tourlaw2_ReachSays.c1_ok k a0 a1 a2 y4 y6 y8 y10).ap e16)) (cutP trivial [(0,0),(1,1)] (tourlaw2_ReachSays.c2p a0 a1 a2 o15 y4 y6 y8) (((tourlaw2_ReachSays.c2_ok k a0 a1 a2 o15 y4 y6 y8).ap e20)) (cutP trivial [(0,0),(1,1)] (tourlaw2_ReachSays.c3p a0 a1 a2 o15 o19 y4 y6 y8) (((tourlaw2_ReachSays.c3_ok k a0 a1 a2 o15 o19 y4 y6 y8).ap e23)) (retP (aI (aI (aI (aI (aI (aI (aI (aI (aI (aI (aI (aI (aI (aI (aI (aI (aI (aI (aI (aI (aI (aI (aI (aI (aI (aI (aI (aI (aI (aI (aI trivial e24) e33) e35) e36) e36) e36) e37) e37) e37) e38) e38) e38) e38) (aI e38 e40)) e38) e38) e41) e41) e41) e41) e42) e42) e42) e42) ff) ff) ff) ff) ff) ff) ff) (.one (.dp T4)) (false:Bool))))) (by kernel_rfl)⟩))) (fun e41 =>
   Owp.some (⟨[rS T4 y1,fF,.res (.more (.dp T2) (.one (.dp T2))) y4,.res (.more (.dp T2) (.more (.dp T4) (.one (.dp T2)))) y6,.res (.more (.dp T2) (.one (.dp T2))) y8,rS T2 y10,.cut ⟨[],[(0,0),(1,1)],(tourlaw2_ReachSays.c1p a0 a1 a2 y4 y6 y8 y10),2,.normal,(tourlaw2_ReachSays.c1q a0 a1 a2 y4 y6 y8 o15),2⟩,.cutR 9 ⟨[],[(0,0),(1,1)],(tourlaw2_ReachSays.c2p a0 a1 a2 o15 y4 y6 y8),2,.normal,(tourlaw2_ReachSays.c2q a0 a1 a2 o15 y4 y6 y8 o19),2⟩,.cut ⟨[],[(0,0),(1,1)],(tourlaw2_ReachSays.c3p a0 a1 a2 o15 o19 y4 y6 y8),2,.normal,(tourlaw2_ReachSays.c3q a0 a1 a2 y4 y6 y8 o22),2⟩,fF,fF,.res (.more (.dp T2) (.one (.dp T4))) y34,tT,tT,tT,tT,tT,tT,tT,tT,tT,tT,tT,rS T2 y39,tT,tT,fF,fF,fF,fF,fF,fF,fF,fF,fF,fF,fF,fF,fF,tT,fF,fF],[],via (cutP (aI (aI (aI (aI (aI (aI trivial e2) (congrArg not e3)) e5) e7) e9) e11) [(0,0),(1,1)] (tourlaw2_ReachSays.c1p a0 a1 a2 y4 y6 y8 y10) (((tourlaw2_ReachSays.c1_ok k a0 a1 a2 y4 y6 y8 y10).ap e16)) (cutP trivial [(0,0),(1,1)] (tourlaw2_ReachSays.c2p a0 a1 a2 o15 y4 y6 y8) (((tourlaw2_ReachSays.c2_ok k a0 a1 a2 o15 y4 y6 y8).ap e20)) (cutP trivial [(0,0),(1,1)] (tourlaw2_ReachSays.c3p a0 a1 a2 o15 o19 y4 y6 y8) (((tourlaw2_ReachSays.c3_ok k a0 a1 a2 o15 o19 y4 y6 y8).ap e23)) (retP (aI (aI (aI (aI (aI (aI (aI (aI (aI (aI (aI (aI (aI (aI (aI (aI (aI (aI (aI (aI (aI (aI (aI (aI (aI (aI (aI (aI (aI (aI (aI trivial e24) e33) e35) e36) e36) e36) e37) e37) e37) e38) e38) e38) e38) (aI e38 e40)) e38) e38) e41) e41) e41) e41) ff) ff) ff) ff) ff) ff) ff) ff) ff) ff) ff) (.one (.dp T4)) (false:Bool))))) (by kernel_rfl)⟩))) (fun e38 =>
   Owp.some (⟨[rS T4 y1,fF,.res (.more (.dp T2) (.one (.dp T2))) y4,.res (.more (.dp T2) (.more (.dp T4) (.one (.dp T2)))) y6,.res (.more (.dp T2) (.one (.dp T2))) y8,rS T2 y10,.cut ⟨[],[(0,0),(1,1)],(tourlaw2_ReachSays.c1p a0 a1 a2 y4 y6 y8 y10),2,.normal,(tourlaw2_ReachSays.c1q a0 a1 a2 y4 y6 y8 o15),2⟩,.cutR 9 ⟨[],[(0,0),(1,1)],(tourlaw2_ReachSays.c2p a0 a1 a2 o15 y4 y6 y8),2,.normal,(tourlaw2_ReachSays.c2q a0 a1 a2 o15 y4 y6 y8 o19),2⟩,.cut ⟨[],[(0,0),(1,1)],(tourlaw2_ReachSays.c3p a0 a1 a2 o15 o19 y4 y6 y8),2,.normal,(tourlaw2_ReachSays.c3q a0 a1 a2 y4 y6 y8 o22),2⟩,fF,fF,.res (.more (.dp T2) (.one (.dp T4))) y34,tT,tT,tT,tT,tT,tT,fF,fF,fF,fF,fF,tT,fF,fF,fF,fF,fF,fF,fF,fF,fF,fF,fF,fF,fF,fF,fF,tT,fF,fF],[],via (cutP (aI (aI (aI (aI (aI (aI trivial e2) (congrArg not e3)) e5) e7) e9) e11) [(0,0),(1,1)] (tourlaw2_ReachSays.c1p a0 a1 a2 y4 y6 y8 y10) (((tourlaw2_ReachSays.c1_ok k a0 a1 a2 y4 y6 y8 y10).ap e16)) (cutP trivial [(0,0),(1,1)] (tourlaw2_ReachSays.c2p a0 a1 a2 o15 y4 y6 y8) (((tourlaw2_ReachSays.c2_ok k a0 a1 a2 o15 y4 y6 y8).ap e20)) (cutP trivial [(0,0),(1,1)] (tourlaw2_ReachSays.c3p a0 a1 a2 o15 o19 y4 y6 y8) (((tourlaw2_ReachSays.c3_ok k a0 a1 a2 o15 o19 y4 y6 y8).ap e23)) (retP (aI (aI (aI (aI (aI (aI (aI (aI (aI (aI (aI (aI (aI (aI (aI (aI (aI (aI (aI (aI (aI (aI (aI (aI (aI (aI (aI (aI (aI (aI (aI trivial e24) e33) e35) e36) e36) e36) e37) e37) e37) e38) e38) e38) e38) e38) e38) e38) ff) ff) ff) ff) ff) ff) ff) ff) ff) ff) ff) ff) ff) ff) ff) (.one (.dp T4)) (false:Bool))))) (by kernel_rfl)⟩))) (fun e37 =>
   Owp.some (⟨[rS T4 y1,fF,.res (.more (.dp T2) (.one (.dp T2))) y4,.res (.more (.dp T2) (.more (.dp T4) (.one (.dp T2)))) y6,.res (.more (.dp T2) (.one (.dp T2))) y8,rS T2 y10,.cut ⟨[],[(0,0),(1,1)],(tourlaw2_ReachSays.c1p a0 a1 a2 y4 y6 y8 y10),2,.normal,(tourlaw2_ReachSays.c1q a0 a1 a2 y4 y6 y8 o15),2⟩,.cutR 9 ⟨[],[(0,0),(1,1)],(tourlaw2_ReachSays.c2p a0 a1 a2 o15 y4 y6 y8),2,.normal,(tourlaw2_ReachSays.c2q a0 a1 a2 o15 y4 y6 y8 o19),2⟩,.cut ⟨[],[(0,0),(1,1)],(tourlaw2_ReachSays.c3p a0 a1 a2 o15 o19 y4 y6 y8),2,.normal,(tourlaw2_ReachSays.c3q a0 a1 a2 y4 y6 y8 o22),2⟩,fF,fF,.res (.more (.dp T2) (.one (.dp T4))) y34,tT,tT,tT,fF,fF,fF,fF,fF,fF,fF,fF,tT,fF,fF,fF,fF,fF,fF,fF,fF,fF,fF,fF,fF,fF,fF,fF,tT,fF,fF],[],via (cutP (aI (aI (aI (aI (aI (aI trivial e2) (congrArg not e3)) e5) e7) e9) e11) [(0,0),(1,1)] (tourlaw2_ReachSays.c1p a0 a1 a2 y4 y6 y8 y10) (((tourlaw2_ReachSays.c1_ok k a0 a1 a2 y4 y6 y8 y10).ap e16)) (cutP trivial [(0,0),(1,1)] (tourlaw2_ReachSays.c2p a0 a1 a2 o15 y4 y6 y8) (((tourlaw2_ReachSays.c2_ok k a0 a1 a2 o15 y4 y6 y8).ap e20)) (cutP trivial [(0,0),(1,1)] (tourlaw2_ReachSays.c3p a0 a1 a2 o15 o19 y4 y6 y8) (((tourlaw2_ReachSays.c3_ok k a0 a1 a2 o15 o19 y4 y6 y8).ap e23)) (retP (aI (aI (aI (aI (aI (aI (aI (aI (aI (aI (aI (aI (aI (aI (aI (aI (aI (aI (aI (aI (aI (aI (aI (aI (aI (aI (aI (aI (aI (aI (aI trivial e24) e33) e35) e36) e36) e36) e37) e37) e37) ff) ff) ff) ff) ff) ff) ff) ff) ff) ff) ff) ff) ff) ff) ff) ff) ff) ff) ff) ff) ff) ff) (.one (.dp T4)) (false:Bool))))) (by kernel_rfl)⟩))) (fun e36 =>
   Owp.some (⟨[rS T4 y1,fF,.res (.more (.dp T2) (.one (.dp T2))) y4,.res (.more (.dp T2) (.more (.dp T4) (.one (.dp T2)))) y6,.res (.more (.dp T2) (.one (.dp T2))) y8,rS T2 y10,.cut ⟨[],[(0,0),(1,1)],(tourlaw2_ReachSays.c1p a0 a1 a2 y4 y6 y8 y10),2,.normal,(tourlaw2_ReachSays.c1q a0 a1 a2 y4 y6 y8 o15),2⟩,.cutR 9 ⟨[],[(0,0),(1,1)],(tourlaw2_ReachSays.c2p a0 a1 a2 o15 y4 y6 y8),2,.normal,(tourlaw2_ReachSays.c2q a0 a1 a2 o15 y4 y6 y8 o19),2⟩,.cut ⟨[],[(0,0),(1,1)],(tourlaw2_ReachSays.c3p a0 a1 a2 o15 o19 y4 y6 y8),2,.normal,(tourlaw2_ReachSays.c3q a0 a1 a2 y4 y6 y8 o22),2⟩,fF,fF,.res (.more (.dp T2) (.one (.dp T4))) y34,fF,fF,fF,fF,fF,fF,fF,fF,fF,fF,fF,tT,fF,fF,fF,fF,fF,fF,fF,fF,fF,fF,fF,fF,fF,fF,fF,tT,fF,fF],[],via (cutP (aI (aI (aI (aI (aI (aI trivial e2) (congrArg not e3)) e5) e7) e9) e11) [(0,0),(1,1)] (tourlaw2_ReachSays.c1p a0 a1 a2 y4 y6 y8 y10) (((tourlaw2_ReachSays.c1_ok k a0 a1 a2 y4 y6 y8 y10).ap e16)) (cutP trivial [(0,0),(1,1)] (tourlaw2_ReachSays.c2p a0 a1 a2 o15 y4 y6 y8) (((tourlaw2_ReachSays.c2_ok k a0 a1 a2 o15 y4 y6 y8).ap e20)) (cutP trivial [(0,0),(1,1)] (tourlaw2_ReachSays.c3p a0 a1 a2 o15 o19 y4 y6 y8) (((tourlaw2_ReachSays.c3_ok k a0 a1 a2 o15 o19 y4 y6 y8).ap e23)) (retP (aI (aI (aI (aI (aI (aI (aI (aI (aI (aI (aI (aI (aI (aI (aI (aI (aI (aI (aI (aI (aI (aI (aI (aI (aI (aI (aI (aI (aI (aI (aI trivial e24) e33) e35) e36) e36) e36) ff) ff) ff) ff) ff) ff) ff) ff) ff) ff) ff) ff) ff) ff) ff) ff) ff) ff) ff) ff) ff) ff) ff) ff) ff) (.one (.dp T4)) (false:Bool))))) (by kernel_rfl)⟩))))) (fun e3 =>
   Owp.some (⟨[rS T4 y1,tT],[],via (retP (aI (aI trivial e2) (congrArg not e3)) (.one (.dp T4)) (false:Bool)) (by kernel_rfl)⟩))
theorem tourlaw2_ReachSays.ok (k:Nat):FnOk PR 3 (tourlaw2_ReachSays.sp k) :=
  fn_ok (tourlaw2_ReachSays.cok k) hmix Tryz.func3 (code:=tourlaw2_ReachSays.code) (by kernel_rfl) (by kernel_rfl) (by kernel_rfl) rfl (by kernel_rfl) (by kernel_rfl) (by kernel_rfl) (fun x=>Nat.le_of_ble_eq_true (by kernel_rfl)) fun x y hy=>(tourlaw2_ReachSays.way k x.1 x.2.1 x.2.2.1).ap hy
end Go.Proofs.T1
