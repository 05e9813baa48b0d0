import Derived.Test.YtddbhngnhegndaaGreatG3
namespace Go.Proofs.T1
open Go Go.Sx Go.Proofs
set_option maxRecDepth 100000
set_option linter.unusedVariables false
noncomputable def body_Check.code:Code:=Func.cd Tryz.f13
def body_Check.c1 (k:Nat) (a0:V25):Option (Bool) :=
  bnd (body_within k a0.1 58982400) fun y4 =>
  bif' y4
  (bnd (body_within k a0.2.1 268435456) fun y7 =>
   bif' y7
   (bnd (body_Check_1 k a0.2.2.2.1 (-16777216) 16777216) fun y10 =>
   bif' y10
   (bnd (body_Check_1 k a0.2.2.1 0 65535) fun y13 =>
   some (!y13))
   (some true))
   (some true))
  (some true)
def body_Check.c2 (k:Nat) (a0:V25):Option (Bool) :=
  bnd (body_Check_1 k a0.2.2.2.2.1 0 1099511627776) fun y18 =>
  bif' y18
  (bnd (body_Check_1 k a0.2.2.2.2.2.1 0 1099511627776) fun y21 =>
   bif' y21
   (bnd (body_Check_1 k a0.2.2.2.2.2.2.1 0 65536) fun y24 =>
   bif' y24
   (bnd (body_Check_1 k a0.2.2.2.2.2.2.2.1 0 65536) fun y27 =>
   bif' y27
   (bnd (body_Check_1 k a0.2.2.2.2.2.2.2.2.2.2.1 0 1000) fun y30 =>
   some (!y30))
   (some true))
   (some true))
   (some true))
  (some true)
def body_Check.c3 (k:Nat) (a0:V25):Option (Bool) :=
  bif' (Ty.eqb T22 a0.2.1 ((0:Int),(0:Int),()))
  (some (ieq a0.2.2.2.1 0))
  (some false)
def body_Check.c4 (k:Nat) (a0:V25) (o36:Bool):Option (Bool) :=
  bif' (Ty.eqb T4 (ieq a0.2.2.2.2.1 (0:Int)) (ieq a0.2.2.2.2.2.1 (0:Int)))
  (bif' (ieq a0.2.2.2.2.1 0)
   (bif' o36
   (bif' a0.2.2.2.2.2.2.2.2.2.1
   (some true)
   (bif' (ine a0.2.2.2.2.2.2.2.2.2.2.1 0)
   (some true)
   (some false)))
   (some true))
   (bif' a0.2.2.2.2.2.2.2.2.2.1
   (some (!o36))
   (some false)))
  (some true)
def body_Check (k:Nat) (a0:V25):Option Int :=
  bnd (body_shape k a0.2.2.2.2.2.2.2.2.1) fun y1 =>
  bif' (ine y1 0)
  (some y1)
  (bnd (body_Check.c1 k a0) fun o15 =>
   bif' o15
   (some 1)
   (bnd (body_Check.c2 k a0) fun o32 =>
   bif' o32
   (some 1)
   (bnd (body_Check.c3 k a0) fun o36 =>
   bnd (body_Check.c4 k a0 o36) fun o44 =>
   bif' o44
   (some 3)
   (some 0))))
noncomputable def body_Check.sp (k:Nat):Go.Sx.Spec:=⟨(.pair T25 .unit),(.one (.dp T2)),fun x=>body_Check k x.1,false⟩
noncomputable def body_Check.cx (k:Nat):Go.Sx.Ctx:=⟨tys,[(35,body_shape.sp k),(37,body_within.sp k),(36,body_Check_1.sp k)],eqs,111,false⟩
theorem body_Check.cok (k:Nat):CtxOk PR (body_Check.cx k):=ctx_ok tysOk eqsOk (FnsOk.cons (body_shape.ok k) (FnsOk.cons (body_within.ok k) (FnsOk.cons (body_Check_1.ok k) FnsOk.nil)))
noncomputable def body_Check.c1p (a0:V25):SL:=⟨[(1,(.val .ptr ⟨0,0,(0:Int),0,0⟩)),(4,(.val .clo (36,[])))],[(0,.cells T25 a0)]⟩
noncomputable def body_Check.c1q (a0:V25) (o:Bool):SL:=(fun v=>⟨[(1,(.val .ptr ⟨0,0,(0:Int),0,0⟩)),(4,(.val .clo (36,[]))),(35,(.val T4 v))],[(0,.cells T25 a0)]⟩) o
noncomputable def body_Check.c1x (o:Bool):Ex:=(fun _=>.normal) o
noncomputable def body_Check.c1n (o:Bool):Nat:=(fun _=>1) o
theorem body_Check.c1_ok (k:Nat) (a0:V25):Owp (body_Check.c1 k a0) fun o=>Triple PR (body_Check.cx k) (sub body_Check.code [1,1,1,0,0]) 1 (body_Check.c1p a0) (body_Check.c1x o) (body_Check.c1n o) (body_Check.c1q a0 o):=by
  unfold body_Check.c1; exact
   Owp.bnd fun y4 e5 =>
   Owp.bif (fun e6 =>
   Owp.bnd fun y7 e8 =>
   Owp.bif (fun e9 =>
   Owp.bnd fun y10 e11 =>
   Owp.bif (fun e12 =>
   Owp.bnd fun y13 e14 =>
   Owp.some (triple_way (body_Check.cok k) hmix [rS T4 y4,fF,fF,fF,rS T4 y7,fF,fF,fF,fF,fF,fF,rS T4 y10,fF,fF,fF,fF,fF,fF,rS T4 y13,fF,fF] [] [(0,0)] (via (finP (aI (aI (aI (aI (aI (aI (aI (aI (aI (aI (aI (aI (aI (aI (aI (aI (aI (aI trivial e5) (congrArg not e6)) (congrArg not e6)) (aI (congrArg not e6) e8)) (congrArg not e6)) (congrArg not e6)) (congrArg not e9)) (congrArg not e9)) (congrArg not e9)) (aI (congrArg not e9) e11)) (congrArg not e9)) (congrArg not e9)) (congrArg not e12)) (congrArg not e12)) (congrArg not e12)) (aI (congrArg not e12) e14)) (congrArg not e12)) (congrArg not e12)) .normal [(0,0)] (body_Check.c1q a0 (!y13))) (by kernel_rfl)))) (fun e12 =>
   Owp.some (triple_way (body_Check.cok k) hmix [rS T4 y4,fF,fF,fF,rS T4 y7,fF,fF,fF,fF,fF,fF,rS T4 y10,fF,fF,tT,tT,tT,tT,tT,tT,tT] [] [(0,0)] (via (finP (aI (aI (aI (aI (aI (aI (aI (aI (aI (aI (aI (aI (aI (aI (aI (aI (aI (aI trivial e5) (congrArg not e6)) (congrArg not e6)) (aI (congrArg not e6) e8)) (congrArg not e6)) (congrArg not e6)) (congrArg not e9)) (congrArg not e9)) (congrArg not e9)) (aI (congrArg not e9) e11)) (congrArg not e9)) (congrArg not e9)) (congrArg not e12)) (congrArg not e12)) (congrArg not e12)) (congrArg not e12)) (congrArg not e12)) (congrArg not e12)) .normal [(0,0)] (body_Check.c1q a0 true)) (by kernel_rfl))))) (fun e9 =>
   Owp.some (triple_way (body_Check.cok k) hmix [rS T4 y4,fF,fF,fF,rS T4 y7,fF,fF,tT,tT,tT,tT,tT,tT,tT,tT,tT,tT,tT,tT,tT,tT] [] [(0,0)] (via (finP (aI (aI (aI (aI (aI (aI (aI (aI (aI (aI (aI (aI (aI (aI (aI (aI (aI (aI trivial e5) (congrArg not e6)) (congrArg not e6)) (aI (congrArg not e6) e8)) (congrArg not e6)) (congrArg not e6)) (congrArg not e9)) (congrArg not e9)) (congrArg not e9)) (congrArg not e9)) (congrArg not e9)) (congrArg not e9)) tt) tt) tt) tt) tt) tt) .normal [(0,0)] (body_Check.c1q a0 true)) (by kernel_rfl))))) (fun e6 =>
   Owp.some (triple_way (body_Check.cok k) hmix [rS T4 y4,tT,tT,tT,tT,tT,tT,tT,tT,tT,tT,tT,tT,tT,tT,tT,tT,tT,tT,tT,tT] [] [(0,0)] (via (finP (aI (aI (aI (aI (aI (aI (aI (aI (aI (aI (aI (aI (aI (aI (aI (aI (aI (aI trivial e5) (congrArg not e6)) (congrArg not e6)) (congrArg not e6)) (congrArg not e6)) (congrArg not e6)) tt) tt) tt) tt) tt) tt) tt) tt) tt) tt) tt) tt) .normal [(0,0)] (body_Check.c1q a0 true)) (by kernel_rfl))))
noncomputable def body_Check.c2p (a0:V25):SL:=⟨[(1,(.val .ptr ⟨0,0,(0:Int),0,0⟩)),(4,(.val .clo (36,[])))],[(0,.cells T25 a0)]⟩
noncomputable def body_Check.c2q (a0:V25) (o:Bool):SL:=(fun v=>⟨[(1,(.val .ptr ⟨0,0,(0:Int),0,0⟩)),(68,(.val T4 v))],[(0,.cells T25 a0)]⟩) o
noncomputable def body_Check.c2x (o:Bool):Ex:=(fun _=>.normal) o
noncomputable def body_Check.c2n (o:Bool):Nat:=(fun _=>1) o
theorem body_Check.c2_ok (k:Nat) (a0:V25):Owp (body_Check.c2 k a0) fun o=>Triple PR (body_Check.cx k) (sub body_Check.code [1,1,1,1,0,0]) 1 (body_Check.c2p a0) (body_Check.c2x o) (body_Check.c2n o) (body_Check.c2q a0 o):=by
  unfold body_Check.c2; exact
   Owp.bnd fun y18 e19 =>
   Owp.bif (fun e20 =>
   Owp.bnd fun y21 e22 =>
   Owp.bif (fun e23 =>
   Owp.bnd fun y24 e25 =>
   Owp.bif (fun e26 =>
   Owp.bnd fun y27 e28 =>
   Owp.bif (fun e29 =>
   Owp.bnd fun y30 e31 =>
   Owp.some (triple_way (body_Check.cok k) hmix [rS T4 y18,fF,fF,fF,fF,rS T4 y21,fF,fF,fF,fF,fF,fF,rS T4 y24,fF,fF,fF,fF,fF,fF,rS T4 y27,fF,fF,fF,fF,fF,fF,rS T4 y30,fF,fF] [] [(0,0)] (via (finP (aI (aI (aI (aI (aI (aI (aI (aI (aI (aI (aI (aI (aI (aI (aI (aI (aI (aI (aI (aI (aI (aI (aI (aI (aI trivial e19) (congrArg not e20)) (congrArg not e20)) (congrArg not e20)) (aI (congrArg not e20) e22)) (congrArg not e20)) (congrArg not e20)) (congrArg not e23)) (congrArg not e23)) (congrArg not e23)) (aI (congrArg not e23) e25)) (congrArg not e23)) (congrArg not e23)) (congrArg not e26)) (congrArg not e26)) (congrArg not e26)) (aI (congrArg not e26) e28)) (congrArg not e26)) (congrArg not e26)) (congrArg not e29)) (congrArg not e29)) (congrArg not e29)) (aI (congrArg not e29) e31)) (congrArg not e29)) (congrArg not e29)) .normal [(0,0)] (body_Check.c2q a0 (!y30))) (by kernel_rfl)))) (fun e29 =>
   Owp.some (triple_way (body_Check.cok k) hmix [rS T4 y18,fF,fF,fF,fF,rS T4 y21,fF,fF,fF,fF,fF,fF,rS T4 y24,fF,fF,fF,fF,fF,fF,rS T4 y27,fF,fF,tT,tT,tT,tT,tT,tT,tT] [] [(0,0)] (via (finP (aI (aI (aI (aI (aI (aI (aI (aI (aI (aI (aI (aI (aI (aI (aI (aI (aI (aI (aI (aI (aI (aI (aI (aI (aI trivial e19) (congrArg not e20)) (congrArg not e20)) (congrArg not e20)) (aI (congrArg not e20) e22)) (congrArg not e20)) (congrArg not e20)) (congrArg not e23)) (congrArg not e23)) (congrArg not e23)) (aI (congrArg not e23) e25)) (congrArg not e23)) (congrArg not e23)) (congrArg not e26)) (congrArg not e26)) (congrArg not e26)) (aI (congrArg not e26) e28)) (congrArg not e26)) (congrArg not e26)) (congrArg not e29)) (congrArg not e29)) (congrArg not e29)) (congrArg not e29)) (congrArg not e29)) (congrArg not e29)) .normal [(0,0)] (body_Check.c2q a0 true)) (by kernel_rfl))))) (fun e26 =>
   Owp.some (triple_way (body_Check.cok k) hmix [rS T4 y18,fF,fF,fF,fF,rS T4 y21,fF,fF,fF,fF,fF,fF,rS T4 y24,fF,fF,tT,tT,tT,tT,tT,tT,tT,tT,tT,tT,tT,tT,tT,tT] [] [(0,0)] (via (finP (aI (aI (aI (aI (aI (aI (aI (aI (aI (aI (aI (aI (aI (aI (aI (aI (aI (aI (aI (aI (aI (aI (aI (aI (aI trivial e19) (congrArg not e20)) (congrArg not e20)) (congrArg not e20)) (aI (congrArg not e20) e22)) (congrArg not e20)) (congrArg not e20)) (congrArg not e23)) (congrArg not e23)) (congrArg not e23)) (aI (congrArg not e23) e25)) (congrArg not e23)) (congrArg not e23)) (congrArg not e26)) (congrArg not e26)) (congrArg not e26)) (congrArg not e26)) (congrArg not e26)) (congrArg not e26)) tt) tt) tt) tt) tt) tt) .normal [(0,0)] (body_Check.c2q a0 true)) (by kernel_rfl))))) (fun e23 =>
   Owp.some (triple_way (body_Check.cok k) hmix [rS T4 y18,fF,fF,fF,fF,rS T4 y21,fF,fF,tT,tT,tT,tT,tT,tT,tT,tT,tT,tT,tT,tT,tT,tT,tT,tT,tT,tT,tT,tT,tT] [] [(0,0)] (via (finP (aI (aI (aI (aI (aI (aI (aI (aI (aI (aI (aI (aI (aI (aI (aI (aI (aI (aI (aI (aI (aI (aI (aI (aI (aI trivial e19) (congrArg not e20)) (congrArg not e20)) (congrArg not e20)) (aI (congrArg not e20) e22)) (congrArg not e20)) (congrArg not e20)) (congrArg not e23)) (congrArg not e23)) (congrArg not e23)) (congrArg not e23)) (congrArg not e23)) (congrArg not e23)) tt) tt) tt) tt) tt) tt) tt) tt) tt) tt) tt) tt) .normal [(0,0)] (body_Check.c2q a0 true)) (by kernel_rfl))))) (fun e20 =>
   Owp.some (triple_way (body_Check.cok k) hmix [rS T4 y18,tT,tT,tT,tT,tT,tT,tT,tT,tT,tT,tT,tT,tT,tT,tT,tT,tT,tT,tT,tT,tT,tT,tT,tT,tT,tT,tT,tT] [] [(0,0)] (via (finP (aI (aI (aI (aI (aI (aI (aI (aI (aI (aI (aI (aI (aI (aI (aI (aI (aI (aI (aI (aI (aI (aI (aI (aI (aI trivial e19) (congrArg not e20)) (congrArg not e20)) (congrArg not e20)) (congrArg not e20)) (congrArg not e20)) (congrArg not e20)) tt) tt) tt) tt) tt) tt) tt) tt) tt) tt) tt) tt) tt) tt) tt) tt) tt) tt) .normal [(0,0)] (body_Check.c2q a0 true)) (by kernel_rfl))))
noncomputable def body_Check.c3p (a0:V25):SL:=⟨[(1,(.val .ptr ⟨0,0,(0:Int),0,0⟩))],[(0,.cells T25 a0)]⟩
noncomputable def body_Check.c3q (a0:V25) (o:Bool):SL:=(fun v=>⟨[(1,(.val .ptr ⟨0,0,(0:Int),0,0⟩)),(5,(.val T4 v))],[(0,.cells T25 a0)]⟩) o
noncomputable def body_Check.c3x (o:Bool):Ex:=(fun _=>.normal) o
noncomputable def body_Check.c3n (o:Bool):Nat:=(fun _=>1) o
theorem body_Check.c3_ok (k:Nat) (a0:V25):Owp (body_Check.c3 k a0) fun o=>Triple PR (body_Check.cx k) (sub body_Check.code [1,1,1,1,1,0]) 1 (body_Check.c3p a0) (body_Check.c3x o) (body_Check.c3n o) (body_Check.c3q a0 o):=by
  unfold body_Check.c3; exact
   Owp.bif (fun e35 =>
   Owp.some (triple_way (body_Check.cok k) hmix [tT,tT,tT,tT] [] [(0,0)] (via (finP (aI (aI (aI (aI trivial e35) e35) e35) e35) .normal [(0,0)] (body_Check.c3q a0 (ieq a0.2.2.2.1 (0:Int)))) (by kernel_rfl)))) (fun e35 =>
   Owp.some (triple_way (body_Check.cok k) hmix [fF,fF,fF,fF] [] [(0,0)] (via (finP (aI (aI (aI (aI trivial e35) e35) e35) e35) .normal [(0,0)] (body_Check.c3q a0 false)) (by kernel_rfl))))
noncomputable def body_Check.c4p (a0:V25) (o36:Bool):SL:=⟨[(1,(.val .ptr ⟨0,0,(0:Int),0,0⟩)),(5,(.val T4 o36))],[(0,.cells T25 a0)]⟩
noncomputable def body_Check.c4q (o:Bool):SL:=(fun v=>⟨[(110,(.val T4 v))],[]⟩) o
noncomputable def body_Check.c4x (o:Bool):Ex:=(fun _=>.normal) o
noncomputable def body_Check.c4n (o:Bool):Nat:=(fun _=>0) o
theorem body_Check.c4_ok (k:Nat) (a0:V25) (o36:Bool):Owp (body_Check.c4 k a0 o36) fun o=>Triple PR (body_Check.cx k) (sub body_Check.code [1,1,1,1,1,1,0,0]) 1 (body_Check.c4p a0 o36) (body_Check.c4x o) (body_Check.c4n o) (body_Check.c4q o):=by
  unfold body_Check.c4; exact
   Owp.bif (fun e38 =>
   Owp.bif (fun e39 =>
   Owp.bif (fun e40 =>
   Owp.bif (fun e41 =>
   Owp.some (triple_way (body_Check.cok k) hmix [fF,fF,fF,fF,tT,tT,tT,fF,fF,tT,fF,tT,tT,tT,tT,tT,tT,fF,tT,fF,tT,tT,tT,tT,tT,tT,tT,tT] [] [] (via (finP (aI (aI (aI (aI (aI (aI (aI (aI (aI (aI (aI (aI (aI (aI (aI (aI (aI (aI (aI (aI (aI (aI trivial (congrArg not e38)) (congrArg not e38)) (congrArg not e38)) (congrArg not e38)) e39) e39) e39) (congrArg not e40)) (congrArg not e40)) (aI e39 (congrArg not e40))) e39) e41) e41) e41) (aI e39 e41)) (aI (congrArg not e38) e39)) (congrArg not e38)) tt) tt) tt) tt) tt) .normal [] (body_Check.c4q true)) (by kernel_rfl)))) (fun e41 =>
   Owp.bif (fun e42 =>
   Owp.some (triple_way (body_Check.cok k) hmix [fF,fF,fF,fF,tT,tT,tT,fF,fF,tT,fF,tT,fF,fF,fF,tT,fF,fF,tT,fF,tT,tT,tT,tT,tT,tT,tT,tT] [] [] (via (finP (aI (aI (aI (aI (aI (aI (aI (aI (aI (aI (aI (aI (aI (aI (aI (aI (aI (aI (aI (aI (aI (aI trivial (congrArg not e38)) (congrArg not e38)) (congrArg not e38)) (congrArg not e38)) e39) e39) e39) (congrArg not e40)) (congrArg not e40)) (aI e39 (congrArg not e40))) e39) e41) e41) e41) (aI e39 e41)) (aI (congrArg not e38) e39)) (congrArg not e38)) e42) e42) e42) e42) e42) .normal [] (body_Check.c4q true)) (by kernel_rfl)))) (fun e42 =>
   Owp.some (triple_way (body_Check.cok k) hmix [fF,fF,fF,fF,tT,tT,tT,fF,fF,tT,fF,tT,fF,fF,fF,tT,fF,fF,tT,fF,fF,fF,fF,fF,fF,fF,fF,fF] [] [] (via (finP (aI (aI (aI (aI (aI (aI (aI (aI (aI (aI (aI (aI (aI (aI (aI (aI (aI (aI (aI (aI (aI (aI (aI (aI trivial (congrArg not e38)) (congrArg not e38)) (congrArg not e38)) (congrArg not e38)) e39) e39) e39) (congrArg not e40)) (congrArg not e40)) (aI e39 (congrArg not e40))) e39) e41) e41) e41) (aI e39 e41)) (aI (congrArg not e38) e39)) (congrArg not e38)) e42) e42) e42) e41) e41) (aI e42 e41)) e42) .normal [] (body_Check.c4q false)) (by kernel_rfl)))))) (fun e40 =>
   Owp.some (triple_way (body_Check.cok k) hmix [fF,fF,fF,fF,tT,tT,tT,tT,tT,tT,tT,tT,tT,tT,tT,tT,tT,fF,tT,fF,tT,tT,tT,tT,tT,tT,tT,tT] [] [] (via (finP (aI (aI (aI (aI (aI (aI (aI (aI (aI (aI (aI (aI (aI (aI (aI (aI (aI (aI (aI (aI (aI (aI trivial (congrArg not e38)) (congrArg not e38)) (congrArg not e38)) (congrArg not e38)) e39) e39) e39) (congrArg not e40)) (congrArg not e40)) (aI e39 (congrArg not e40))) e39) tt) tt) tt) (aI e39 tt)) (aI (congrArg not e38) e39)) (congrArg not e38)) tt) tt) tt) tt) tt) .normal [] (body_Check.c4q true)) (by kernel_rfl))))) (fun e39 =>
   Owp.bif (fun e43 =>
   Owp.some (triple_way (body_Check.cok k) hmix [fF,fF,fF,fF,fF,fF,fF,tT,tT,fF,tT,fF,tT,tT,tT,fF,tT,fF,fF,fF,fF,fF,fF,tT,tT,fF,tT,fF] [] [] (via (finP (aI (aI (aI (aI (aI (aI (aI (aI (aI (aI (aI (aI (aI (aI (aI (aI (aI (aI (aI trivial (congrArg not e38)) (congrArg not e38)) (congrArg not e38)) (congrArg not e38)) e39) e39) e39) e39) e39) e39) (aI (congrArg not e38) e39)) (congrArg not e38)) ff) ff) ff) e43) e43) (aI ff e43)) ff) .normal [] (body_Check.c4q (!o36))) (by kernel_rfl)))) (fun e43 =>
   Owp.some (triple_way (body_Check.cok k) hmix [fF,fF,fF,fF,fF,fF,fF,tT,tT,fF,tT,fF,tT,tT,tT,fF,tT,fF,fF,fF,fF,fF,fF,fF,fF,fF,fF,fF] [] [] (via (finP (aI (aI (aI (aI (aI (aI (aI (aI (aI (aI (aI (aI (aI (aI (aI (aI (aI (aI (aI trivial (congrArg not e38)) (congrArg not e38)) (congrArg not e38)) (congrArg not e38)) e39) e39) e39) e39) e39) e39) (aI (congrArg not e38) e39)) (congrArg not e38)) ff) ff) ff) e43) e43) (aI ff e43)) ff) .normal [] (body_Check.c4q false)) (by kernel_rfl)))))) (fun e38 =>
   Owp.some (triple_way (body_Check.cok k) hmix [tT,tT,tT,tT,tT,tT,tT,tT,tT,tT,tT,tT,tT,tT,tT,tT,tT,tT,tT,tT,tT,tT,tT,tT,tT,tT,tT,tT] [] [] (via (finP (aI (aI (aI (aI (aI (aI (aI (aI (aI (aI (aI trivial (congrArg not e38)) (congrArg not e38)) (congrArg not e38)) (congrArg not e38)) (congrArg not e38)) (congrArg not e38)) tt) tt) tt) tt) tt) .normal [] (body_Check.c4q true)) (by kernel_rfl))))
theorem body_Check.way (k:Nat) (a0:V25):Owp (body_Check k a0) fun y=>∃ w c0,exec PR (body_Check.cx k) body_Check.code 0 (entry (.pair T25 .unit) (a0,())).st w (Ret (body_Check.cx k) Tryz.f13 c0 (.one (.dp T2)) y):=by
  unfold body_Check; exact
   Owp.bnd fun y1 e2 =>
   Owp.bif (fun e3 =>
   Owp.some (⟨[rS T2 y1,tT],[],via (retP (aI (aI trivial e2) e3) (.one (.dp T2)) (y1:Int)) (by kernel_rfl)⟩)) (fun e3 =>
   Owp.bnd fun o15 e16 =>
   Owp.bif (fun e17 =>
   Owp.some (⟨[rS T2 y1,fF,.cutR 5 ⟨[],[(0,0)],(body_Check.c1p a0),1,.normal,(body_Check.c1q a0 o15),1⟩,tT],[],via (cutP (aI (aI trivial e2) e3) [(0,0)] (body_Check.c1p a0) (((body_Check.c1_ok k a0).ap e16)) (retP (aI trivial e17) (.one (.dp T2)) ((1:Int):Int))) (by kernel_rfl)⟩)) (fun e17 =>
   Owp.bnd fun o32 e33 =>
   Owp.bif (fun e34 =>
   Owp.some (⟨[rS T2 y1,fF,.cutR 5 ⟨[],[(0,0)],(body_Check.c1p a0),1,.normal,(body_Check.c1q a0 o15),1⟩,fF,.cutR 7 ⟨[],[(0,0)],(body_Check.c2p a0),1,.normal,(body_Check.c2q a0 o32),1⟩,tT],[],via (cutP (aI (aI trivial e2) e3) [(0,0)] (body_Check.c1p a0) (((body_Check.c1_ok k a0).ap e16)) (cutP (aI trivial e17) [(0,0)] (body_Check.c2p a0) (((body_Check.c2_ok k a0).ap e33)) (retP (aI trivial e34) (.one (.dp T2)) ((1:Int):Int)))) (by kernel_rfl)⟩)) (fun e34 =>
   Owp.bnd fun o36 e37 =>
   Owp.bnd fun o44 e45 =>
   Owp.bif (fun e46 =>
   Owp.some (⟨[rS T2 y1,fF,.cutR 5 ⟨[],[(0,0)],(body_Check.c1p a0),1,.normal,(body_Check.c1q a0 o15),1⟩,fF,.cutR 7 ⟨[],[(0,0)],(body_Check.c2p a0),1,.normal,(body_Check.c2q a0 o32),1⟩,fF,.cutR 9 ⟨[],[(0,0)],(body_Check.c3p a0),1,.normal,(body_Check.c3q a0 o36),1⟩,.cutR 10 ⟨[],[(0,0)],(body_Check.c4p a0 o36),1,.normal,(body_Check.c4q o44),0⟩,tT],[],via (cutP (aI (aI trivial e2) e3) [(0,0)] (body_Check.c1p a0) (((body_Check.c1_ok k a0).ap e16)) (cutP (aI trivial e17) [(0,0)] (body_Check.c2p a0) (((body_Check.c2_ok k a0).ap e33)) (cutP (aI trivial e34) [(0,0)] (body_Check.c3p a0) (((body_Check.c3_ok k a0).ap e37)) (cutP trivial [(0,0)] (body_Check.c4p a0 o36) (((body_Check.c4_ok k a0 o36).ap e45)) (retP (aI trivial e46) (.one (.dp T2)) ((3:Int):Int)))))) (by kernel_rfl)⟩)) (fun e46 =>
   Owp.some (⟨[rS T2 y1,fF,.cutR 5 ⟨[],[(0,0)],(body_Check.c1p a0),1,.normal,(body_Check.c1q a0 o15),1⟩,fF,.cutR 7 ⟨[],[(0,0)],(body_Check.c2p a0),1,.normal,(body_Check.c2q a0 o32),1⟩,fF,.cutR 9 ⟨[],[(0,0)],(body_Check.c3p a0),1,.normal,(body_Check.c3q a0 o36),1⟩,.cutR 10 ⟨[],[(0,0)],(body_Check.c4p a0 o36),1,.normal,(body_Check.c4q o44),0⟩,fF],[],via (cutP (aI (aI trivial e2) e3) [(0,0)] (body_Check.c1p a0) (((body_Check.c1_ok k a0).ap e16)) (cutP (aI trivial e17) [(0,0)] (body_Check.c2p a0) (((body_Check.c2_ok k a0).ap e33)) (cutP (aI trivial e34) [(0,0)] (body_Check.c3p a0) (((body_Check.c3_ok k a0).ap e37)) (cutP trivial [(0,0)] (body_Check.c4p a0 o36) (((body_Check.c4_ok k a0 o36).ap e45)) (retP (aI trivial e46) (.one (.dp T2)) ((0:Int):Int)))))) (by kernel_rfl)⟩)))))
theorem body_Check.ok (k:Nat):FnOk PR 13 (body_Check.sp k) :=
  fn_ok (body_Check.cok k) hmix Tryz.func13 (code:=body_Check.code) (by kernel_rfl) (by kernel_rfl) (by kernel_rfl) rfl (by kernel_rfl) (by kernel_rfl) (by kernel_rfl) (fun x=>Nat.le_of_ble_eq_true (by kernel_rfl)) fun x y hy=>(body_Check.way k x.1).ap hy
noncomputable def reach_far.code:Code:=Func.cd Tryz.f17
def reach_far.c1 (k:Nat) (a0:V25):Option (Bool) :=
  bif' (ieq a0.2.2.2.2.1 0)
  (some true)
  (some a0.2.2.2.2.2.2.2.2.2.1)
def reach_far.c2 (k:Nat) (a0:V25):Nat → Int → Int → Option (Int)
  | 0,_,_=>none
  | n+1,v5,v6 =>
   bif' (ilt v6 (len a0.2.2.2.2.2.2.2.2.1))
   (req (inL v6 a0.2.2.2.2.2.2.2.2.1) <|
   bnd (vec_Len k (el Z22 a0.2.2.2.2.2.2.2.2.1 v6)) fun y9 =>
   reach_far.c2 k a0 n (imax v5 (iadd .i64 y9 2)) (iadd .i64 v6 1))
   (some v5)
def reach_far (k:Nat) (a0:V25):Option Int :=
  bnd (reach_far.c1 k a0) fun o2 =>
  bif' o2
  (some 0)
  (bnd (reach_far.c2 k a0 k 0 0) fun o11 =>
   some o11)
noncomputable def reach_far.sp (k:Nat):Go.Sx.Spec:=⟨(.pair T25 .unit),(.one (.dp T2)),fun x=>reach_far k x.1,false⟩
noncomputable def reach_far.cx (k:Nat):Go.Sx.Ctx:=⟨tys,[(15,vec_Len.sp k)],eqs,27,false⟩
theorem reach_far.cok (k:Nat):CtxOk PR (reach_far.cx k):=ctx_ok tysOk eqsOk (FnsOk.cons (vec_Len.ok k) FnsOk.nil)
noncomputable def reach_far.c1p (a0:V25):SL:=⟨[(1,(.val .ptr ⟨0,0,(0:Int),0,0⟩))],[(0,.cells T25 a0)]⟩
noncomputable def reach_far.c1q (a0:V25) (o:Bool):SL:=(fun v=>⟨[(1,(.val .ptr ⟨0,0,(0:Int),0,0⟩)),(12,(.val T4 v))],[(0,.cells T25 a0)]⟩) o
noncomputable def reach_far.c1x (o:Bool):Ex:=(fun _=>.normal) o
noncomputable def reach_far.c1n (o:Bool):Nat:=(fun _=>1) o
theorem reach_far.c1_ok (k:Nat) (a0:V25):Owp (reach_far.c1 k a0) fun o=>Triple PR (reach_far.cx k) (sub reach_far.code [1,0,0]) 1 (reach_far.c1p a0) (reach_far.c1x o) (reach_far.c1n o) (reach_far.c1q a0 o):=by
  unfold reach_far.c1; exact
   Owp.bif (fun e1 =>
   Owp.some (triple_way (reach_far.cok k) hmix [tT,tT,tT] [] [(0,0)] (via (finP (aI (aI (aI trivial e1) e1) e1) .normal [(0,0)] (reach_far.c1q a0 true)) (by kernel_rfl)))) (fun e1 =>
   Owp.some (triple_way (reach_far.cok k) hmix [fF,fF,fF] [] [(0,0)] (via (finP (aI (aI (aI trivial e1) e1) e1) .normal [(0,0)] (reach_far.c1q a0 a0.2.2.2.2.2.2.2.2.2.1)) (by kernel_rfl))))
noncomputable def reach_far.c2p (a0:V25) (v5 v6:Int):SL:=⟨[(3,(.val T2 v5)),(14,(.val T24 a0.2.2.2.2.2.2.2.2.1)),(15,(.val T2 (len a0.2.2.2.2.2.2.2.2.1))),(16,(.val T2 v6))],[]⟩
noncomputable def reach_far.c2q (o:Int):SL:=(fun v=>⟨[(3,(.val T2 v))],[]⟩) o
noncomputable def reach_far.c2x (o:Int):Ex:=(fun _=>(.exit 0)) o
noncomputable def reach_far.c2n (o:Int):Nat:=(fun _=>0) o
theorem reach_far.c2_ok (k:Nat) (a0:V25):∀ (n:Nat) (v5 v6:Int),Owp (reach_far.c2 k a0 n v5 v6) fun o=>LTriple PR (reach_far.cx k) (sub reach_far.code [1,1,1,0,1,0,0]) 0 (reach_far.c2p a0 v5 v6) (reach_far.c2x o) (reach_far.c2n o) (reach_far.c2q o)
  | 0,_,_=>fun _ h=>nomatch h
  | n+1,v5,v6=>Owp.of (reach_far.c2.eq_2 ..) (
   Owp.bif (fun e7 =>
   Owp.req fun h8 =>
   Owp.bnd fun y9 e10 =>
   fun y hy=>loop_back (reach_far.cok k) hmix 0 (reach_far.c2p a0 (imax v5 (iadd .i64 y9 (2:Int))) (iadd .i64 v6 (1:Int))) [tT,rS T2 y9] [] [] (via (finP (aI (aI (aI trivial e7) h8) e10) .normal [] (reach_far.c2p a0 (imax v5 (iadd .i64 y9 (2:Int))) (iadd .i64 v6 (1:Int)))) (by kernel_rfl)) ((reach_far.c2_ok k a0 n (imax v5 (iadd .i64 y9 (2:Int))) (iadd .i64 v6 (1:Int))).ap hy)) (fun e7 =>
   Owp.some (loop_exit (reach_far.cok k) hmix [fF] [] [] (exne 0) (via (finP (aI trivial e7) (.exit 0) [] (reach_far.c2q v5)) (by kernel_rfl)))))
theorem reach_far.way (k:Nat) (a0:V25):Owp (reach_far k a0) fun y=>∃ w c0,exec PR (reach_far.cx k) reach_far.code 0 (entry (.pair T25 .unit) (a0,())).st w (Ret (reach_far.cx k) Tryz.f17 c0 (.one (.dp T2)) y):=by
  unfold reach_far; exact
   Owp.bnd fun o2 e3 =>
   Owp.bif (fun e4 =>
   Owp.some (⟨[.cutR 1 ⟨[],[(0,0)],(reach_far.c1p a0),1,.normal,(reach_far.c1q a0 o2),1⟩,tT],[],via (cutP trivial [(0,0)] (reach_far.c1p a0) (((reach_far.c1_ok k a0).ap e3)) (retP (aI trivial e4) (.one (.dp T2)) ((0:Int):Int))) (by kernel_rfl)⟩)) (fun e4 =>
   Owp.bnd fun o11 e12 =>
   Owp.some (⟨[.cutR 1 ⟨[],[(0,0)],(reach_far.c1p a0),1,.normal,(reach_far.c1q a0 o2),1⟩,fF,.cut ⟨[],[],(reach_far.c2p a0 (0:Int) (0:Int)),0,(.exit 0),(reach_far.c2q o11),0⟩],[],via (cutP trivial [(0,0)] (reach_far.c1p a0) (((reach_far.c1_ok k a0).ap e3)) (cutP (aI trivial e4) [] (reach_far.c2p a0 (0:Int) (0:Int)) (((reach_far.c2_ok k a0 k (0:Int) (0:Int)).ap e12).triple) (retP trivial (.one (.dp T2)) (o11:Int)))) (by kernel_rfl)⟩))
theorem reach_far.ok (k:Nat):FnOk PR 17 (reach_far.sp k) :=
  fn_ok (reach_far.cok k) hmix Tryz.func17 (code:=reach_far.code) (by kernel_rfl) (by kernel_rfl) (by kernel_rfl) rfl (by kernel_rfl) (by kernel_rfl) (by kernel_rfl) (fun x=>Nat.le_of_ble_eq_true (by kernel_rfl)) fun x y hy=>(reach_far.way k x.1).ap hy
noncomputable def reach_turning.code:Code:=Func.cd Tryz.f16
def reach_turning.c1 (k:Nat) (a0:V25):Option (Bool) :=
  bif' (ieq a0.2.2.2.2.1 0)
  (some true)
  (some a0.2.2.2.2.2.2.2.2.2.1)
def reach_turning (k:Nat) (a0:V25) (a1:Int):Option Int :=
  bnd (reach_turning.c1 k a0) fun o2 =>
  bif' o2
  (some 0)
  (bnd (fix_Mul k (imax a0.2.2.2.1 (ineg .i64 a0.2.2.2.1)) 411775) fun y5 =>
   bnd (reach_far k a0) fun y7 =>
   bnd (fix_Mul k y5 y7) fun y9 =>
   bnd (fix_Mul k y9 a1) fun y11 =>
   some (iadd .i64 y11 4))
noncomputable def reach_turning.sp (k:Nat):Go.Sx.Spec:=⟨(.pair T25 (.pair T2 .unit)),(.one (.dp T2)),fun x=>reach_turning k x.1 x.2.1,false⟩
noncomputable def reach_turning.cx (k:Nat):Go.Sx.Ctx:=⟨tys,[(14,fix_Mul.sp k),(17,reach_far.sp k)],eqs,25,false⟩
theorem reach_turning.cok (k:Nat):CtxOk PR (reach_turning.cx k):=ctx_ok tysOk eqsOk (FnsOk.cons (fix_Mul.ok k) (FnsOk.cons (reach_far.ok k) FnsOk.nil))
noncomputable def reach_turning.c1p (a0:V25) (a1:Int):SL:=⟨[(1,(.val T2 a1)),(2,(.val .ptr ⟨0,0,(0:Int),0,0⟩))],[(0,.cells T25 a0)]⟩
noncomputable def reach_turning.c1q (a0:V25) (a1:Int) (o:Bool):SL:=(fun v=>⟨[(1,(.val T2 a1)),(2,(.val .ptr ⟨0,0,(0:Int),0,0⟩)),(11,(.val T4 v))],[(0,.cells T25 a0)]⟩) o
noncomputable def reach_turning.c1x (o:Bool):Ex:=(fun _=>.normal) o
noncomputable def reach_turning.c1n (o:Bool):Nat:=(fun _=>1) o
theorem reach_turning.c1_ok (k:Nat) (a0:V25) (a1:Int):Owp (reach_turning.c1 k a0) fun o=>Triple PR (reach_turning.cx k) (sub reach_turning.code [1,0,0]) 1 (reach_turning.c1p a0 a1) (reach_turning.c1x o) (reach_turning.c1n o) (reach_turning.c1q a0 a1 o):=by
  unfold reach_turning.c1; exact
   Owp.bif (fun e1 =>
   Owp.some (triple_way (reach_turning.cok k) hmix [tT,tT,tT] [] [(0,0)] (via (finP (aI (aI (aI trivial e1) e1) e1) .normal [(0,0)] (reach_turning.c1q a0 a1 true)) (by kernel_rfl)))) (fun e1 =>
   Owp.some (triple_way (reach_turning.cok k) hmix [fF,fF,fF] [] [(0,0)] (via (finP (aI (aI (aI trivial e1) e1) e1) .normal [(0,0)] (reach_turning.c1q a0 a1 a0.2.2.2.2.2.2.2.2.2.1)) (by kernel_rfl))))
theorem reach_turning.way (k:Nat) (a0:V25) (a1:Int):Owp (reach_turning k a0 a1) fun y=>∃ w c0,exec PR (reach_turning.cx k) reach_turning.code 0 (entry (.pair T25 (.pair T2 .unit)) (a0,a1,())).st w (Ret (reach_turning.cx k) Tryz.f16 c0 (.one (.dp T2)) y):=by
  unfold reach_turning; exact
   Owp.bnd fun o2 e3 =>
   Owp.bif (fun e4 =>
   Owp.some (⟨[.cutR 1 ⟨[],[(0,0)],(reach_turning.c1p a0 a1),1,.normal,(reach_turning.c1q a0 a1 o2),1⟩,tT],[],via (cutP trivial [(0,0)] (reach_turning.c1p a0 a1) (((reach_turning.c1_ok k a0 a1).ap e3)) (retP (aI trivial e4) (.one (.dp T2)) ((0:Int):Int))) (by kernel_rfl)⟩)) (fun e4 =>
   Owp.bnd fun y5 e6 =>
   Owp.bnd fun y7 e8 =>
   Owp.bnd fun y9 e10 =>
   Owp.bnd fun y11 e12 =>
   Owp.some (⟨[.cutR 1 ⟨[],[(0,0)],(reach_turning.c1p a0 a1),1,.normal,(reach_turning.c1q a0 a1 o2),1⟩,fF,rS T2 y5,rS T2 y7,rS T2 y9,rS T2 y11],[],via (cutP trivial [(0,0)] (reach_turning.c1p a0 a1) (((reach_turning.c1_ok k a0 a1).ap e3)) (retP (aI (aI (aI (aI (aI trivial e4) e6) e8) e10) e12) (.one (.dp T2)) ((iadd .i64 y11 (4:Int)):Int))) (by kernel_rfl)⟩))
theorem reach_turning.ok (k:Nat):FnOk PR 16 (reach_turning.sp k) :=
  fn_ok (reach_turning.cok k) hmix Tryz.func16 (code:=reach_turning.code) (by kernel_rfl) (by kernel_rfl) (by kernel_rfl) rfl (by kernel_rfl) (by kernel_rfl) (by kernel_rfl) (fun x=>Nat.le_of_ble_eq_true (by kernel_rfl)) fun x y hy=>(reach_turning.way k x.1 x.2.1).ap hy
noncomputable def reach_Bound.code:Code:=Func.cd Tryz.f5
def reach_Bound.c1 (k:Nat) (a0 a1:V25):Nat → Int → Option (Int ⊕ Unit)
  | 0,_=>none
  | n+1,v1 =>
   bif' (ilt v1 (len [a0,a1]))
   (req (inL v1 [a0,a1]) <|
   bnd (body_Check k (el Z25 [a0,a1] v1)) fun y4 =>
   bif' (ine y4 0)
   (some (.inl y4))
   (reach_Bound.c1 k a0 a1 n (iadd .i64 v1 1)))
   (some (.inr ()))
def reach_Bound.c2 (k:Nat) (a2:Int):Option (Bool) :=
  bif' (ilt a2 0)
  (some true)
  (some (igt a2 65536))
def reach_Bound (k:Nat) (a0 a1:V25) (a2:Int):Option (Int × Int) :=
  bnd (reach_Bound.c1 k a0 a1 k 0) fun o7 =>
  two o7 (fun y9 =>
  some (0,y9)) (fun y11 =>
  bnd (reach_Bound.c2 k a2) fun o14 =>
   bif' o14
   (some (0,1))
   (bnd (vec_Len k a0.2.1) fun y17 =>
   bnd (vec_Len k a1.2.1) fun y19 =>
   bnd (fix_Mul k (iadd .i64 (iadd .i64 y17 y19) 4) a2) fun y21 =>
   bnd (reach_turning k a0 a2) fun y23 =>
   bnd (reach_turning k a1 a2) fun y25 =>
   some ((iadd .i64 (iadd .i64 (iadd .i64 y21 8) y23) y25),0)))
noncomputable def reach_Bound.sp (k:Nat):Go.Sx.Spec:=⟨(.pair T25 (.pair T25 (.pair T2 .unit))),(.more (.dp T2) (.one (.dp T2))),fun x=>reach_Bound k x.1 x.2.1 x.2.2.1,false⟩
noncomputable def reach_Bound.cx (k:Nat):Go.Sx.Ctx:=⟨tys,[(13,body_Check.sp k),(15,vec_Len.sp k),(14,fix_Mul.sp k),(16,reach_turning.sp k)],eqs,50,false⟩
theorem reach_Bound.cok (k:Nat):CtxOk PR (reach_Bound.cx k):=ctx_ok tysOk eqsOk (FnsOk.cons (body_Check.ok k) (FnsOk.cons (vec_Len.ok k) (FnsOk.cons (fix_Mul.ok k) (FnsOk.cons (reach_turning.ok k) FnsOk.nil))))
noncomputable def reach_Bound.c1p (a0 a1:V25) (a2 v1:Int):SL:=⟨[(2,(.val T2 a2)),(3,(.val .ptr ⟨0,0,(0:Int),0,0⟩)),(4,(.val .ptr ⟨1,0,(0:Int),0,0⟩)),(13,(.val .own (2:Nat))),(14,(.val T2 (len [a0,a1]))),(15,(.val T2 v1))],[(0,.cells T25 a0),(1,.cells T25 a1),(2,.row T25 [a0,a1] 26)]⟩
noncomputable def reach_Bound.c1q (a0 a1:V25) (a2:Int) (o:Int ⊕ Unit):SL:=(fun o=>two o (fun v=>⟨[(6,(.val T2 (0:Int))),(7,(.val T2 v))],[]⟩) (fun v=>⟨[(2,(.val T2 a2)),(3,(.val .ptr ⟨0,0,(0:Int),0,0⟩)),(4,(.val .ptr ⟨1,0,(0:Int),0,0⟩))],[(0,.cells T25 a0),(1,.cells T25 a1)]⟩)) o
noncomputable def reach_Bound.c1x (o:Int ⊕ Unit):Ex:=(fun o=>two o (fun _=>.ret) (fun _=>(.exit 0))) o
noncomputable def reach_Bound.c1n (o:Int ⊕ Unit):Nat:=(fun o=>two o (fun _=>0) (fun _=>2)) o
theorem reach_Bound.c1_ok (k:Nat) (a0 a1:V25) (a2:Int):∀ (n:Nat) (v1:Int),Owp (reach_Bound.c1 k a0 a1 n v1) fun o=>LTriple PR (reach_Bound.cx k) (sub reach_Bound.code [1,0,1,0,0]) 3 (reach_Bound.c1p a0 a1 a2 v1) (reach_Bound.c1x o) (reach_Bound.c1n o) (reach_Bound.c1q a0 a1 a2 o)
  | 0,_=>fun _ h=>nomatch h
  | n+1,v1=>Owp.of (reach_Bound.c1.eq_2 ..) (
   Owp.bif (fun e2 =>
   Owp.req fun h3 =>
   Owp.bnd fun y4 e5 =>
   Owp.bif (fun e6 =>
   Owp.some (loop_exit (reach_Bound.cok k) hmix [tT,rS T2 y4,tT] [] [] exne_ret (via (finP (aI (aI (aI (aI (aI trivial e2) h3) h3) e5) e6) .ret [] (reach_Bound.c1q a0 a1 a2 (.inl y4))) (by kernel_rfl)))) (fun e6 =>
   fun y hy=>loop_back (reach_Bound.cok k) hmix 3 (reach_Bound.c1p a0 a1 a2 (iadd .i64 v1 (1:Int))) [tT,rS T2 y4,fF] [] [(0,0),(1,1),(2,2)] (via (finP (aI (aI (aI (aI (aI trivial e2) h3) h3) e5) e6) .normal [(0,0),(1,1),(2,2)] (reach_Bound.c1p a0 a1 a2 (iadd .i64 v1 (1:Int)))) (by kernel_rfl)) ((reach_Bound.c1_ok k a0 a1 a2 n (iadd .i64 v1 (1:Int))).ap hy))) (fun e2 =>
   Owp.some (loop_exit (reach_Bound.cok k) hmix [fF] [] [(0,0),(1,1)] (exne 0) (via (finP (aI trivial e2) (.exit 0) [(0,0),(1,1)] (reach_Bound.c1q a0 a1 a2 (.inr ()))) (by kernel_rfl)))))
noncomputable def reach_Bound.c2p (a0 a1:V25) (a2:Int):SL:=⟨[(2,(.val T2 a2)),(3,(.val .ptr ⟨0,0,(0:Int),0,0⟩)),(4,(.val .ptr ⟨1,0,(0:Int),0,0⟩))],[(0,.cells T25 a0),(1,.cells T25 a1)]⟩
noncomputable def reach_Bound.c2q (a0 a1:V25) (a2:Int) (o:Bool):SL:=(fun v=>⟨[(2,(.val T2 a2)),(3,(.val .ptr ⟨0,0,(0:Int),0,0⟩)),(4,(.val .ptr ⟨1,0,(0:Int),0,0⟩)),(30,(.val T4 v))],[(0,.cells T25 a0),(1,.cells T25 a1)]⟩) o
noncomputable def reach_Bound.c2x (o:Bool):Ex:=(fun _=>.normal) o
noncomputable def reach_Bound.c2n (o:Bool):Nat:=(fun _=>2) o
theorem reach_Bound.c2_ok (k:Nat) (a0 a1:V25) (a2:Int):Owp (reach_Bound.c2 k a2) fun o=>Triple PR (reach_Bound.cx k) (sub reach_Bound.code [1,1,0,0]) 2 (reach_Bound.c2p a0 a1 a2) (reach_Bound.c2x o) (reach_Bound.c2n o) (reach_Bound.c2q a0 a1 a2 o):=by
  unfold reach_Bound.c2; exact
   Owp.bif (fun e13 =>
   Owp.some (triple_way (reach_Bound.cok k) hmix [tT,tT,tT] [] [(0,0),(1,1)] (via (finP (aI (aI (aI trivial e13) e13) e13) .normal [(0,0),(1,1)] (reach_Bound.c2q a0 a1 a2 true)) (by kernel_rfl)))) (fun e13 =>
   Owp.some (triple_way (reach_Bound.cok k) hmix [fF,fF,fF] [] [(0,0),(1,1)] (via (finP (aI (aI (aI trivial e13) e13) e13) .normal [(0,0),(1,1)] (reach_Bound.c2q a0 a1 a2 (igt a2 (65536:Int)))) (by kernel_rfl))))
theorem reach_Bound.way (k:Nat) (a0 a1:V25) (a2:Int):Owp (reach_Bound k a0 a1 a2) fun y=>∃ w c0,exec PR (reach_Bound.cx k) reach_Bound.code 0 (entry (.pair T25 (.pair T25 (.pair T2 .unit))) (a0,a1,a2,())).st w (Ret (reach_Bound.cx k) Tryz.f5 c0 (.more (.dp T2) (.one (.dp T2))) y):=by
  unfold reach_Bound; exact
   Owp.bnd fun o7 e8 =>
   Owp.two (fun y9 e10 =>
   Owp.some (⟨[tT,.cut ⟨[],[(0,0),(1,1),(2,6)],(reach_Bound.c1p a0 a1 a2 (0:Int)),3,.ret,(reach_Bound.c1q a0 a1 a2 (.inl y9)),0⟩],[],via (cutP trivial [(0,0),(1,1),(2,6)] (reach_Bound.c1p a0 a1 a2 (0:Int)) (((reach_Bound.c1_ok k a0 a1 a2 k (0:Int)).ap (e8.trans (congrArg some e10))).triple) (retP trivial (.more (.dp T2) (.one (.dp T2))) (((0:Int),y9):(Int × Int)))) (by kernel_rfl)⟩)) (fun y11 e12 =>
   Owp.bnd fun o14 e15 =>
   Owp.bif (fun e16 =>
   Owp.some (⟨[tT,.cut ⟨[],[(0,0),(1,1),(2,6)],(reach_Bound.c1p a0 a1 a2 (0:Int)),3,(.exit 0),(reach_Bound.c1q a0 a1 a2 (.inr ())),2⟩,.cutR 8 ⟨[],[(0,0),(1,1)],(reach_Bound.c2p a0 a1 a2),2,.normal,(reach_Bound.c2q a0 a1 a2 o14),2⟩,tT],[],via (cutP trivial [(0,0),(1,1),(2,6)] (reach_Bound.c1p a0 a1 a2 (0:Int)) (((reach_Bound.c1_ok k a0 a1 a2 k (0:Int)).ap (e8.trans (congrArg some e12))).triple) (cutP trivial [(0,0),(1,1)] (reach_Bound.c2p a0 a1 a2) (((reach_Bound.c2_ok k a0 a1 a2).ap e15)) (retP (aI trivial e16) (.more (.dp T2) (.one (.dp T2))) (((0:Int),(1:Int)):(Int × Int))))) (by kernel_rfl)⟩)) (fun e16 =>
   Owp.bnd fun y17 e18 =>
   Owp.bnd fun y19 e20 =>
   Owp.bnd fun y21 e22 =>
   Owp.bnd fun y23 e24 =>
   Owp.bnd fun y25 e26 =>
   Owp.some (⟨[tT,.cut ⟨[],[(0,0),(1,1),(2,6)],(reach_Bound.c1p a0 a1 a2 (0:Int)),3,(.exit 0),(reach_Bound.c1q a0 a1 a2 (.inr ())),2⟩,.cutR 8 ⟨[],[(0,0),(1,1)],(reach_Bound.c2p a0 a1 a2),2,.normal,(reach_Bound.c2q a0 a1 a2 o14),2⟩,fF,rS T2 y17,rS T2 y19,rS T2 y21,rS T2 y23,rS T2 y25],[],via (cutP trivial [(0,0),(1,1),(2,6)] (reach_Bound.c1p a0 a1 a2 (0:Int)) (((reach_Bound.c1_ok k a0 a1 a2 k (0:Int)).ap (e8.trans (congrArg some e12))).triple) (cutP trivial [(0,0),(1,1)] (reach_Bound.c2p a0 a1 a2) (((reach_Bound.c2_ok k a0 a1 a2).ap e15)) (retP (aI (aI (aI (aI (aI (aI trivial e16) e18) e20) e22) e24) e26) (.more (.dp T2) (.one (.dp T2))) (((iadd .i64 (iadd .i64 (iadd .i64 y21 (8:Int)) y23) y25),(0:Int)):(Int × Int))))) (by kernel_rfl)⟩)))
theorem reach_Bound.ok (k:Nat):FnOk PR 5 (reach_Bound.sp k) :=
  fn_ok (reach_Bound.cok k) hmix Tryz.func5 (code:=reach_Bound.code) (by kernel_rfl) (by kernel_rfl) (by kernel_rfl) rfl (by kernel_rfl) (by kernel_rfl) (by kernel_rfl) (fun x=>Nat.le_of_ble_eq_true (by kernel_rfl)) fun x y hy=>(reach_Bound.way k x.1 x.2.1 x.2.2.1).ap hy
noncomputable def slices_Clone.code:Code:=Func.cd Tryz.f76
def slices_Clone (k:Nat) (a0:(List V22)):Option (List V22) :=
  req (room0 16 a0) <|
  some a0
noncomputable def slices_Clone.sp (k:Nat):Go.Sx.Spec:=⟨(.pair T24 .unit),(.one (.dp T24)),fun x=>slices_Clone k x.1,false⟩
noncomputable def slices_Clone.cx (k:Nat):Go.Sx.Ctx:=⟨tys,[],eqs,8,false⟩
theorem slices_Clone.cok (k:Nat):CtxOk PR (slices_Clone.cx k):=ctx_ok tysOk eqsOk FnsOk.nil
theorem slices_Clone.way (k:Nat) (a0:(List V22)):Owp (slices_Clone k a0) fun y=>∃ w c0,exec PR (slices_Clone.cx k) slices_Clone.code 0 (entry (.pair T24 .unit) (a0,())).st w (Ret (slices_Clone.cx k) Tryz.f76 c0 (.one (.dp T24)) y):=by
  unfold slices_Clone; exact
   Owp.req fun h1 =>
   Owp.some (⟨[.fork [] [tT]],[.deep 2 T22],via (show (List.length a0 = 0 → (True ∧ (True ∧ AV.val T24 ([]:(List V22)) = AV.val T24 a0))) ∧ ((True ∧ room0 16 a0) ∧ (True ∧ AV.val T24 a0 = AV.val T24 a0)) from ⟨fun h0=>⟨trivial,trivial,by rw [List.eq_nil_of_length_eq_zero h0]⟩,⟨trivial,h1⟩,trivial,rfl⟩) (by kernel_rfl)⟩)
theorem slices_Clone.ok (k:Nat):FnOk PR 76 (slices_Clone.sp k) :=
  fn_ok (slices_Clone.cok k) hmix Tryz.func76 (code:=slices_Clone.code) (by kernel_rfl) (by kernel_rfl) (by kernel_rfl) rfl (by kernel_rfl) (by kernel_rfl) (by kernel_rfl) (fun x=>Nat.le_of_ble_eq_true (by kernel_rfl)) fun x y hy=>(slices_Clone.way k x.1).ap hy
noncomputable def body_own.code:Code:=Func.cd Tryz.f43
def body_own (k:Nat) (a0:V25):Option V25 :=
  bnd (slices_Clone k a0.2.2.2.2.2.2.2.2.1) fun y1 =>
  some (a0.1,a0.2.1,a0.2.2.1,a0.2.2.2.1,a0.2.2.2.2.1,a0.2.2.2.2.2.1,a0.2.2.2.2.2.2.1,a0.2.2.2.2.2.2.2.1,y1,a0.2.2.2.2.2.2.2.2.2)
noncomputable def body_own.sp (k:Nat):Go.Sx.Spec:=⟨(.pair T25 .unit),(.one (.dp T25)),fun x=>body_own k x.1,false⟩
noncomputable def body_own.cx (k:Nat):Go.Sx.Ctx:=⟨tys,[(76,slices_Clone.sp k)],eqs,8,false⟩
theorem body_own.cok (k:Nat):CtxOk PR (body_own.cx k):=ctx_ok tysOk eqsOk (FnsOk.cons (slices_Clone.ok k) FnsOk.nil)
theorem body_own.way (k:Nat) (a0:V25):Owp (body_own k a0) fun y=>∃ w c0,exec PR (body_own.cx k) body_own.code 0 (entry (.pair T25 .unit) (a0,())).st w (Ret (body_own.cx k) Tryz.f43 c0 (.one (.dp T25)) y):=by
  unfold body_own; exact
   Owp.bnd fun y1 e2 =>
   Owp.some (⟨[rS T24 y1],[],via (retP (aI trivial e2) (.one (.dp T25)) ((a0.1,a0.2.1,a0.2.2.1,a0.2.2.2.1,a0.2.2.2.2.1,a0.2.2.2.2.2.1,a0.2.2.2.2.2.2.1,a0.2.2.2.2.2.2.2.1,y1,a0.2.2.2.2.2.2.2.2.2):V25)) (by kernel_rfl)⟩)
theorem body_own.ok (k:Nat):FnOk PR 43 (body_own.sp k) :=
  fn_ok (body_own.cok k) hmix Tryz.func43 (code:=body_own.code) (by kernel_rfl) (by kernel_rfl) (by kernel_rfl) rfl (by kernel_rfl) (by kernel_rfl) (by kernel_rfl) (fun x=>Nat.le_of_ble_eq_true (by kernel_rfl)) fun x y hy=>(body_own.way k x.1).ap hy
noncomputable def body_clamp.code:Code:=Func.cd Tryz.f44
def body_clamp (k:Nat) (a0 a1:Int):Option Int :=
  some (imin (imax a0 (ineg .i64 a1)) a1)
noncomputable def body_clamp.sp (k:Nat):Go.Sx.Spec:=⟨T22,(.one (.dp T2)),fun x=>body_clamp k x.1 x.2.1,false⟩
noncomputable def body_clamp.cx (k:Nat):Go.Sx.Ctx:=⟨tys,[],eqs,11,false⟩
theorem body_clamp.cok (k:Nat):CtxOk PR (body_clamp.cx k):=ctx_ok tysOk eqsOk FnsOk.nil
theorem body_clamp.way (k:Nat) (a0 a1:Int):Owp (body_clamp k a0 a1) fun y=>∃ w c0,exec PR (body_clamp.cx k) body_clamp.code 0 (entry T22 (a0,a1,())).st w (Ret (body_clamp.cx k) Tryz.f44 c0 (.one (.dp T2)) y):=by
  unfold body_clamp; exact
   Owp.some (⟨[],[],via (retP trivial (.one (.dp T2)) ((imin (imax a0 (ineg .i64 a1)) a1):Int)) (by kernel_rfl)⟩)
theorem body_clamp.ok (k:Nat):FnOk PR 44 (body_clamp.sp k) :=
  fn_ok (body_clamp.cok k) hmix Tryz.func44 (code:=body_clamp.code) (by kernel_rfl) (by kernel_rfl) (by kernel_rfl) rfl (by kernel_rfl) (by kernel_rfl) (by kernel_rfl) (fun x=>Nat.le_of_ble_eq_true (by kernel_rfl)) fun x y hy=>(body_clamp.way k x.1 x.2.1).ap hy
noncomputable def body_Move.code:Code:=Func.cd Tryz.f19
def body_Move.c1 (k:Nat) (a1:Int) (y1:V25):Option (Bool) :=
  bnd (body_Check k y1) fun y3 =>
  bif' (ine y3 0)
  (some true)
  (bif' (ieq y1.2.2.2.2.1 0)
   (some true)
   (bif' y1.2.2.2.2.2.2.2.2.2.1
   (some true)
   (bif' (ilt a1 0)
   (some true)
   (some (igt a1 65536)))))
def body_Move (k:Nat) (a0:V25) (a1:Int):Option V25 :=
  bnd (body_own k a0) fun y1 =>
  bnd (body_Move.c1 k a1 y1) fun o9 =>
  bif' o9
  (some y1)
  (bnd (fix_Mul k y1.2.1.1 a1) fun y12 =>
   bnd (body_clamp k (iadd .i64 y1.1.1 y12) 58982400) fun y14 =>
   bnd (fix_Mul k y1.2.1.2.1 a1) fun y16 =>
   bnd (body_clamp k (iadd .i64 y1.1.2.1 y16) 58982400) fun y18 =>
   bnd (fix_Mul k y1.2.2.2.1 a1) fun y20 =>
   some ((y14,y18,()),y1.2.1,(irem (iadd .i64 (irem (iadd .i64 y1.2.2.1 y20) 65536) 65536) 65536),y1.2.2.2))
noncomputable def body_Move.sp (k:Nat):Go.Sx.Spec:=⟨(.pair T25 (.pair T2 .unit)),(.one (.dp T25)),fun x=>body_Move k x.1 x.2.1,false⟩
noncomputable def body_Move.cx (k:Nat):Go.Sx.Ctx:=⟨tys,[(43,body_own.sp k),(13,body_Check.sp k),(14,fix_Mul.sp k),(44,body_clamp.sp k)],eqs,64,false⟩
theorem body_Move.cok (k:Nat):CtxOk PR (body_Move.cx k):=ctx_ok tysOk eqsOk (FnsOk.cons (body_own.ok k) (FnsOk.cons (body_Check.ok k) (FnsOk.cons (fix_Mul.ok k) (FnsOk.cons (body_clamp.ok k) FnsOk.nil))))
noncomputable def body_Move.c1p (a1:Int) (y1:V25):SL:=⟨[(1,(.val T2 a1)),(2,(.val .ptr ⟨0,0,(0:Int),0,0⟩)),(4,(.val .ptr ⟨1,0,(0:Int),0,0⟩))],[(0,.cells T25 y1),(1,.cells T25 (((0:Int),(0:Int),()),((0:Int),(0:Int),()),(0:Int),(0:Int),(0:Int),(0:Int),(0:Int),(0:Int),[],false,(0:Int),()))]⟩
noncomputable def body_Move.c1q (a1:Int) (y1:V25) (o:Bool):SL:=(fun v=>⟨[(1,(.val T2 a1)),(2,(.val .ptr ⟨0,0,(0:Int),0,0⟩)),(4,(.val .ptr ⟨1,0,(0:Int),0,0⟩)),(26,(.val T4 v))],[(0,.cells T25 y1),(1,.cells T25 (((0:Int),(0:Int),()),((0:Int),(0:Int),()),(0:Int),(0:Int),(0:Int),(0:Int),(0:Int),(0:Int),[],false,(0:Int),()))]⟩) o
noncomputable def body_Move.c1x (o:Bool):Ex:=(fun _=>.normal) o
noncomputable def body_Move.c1n (o:Bool):Nat:=(fun _=>2) o
theorem body_Move.c1_ok (k:Nat) (a1:Int) (y1:V25):Owp (body_Move.c1 k a1 y1) fun o=>Triple PR (body_Move.cx k) (sub body_Move.code [1,1,0,0]) 2 (body_Move.c1p a1 y1) (body_Move.c1x o) (body_Move.c1n o) (body_Move.c1q a1 y1 o):=by
  unfold body_Move.c1; exact
   Owp.bnd fun y3 e4 =>
   Owp.bif (fun e5 =>
   Owp.some (triple_way (body_Move.cok k) hmix [rS T2 y3,tT,tT,tT,tT,tT,tT,tT,tT,tT,tT,tT,tT,tT] [] [(0,0),(1,1)] (via (finP (aI (aI (aI (aI (aI (aI (aI (aI (aI (aI (aI (aI (aI (aI trivial e4) e5) e5) e5) e5) tt) tt) tt) tt) tt) tt) tt) tt) tt) .normal [(0,0),(1,1)] (body_Move.c1q a1 y1 true)) (by kernel_rfl)))) (fun e5 =>
   Owp.bif (fun e6 =>
   Owp.some (triple_way (body_Move.cok k) hmix [rS T2 y3,fF,fF,fF,fF,tT,tT,tT,tT,tT,tT,tT,tT,tT] [] [(0,0),(1,1)] (via (finP (aI (aI (aI (aI (aI (aI (aI (aI (aI (aI (aI (aI (aI (aI trivial e4) e5) e5) e5) e5) e6) e6) e6) tt) tt) tt) tt) tt) tt) .normal [(0,0),(1,1)] (body_Move.c1q a1 y1 true)) (by kernel_rfl)))) (fun e6 =>
   Owp.bif (fun e7 =>
   Owp.some (triple_way (body_Move.cok k) hmix [rS T2 y3,fF,fF,fF,fF,fF,fF,fF,tT,tT,tT,tT,tT,tT] [] [(0,0),(1,1)] (via (finP (aI (aI (aI (aI (aI (aI (aI (aI (aI (aI (aI (aI (aI (aI trivial e4) e5) e5) e5) e5) e6) e6) e6) e7) e7) e7) tt) tt) tt) .normal [(0,0),(1,1)] (body_Move.c1q a1 y1 true)) (by kernel_rfl)))) (fun e7 =>
   Owp.bif (fun e8 =>
   Owp.some (triple_way (body_Move.cok k) hmix [rS T2 y3,fF,fF,fF,fF,fF,fF,fF,fF,fF,fF,tT,tT,tT] [] [(0,0),(1,1)] (via (finP (aI (aI (aI (aI (aI (aI (aI (aI (aI (aI (aI (aI (aI (aI trivial e4) e5) e5) e5) e5) e6) e6) e6) e7) e7) e7) e8) e8) e8) .normal [(0,0),(1,1)] (body_Move.c1q a1 y1 true)) (by kernel_rfl)))) (fun e8 =>
   Owp.some (triple_way (body_Move.cok k) hmix [rS T2 y3,fF,fF,fF,fF,fF,fF,fF,fF,fF,fF,fF,fF,fF] [] [(0,0),(1,1)] (via (finP (aI (aI (aI (aI (aI (aI (aI (aI (aI (aI (aI (aI (aI (aI trivial e4) e5) e5) e5) e5) e6) e6) e6) e7) e7) e7) e8) e8) e8) .normal [(0,0),(1,1)] (body_Move.c1q a1 y1 (igt a1 (65536:Int)))) (by kernel_rfl)))))))
theorem body_Move.way (k:Nat) (a0:V25) (a1:Int):Owp (body_Move k a0 a1) fun y=>∃ w c0,exec PR (body_Move.cx k) body_Move.code 0 (entry (.pair T25 (.pair T2 .unit)) (a0,a1,())).st w (Ret (body_Move.cx k) Tryz.f19 c0 (.one (.dp T25)) y):=by
  unfold body_Move; exact
   Owp.bnd fun y1 e2 =>
   Owp.bnd fun o9 e10 =>
   Owp.bif (fun e11 =>
   Owp.some (⟨[rS T25 y1,.cutR 2 ⟨[],[(0,0),(1,1)],(body_Move.c1p a1 y1),2,.normal,(body_Move.c1q a1 y1 o9),2⟩,tT],[],via (cutP (aI trivial e2) [(0,0),(1,1)] (body_Move.c1p a1 y1) (((body_Move.c1_ok k a1 y1).ap e10)) (retP (aI trivial e11) (.one (.dp T25)) (y1:V25))) (by kernel_rfl)⟩)) (fun e11 =>
   Owp.bnd fun y12 e13 =>
   Owp.bnd fun y14 e15 =>
   Owp.bnd fun y16 e17 =>
   Owp.bnd fun y18 e19 =>
   Owp.bnd fun y20 e21 =>
   Owp.some (⟨[rS T25 y1,.cutR 2 ⟨[],[(0,0),(1,1)],(body_Move.c1p a1 y1),2,.normal,(body_Move.c1q a1 y1 o9),2⟩,fF,rS T2 y12,rS T2 y14,rS T2 y16,rS T2 y18,rS T2 y20],[],via (cutP (aI trivial e2) [(0,0),(1,1)] (body_Move.c1p a1 y1) (((body_Move.c1_ok k a1 y1).ap e10)) (retP (aI (aI (aI (aI (aI (aI (aI (aI trivial e11) e13) e15) e17) e19) e21) (by decide:nz (65536:Int))) (by decide:nz (65536:Int))) (.one (.dp T25)) (((y14,y18,()),y1.2.1,(irem (iadd .i64 (irem (iadd .i64 y1.2.2.1 y20) (65536:Int)) (65536:Int)) (65536:Int)),y1.2.2.2):V25))) (by kernel_rfl)⟩))
theorem body_Move.ok (k:Nat):FnOk PR 19 (body_Move.sp k) :=
  fn_ok (body_Move.cok k) hmix Tryz.func19 (code:=body_Move.code) (by kernel_rfl) (by kernel_rfl) (by kernel_rfl) rfl (by kernel_rfl) (by kernel_rfl) (by kernel_rfl) (fun x=>Nat.le_of_ble_eq_true (by kernel_rfl)) fun x y hy=>(body_Move.way k x.1 x.2.1).ap hy
noncomputable def body_Place.code:Code:=Func.cd Tryz.f18
def body_Place.c1 (k:Nat) (a0:V25):Nat → Int → (List V22) → Option ((List V22))
  | 0,_,_=>none
  | n+1,v4,v5 =>
   bif' (ilt v4 (len a0.2.2.2.2.2.2.2.2.1))
   (req (inL v4 a0.2.2.2.2.2.2.2.2.1) <|
   bnd (vec_Turn k (el Z22 a0.2.2.2.2.2.2.2.2.1 v4) a0.2.2.1) fun y8 =>
   bnd (vec_Add k y8 a0.1) fun y10 =>
   req (room 16 v5 [y10]) <|
   body_Place.c1 k a0 n (iadd .i64 v4 1) (v5 ++ [y10]))
   (some v5)
def body_Place (k:Nat) (a0:V25):Option (List V22) :=
  bnd (body_Check k a0) fun y1 =>
  bif' (ine y1 0)
  (some [])
  (bnd (body_Place.c1 k a0 k 0 []) fun o13 =>
   some o13)
noncomputable def body_Place.sp (k:Nat):Go.Sx.Spec:=⟨(.pair T25 .unit),(.one (.ow T22 23)),fun x=>body_Place k x.1,false⟩
noncomputable def body_Place.cx (k:Nat):Go.Sx.Ctx:=⟨tys,[(13,body_Check.sp k),(42,vec_Turn.sp k),(41,vec_Add.sp k)],eqs,28,false⟩
theorem body_Place.cok (k:Nat):CtxOk PR (body_Place.cx k):=ctx_ok tysOk eqsOk (FnsOk.cons (body_Check.ok k) (FnsOk.cons (vec_Turn.ok k) (FnsOk.cons (vec_Add.ok k) FnsOk.nil)))
noncomputable def body_Place.c1p (a0:V25) (v4:Int) (v5:(List V22)):SL:=⟨[(1,(.val .ptr ⟨0,0,(0:Int),0,0⟩)),(3,(.val .own (1:Nat))),(10,(.val T24 a0.2.2.2.2.2.2.2.2.1)),(11,(.val T2 (len a0.2.2.2.2.2.2.2.2.1))),(12,(.val T2 v4))],[(0,.cells T25 a0),(1,.row T22 v5 23)]⟩
noncomputable def body_Place.c1q (o:(List V22)):SL:=(fun v=>⟨[(3,(.val .own (0:Nat)))],[(0,.row T22 v 23)]⟩) o
noncomputable def body_Place.c1x (o:(List V22)):Ex:=(fun _=>(.exit 0)) o
noncomputable def body_Place.c1n (o:(List V22)):Nat:=(fun _=>1) o
theorem body_Place.c1_ok (k:Nat) (a0:V25):∀ (n:Nat) (v4:Int) (v5:(List V22)),Owp (body_Place.c1 k a0 n v4 v5) fun o=>LTriple PR (body_Place.cx k) (sub body_Place.code [1,1,1,0,1,0,0]) 2 (body_Place.c1p a0 v4 v5) (body_Place.c1x o) (body_Place.c1n o) (body_Place.c1q o)
  | 0,_,_=>fun _ h=>nomatch h
  | n+1,v4,v5=>Owp.of (body_Place.c1.eq_2 ..) (
   Owp.bif (fun e6 =>
   Owp.req fun h7 =>
   Owp.bnd fun y8 e9 =>
   Owp.bnd fun y10 e11 =>
   Owp.req fun h12 =>
   fun y hy=>loop_back (body_Place.cok k) hmix 2 (body_Place.c1p a0 (iadd .i64 v4 (1:Int)) (v5 ++ [y10])) [tT,rS T22 y8,rS T22 y10,tT] [] [(0,0),(1,16)] (via (finP (aI (aI (aI (aI (aI trivial e6) h7) e9) e11) h12) .normal [(0,0),(1,16)] (body_Place.c1p a0 (iadd .i64 v4 (1:Int)) (v5 ++ [y10]))) (by kernel_rfl)) ((body_Place.c1_ok k a0 n (iadd .i64 v4 (1:Int)) (v5 ++ [y10])).ap hy)) (fun e6 =>
   Owp.some (loop_exit (body_Place.cok k) hmix [fF] [] [(0,1)] (exne 0) (via (finP (aI trivial e6) (.exit 0) [(0,1)] (body_Place.c1q v5)) (by kernel_rfl)))))
theorem body_Place.way (k:Nat) (a0:V25):Owp (body_Place k a0) fun y=>∃ w c0,exec PR (body_Place.cx k) body_Place.code 0 (entry (.pair T25 .unit) (a0,())).st w (Ret (body_Place.cx k) Tryz.f18 c0 (.one (.ow T22 23)) y):=by
  unfold body_Place; exact
   Owp.bnd fun y1 e2 =>
   Owp.bif (fun e3 =>
   Owp.some (⟨[rS T2 y1,tT],[.own 2 T22 23],via (retP (aI (aI trivial e2) e3) (.one (.ow T22 23)) ([]:(List V22))) (by kernel_rfl)⟩)) (fun e3 =>
   Owp.bnd fun o13 e14 =>
   Owp.some (⟨[rS T2 y1,fF,.cut ⟨[.own 3 T22 23],[(0,0),(1,10)],(body_Place.c1p a0 (0:Int) []),2,(.exit 0),(body_Place.c1q o13),1⟩],[],via (cutP (aI (aI trivial e2) e3) [(0,0),(1,10)] (body_Place.c1p a0 (0:Int) []) (((body_Place.c1_ok k a0 k (0:Int) []).ap e14).triple) (retP trivial (.one (.ow T22 23)) (o13:(List V22)))) (by kernel_rfl)⟩))
theorem body_Place.ok (k:Nat):FnOk PR 18 (body_Place.sp k) :=
  fn_ok (body_Place.cok k) hmix Tryz.func18 (code:=body_Place.code) (by kernel_rfl) (by kernel_rfl) (by kernel_rfl) rfl (by kernel_rfl) (by kernel_rfl) (by kernel_rfl) (fun x=>Nat.le_of_ble_eq_true (by kernel_rfl)) fun x y hy=>(body_Place.way k x.1).ap hy
noncomputable def near_lowest.code:Code:=Func.cd Tryz.f77
def near_lowest.c2 (k:Nat) (a0:(List V22)) (v1 v2:Int):Option (Bool) :=
  req (inL v1 a0) <|
  bif' (ilt (el Z22 a0 v2).2.1 (el Z22 a0 v1).2.1)
  (some true)
  (bif' (ieq (el Z22 a0 v2).2.1 (el Z22 a0 v1).2.1)
   (some (ilt (el Z22 a0 v2).1 (el Z22 a0 v1).1))
   (some false))
def near_lowest.c1 (k:Nat) (a0:(List V22)):Nat → Int → Int → Option (Int)
  | 0,_,_=>none
  | n+1,v1,v2 =>
   bif' (ilt v2 (len a0))
   (req (inL v2 a0) <|
   bnd (near_lowest.c2 k a0 v1 v2) fun o8 =>
   bif' o8
   (near_lowest.c1 k a0 n v2 (iadd .i64 v2 1))
   (near_lowest.c1 k a0 n v1 (iadd .i64 v2 1)))
   (some v1)
def near_lowest (k:Nat) (a0:(List V22)):Option Int :=
  bnd (near_lowest.c1 k a0 k 0 0) fun o11 =>
  some o11
noncomputable def near_lowest.sp (k:Nat):Go.Sx.Spec:=⟨(.pair T24 .unit),(.one (.dp T2)),fun x=>near_lowest k x.1,false⟩
noncomputable def near_lowest.cx (k:Nat):Go.Sx.Ctx:=⟨tys,[],eqs,44,false⟩
theorem near_lowest.cok (k:Nat):CtxOk PR (near_lowest.cx k):=ctx_ok tysOk eqsOk FnsOk.nil
noncomputable def near_lowest.c2p (a0:(List V22)) (v1 v2:Int):SL:=⟨[(0,(.val T24 a0)),(3,(.val T2 v1)),(4,(.val T2 v2)),(5,(.val .ptr ⟨0,0,(0:Int),0,0⟩)),(6,(.val T24 a0)),(7,(.val T2 (len a0))),(8,(.val T2 v2))],[(0,.cells T22 (el Z22 a0 v2))]⟩
noncomputable def near_lowest.c2q (a0:(List V22)) (v1 v2:Int) (o:Bool):SL:=(fun v=>⟨[(0,(.val T24 a0)),(3,(.val T2 v1)),(4,(.val T2 v2)),(6,(.val T24 a0)),(7,(.val T2 (len a0))),(8,(.val T2 v2)),(40,(.val T4 v))],[]⟩) o
noncomputable def near_lowest.c2x (o:Bool):Ex:=(fun _=>.normal) o
noncomputable def near_lowest.c2n (o:Bool):Nat:=(fun _=>0) o
theorem near_lowest.c2_ok (k:Nat) (a0:(List V22)) (v1 v2:Int):Owp (near_lowest.c2 k a0 v1 v2) fun o=>Triple PR (near_lowest.cx k) (sub near_lowest.code [1,1,0,1,0,0,1,1,0,0,1,0]) 1 (near_lowest.c2p a0 v1 v2) (near_lowest.c2x o) (near_lowest.c2n o) (near_lowest.c2q a0 v1 v2 o):=by
  unfold near_lowest.c2; exact
   Owp.req fun h5 =>
   Owp.bif (fun e6 =>
   Owp.some (triple_way (near_lowest.cok k) hmix [tT,tT,tT,tT,tT,tT,tT,tT,tT,tT,tT,tT,tT,tT,tT,tT,tT,tT,tT,tT] [] [] (via (finP (aI (aI (aI (aI (aI (aI (aI (aI (aI (aI (aI (aI trivial h5) e6) e6) e6) e6) e6) e6) e6) e6) e6) e6) e6) .normal [] (near_lowest.c2q a0 v1 v2 true)) (by kernel_rfl)))) (fun e6 =>
   Owp.bif (fun e7 =>
   Owp.some (triple_way (near_lowest.cok k) hmix [fF,fF,fF,fF,fF,fF,fF,fF,fF,tT,tT,tT,tT,tT,tT,tT,tT,fF,tT,fF] [] [] (via (finP (aI (aI (aI (aI (aI (aI (aI (aI (aI (aI (aI (aI (aI (aI (aI (aI (aI (aI (aI (aI trivial h5) e6) e6) e6) e6) (aI e6 h5)) e6) e6) e6) e6) e7) e7) e7) e7) (aI e7 h5)) e7) e7) e7) (aI e6 e7)) e6) .normal [] (near_lowest.c2q a0 v1 v2 (ilt (el Z22 a0 v2).1 (el Z22 a0 v1).1))) (by kernel_rfl)))) (fun e7 =>
   Owp.some (triple_way (near_lowest.cok k) hmix [fF,fF,fF,fF,fF,fF,fF,fF,fF,fF,fF,fF,fF,fF,fF,fF,fF,fF,fF,fF] [] [] (via (finP (aI (aI (aI (aI (aI (aI (aI (aI (aI (aI (aI (aI (aI (aI (aI (aI (aI (aI (aI (aI trivial h5) e6) e6) e6) e6) (aI e6 h5)) e6) e6) e6) e6) e7) e7) e7) e7) e7) e7) e7) e7) (aI e6 e7)) e6) .normal [] (near_lowest.c2q a0 v1 v2 false)) (by kernel_rfl)))))
noncomputable def near_lowest.c1p (a0:(List V22)) (v1 v2:Int):SL:=⟨[(0,(.val T24 a0)),(3,(.val T2 v1)),(6,(.val T24 a0)),(7,(.val T2 (len a0))),(8,(.val T2 v2))],[]⟩
noncomputable def near_lowest.c1q (o:Int):SL:=(fun v=>⟨[(3,(.val T2 v))],[]⟩) o
noncomputable def near_lowest.c1x (o:Int):Ex:=(fun _=>(.exit 0)) o
noncomputable def near_lowest.c1n (o:Int):Nat:=(fun _=>0) o
theorem near_lowest.c1_ok (k:Nat) (a0:(List V22)):∀ (n:Nat) (v1 v2:Int),Owp (near_lowest.c1 k a0 n v1 v2) fun o=>LTriple PR (near_lowest.cx k) (sub near_lowest.code [1,1,0,1,0,0]) 0 (near_lowest.c1p a0 v1 v2) (near_lowest.c1x o) (near_lowest.c1n o) (near_lowest.c1q o)
  | 0,_,_=>fun _ h=>nomatch h
  | n+1,v1,v2=>Owp.of (near_lowest.c1.eq_2 ..) (
   Owp.bif (fun e3 =>
   Owp.req fun h4 =>
   Owp.bnd fun o8 e9 =>
   Owp.bif (fun e10 =>
   fun y hy=>loop_back (near_lowest.cok k) hmix 0 (near_lowest.c1p a0 v2 (iadd .i64 v2 (1:Int))) [tT,.cutR 5 ⟨[],[(0,4)],(near_lowest.c2p a0 v1 v2),1,.normal,(near_lowest.c2q a0 v1 v2 o8),0⟩,tT] [] [] (via (cutP (aI (aI trivial e3) h4) [(0,4)] (near_lowest.c2p a0 v1 v2) (((near_lowest.c2_ok k a0 v1 v2).ap e9)) (finP (aI trivial e10) .normal [] (near_lowest.c1p a0 v2 (iadd .i64 v2 (1:Int))))) (by kernel_rfl)) ((near_lowest.c1_ok k a0 n v2 (iadd .i64 v2 (1:Int))).ap hy)) (fun e10 =>
   fun y hy=>loop_back (near_lowest.cok k) hmix 0 (near_lowest.c1p a0 v1 (iadd .i64 v2 (1:Int))) [tT,.cutR 5 ⟨[],[(0,4)],(near_lowest.c2p a0 v1 v2),1,.normal,(near_lowest.c2q a0 v1 v2 o8),0⟩,fF] [] [] (via (cutP (aI (aI trivial e3) h4) [(0,4)] (near_lowest.c2p a0 v1 v2) (((near_lowest.c2_ok k a0 v1 v2).ap e9)) (finP (aI trivial e10) .normal [] (near_lowest.c1p a0 v1 (iadd .i64 v2 (1:Int))))) (by kernel_rfl)) ((near_lowest.c1_ok k a0 n v1 (iadd .i64 v2 (1:Int))).ap hy))) (fun e3 =>
   Owp.some (loop_exit (near_lowest.cok k) hmix [fF] [] [] (exne 0) (via (finP (aI trivial e3) (.exit 0) [] (near_lowest.c1q v1)) (by kernel_rfl)))))
theorem near_lowest.way (k:Nat) (a0:(List V22)):Owp (near_lowest k a0) fun y=>∃ w c0,exec PR (near_lowest.cx k) near_lowest.code 0 (entry (.pair T24 .unit) (a0,())).st w (Ret (near_lowest.cx k) Tryz.f77 c0 (.one (.dp T2)) y):=by
  unfold near_lowest; exact
   Owp.bnd fun o11 e12 =>
   Owp.some (⟨[.cut ⟨[],[],(near_lowest.c1p a0 (0:Int) (0:Int)),0,(.exit 0),(near_lowest.c1q o11),0⟩],[],via (cutP trivial [] (near_lowest.c1p a0 (0:Int) (0:Int)) (((near_lowest.c1_ok k a0 k (0:Int) (0:Int)).ap e12).triple) (retP trivial (.one (.dp T2)) (o11:Int))) (by kernel_rfl)⟩)
theorem near_lowest.ok (k:Nat):FnOk PR 77 (near_lowest.sp k) :=
  fn_ok (near_lowest.cok k) hmix Tryz.func77 (code:=near_lowest.code) (by kernel_rfl) (by kernel_rfl) (by kernel_rfl) rfl (by kernel_rfl) (by kernel_rfl) (by kernel_rfl) (fun x=>Nat.le_of_ble_eq_true (by kernel_rfl)) fun x y hy=>(near_lowest.way k x.1).ap hy
noncomputable def near_edge.code:Code:=Func.cd Tryz.f78
def near_edge (k:Nat) (a0:(List V22)) (a1 a2:Int):Option V22 :=
  req (nz (len a0)) <|
  req (inL (irem (iadd .i64 a1 a2) (len a0)) a0) <|
  req (inL (irem (iadd .i64 (iadd .i64 a1 a2) 1) (len a0)) a0) <|
  some ((isub .i64 (el Z22 a0 (irem (iadd .i64 (iadd .i64 a1 a2) 1) (len a0))).1 (el Z22 a0 (irem (iadd .i64 a1 a2) (len a0))).1),(isub .i64 (el Z22 a0 (irem (iadd .i64 (iadd .i64 a1 a2) 1) (len a0))).2.1 (el Z22 a0 (irem (iadd .i64 a1 a2) (len a0))).2.1),())
noncomputable def near_edge.sp (k:Nat):Go.Sx.Spec:=⟨(.pair T24 T22),(.one (.dp T22)),fun x=>near_edge k x.1 x.2.1 x.2.2.1,false⟩
noncomputable def near_edge.cx (k:Nat):Go.Sx.Ctx:=⟨tys,[],eqs,39,false⟩
theorem near_edge.cok (k:Nat):CtxOk PR (near_edge.cx k):=ctx_ok tysOk eqsOk FnsOk.nil
theorem near_edge.way (k:Nat) (a0:(List V22)) (a1 a2:Int):Owp (near_edge k a0 a1 a2) fun y=>∃ w c0,exec PR (near_edge.cx k) near_edge.code 0 (entry (.pair T24 T22) (a0,a1,a2,())).st w (Ret (near_edge.cx k) Tryz.f78 c0 (.one (.dp T22)) y):=by
  unfold near_edge; exact
   Owp.req fun h1 =>
   Owp.req fun h2 =>
   Owp.req fun h3 =>
   Owp.some (⟨[],[],via (retP (aI (aI (aI (aI trivial h1) h2) h1) h3) (.one (.dp T22)) (((isub .i64 (el Z22 a0 (irem (iadd .i64 (iadd .i64 a1 a2) (1:Int)) (len a0))).1 (el Z22 a0 (irem (iadd .i64 a1 a2) (len a0))).1),(isub .i64 (el Z22 a0 (irem (iadd .i64 (iadd .i64 a1 a2) (1:Int)) (len a0))).2.1 (el Z22 a0 (irem (iadd .i64 a1 a2) (len a0))).2.1),()):V22)) (by kernel_rfl)⟩)
theorem near_edge.ok (k:Nat):FnOk PR 78 (near_edge.sp k) :=
  fn_ok (near_edge.cok k) hmix Tryz.func78 (code:=near_edge.code) (by kernel_rfl) (by kernel_rfl) (by kernel_rfl) rfl (by kernel_rfl) (by kernel_rfl) (by kernel_rfl) (fun x=>Nat.le_of_ble_eq_true (by kernel_rfl)) fun x y hy=>(near_edge.way k x.1 x.2.1 x.2.2.1).ap hy
noncomputable def near_cross.code:Code:=Func.cd Tryz.f79
def near_cross (k:Nat) (a0 a1:V22):Option Int :=
  some (isub .i64 (imul .i64 a0.1 a1.2.1) (imul .i64 a0.2.1 a1.1))
noncomputable def near_cross.sp (k:Nat):Go.Sx.Spec:=⟨(.pair T22 (.pair T22 .unit)),(.one (.dp T2)),fun x=>near_cross k x.1 x.2.1,false⟩
noncomputable def near_cross.cx (k:Nat):Go.Sx.Ctx:=⟨tys,[],eqs,16,false⟩
theorem near_cross.cok (k:Nat):CtxOk PR (near_cross.cx k):=ctx_ok tysOk eqsOk FnsOk.nil
theorem near_cross.way (k:Nat) (a0 a1:V22):Owp (near_cross k a0 a1) fun y=>∃ w c0,exec PR (near_cross.cx k) near_cross.code 0 (entry (.pair T22 (.pair T22 .unit)) (a0,a1,())).st w (Ret (near_cross.cx k) Tryz.f79 c0 (.one (.dp T2)) y):=by
  unfold near_cross; exact
   Owp.some (⟨[],[],via (retP trivial (.one (.dp T2)) ((isub .i64 (imul .i64 a0.1 a1.2.1) (imul .i64 a0.2.1 a1.1)):Int)) (by kernel_rfl)⟩)
theorem near_cross.ok (k:Nat):FnOk PR 79 (near_cross.sp k) :=
  fn_ok (near_cross.cok k) hmix Tryz.func79 (code:=near_cross.code) (by kernel_rfl) (by kernel_rfl) (by kernel_rfl) rfl (by kernel_rfl) (by kernel_rfl) (by kernel_rfl) (fun x=>Nat.le_of_ble_eq_true (by kernel_rfl)) fun x y hy=>(near_cross.way k x.1 x.2.1).ap hy
end Go.Proofs.T1
