import Derived.Test.YtddbhngnhegndaaGreatG6
namespace Go.Proofs.T1
open Go Go.Sx Go.Proofs
set_option maxRecDepth 100000
set_option linter.unusedVariables false
noncomputable def r2_Body.code:Code:=Func.cd Tryz.f8
def r2_Body.c1 (k:Nat) (a0:V25):Option (Bool) :=
  bnd (r2_coord k a0.1 58982400) fun y4 =>
  bif' y4
  (bnd (r2_coord k a0.2.1 268435456) fun y7 =>
   bif' y7
   (bnd (r2_between k a0.2.2.2.1 (-16777216) 16777216) fun y10 =>
   bif' y10
   (bnd (r2_between k a0.2.2.1 0 65535) fun y13 =>
   some (!y13))
   (some true))
   (some true))
  (some true)
def r2_Body.c2 (k:Nat) (a0:V25):Option (Bool) :=
  bnd (r2_between k a0.2.2.2.2.1 0 1099511627776) fun y18 =>
  bif' y18
  (bnd (r2_between k a0.2.2.2.2.2.1 0 1099511627776) fun y21 =>
   bif' y21
   (bnd (r2_between k a0.2.2.2.2.2.2.1 0 65536) fun y24 =>
   bif' y24
   (bnd (r2_between k a0.2.2.2.2.2.2.2.1 0 65536) fun y27 =>
   bif' y27
   (bnd (r2_between k a0.2.2.2.2.2.2.2.2.2.2.1 0 1000) fun y30 =>
   some (!y30))
   (some true))
   (some true))
   (some true))
  (some true)
def r2_Body.c3 (k:Nat) (a0:V25):Option (Bool) :=
  bif' (ine a0.2.1.1 0)
  (some true)
  (bif' (ine a0.2.1.2.1 0)
   (some true)
   (some (ine a0.2.2.2.1 0)))
def r2_Body.c4 (k:Nat) (a0:V25):Option (Bool) :=
  bif' (ieq a0.2.2.2.2.1 0)
  (some (igt a0.2.2.2.2.2.1 0))
  (some false)
def r2_Body.c5 (k:Nat) (a0:V25) (o40:Bool):Option (Bool) :=
  bif' o40
  (some o40)
  (bif' (igt a0.2.2.2.2.1 0)
   (some (ieq a0.2.2.2.2.2.1 0))
   (some false))
def r2_Body.c6 (k:Nat) (a0:V25) (o37:Bool):Option (Bool) :=
  bif' (ieq a0.2.2.2.2.1 0)
  (bif' o37
   (some true)
   (bif' a0.2.2.2.2.2.2.2.2.2.1
   (some true)
   (some (igt a0.2.2.2.2.2.2.2.2.2.2.1 0))))
  (some false)
def r2_Body.c7 (k:Nat) (a0:V25) (o37:Bool):Option (Bool) :=
  bif' a0.2.2.2.2.2.2.2.2.2.1
  (some o37)
  (some false)
def r2_Body (k:Nat) (a0:V25):Option Int :=
  bnd (r2_Corners k a0.2.2.2.2.2.2.2.2.1) fun y1 =>
  bif' (ine y1 0)
  (some y1)
  (bnd (r2_Body.c1 k a0) fun o15 =>
   bif' o15
   (some 1)
   (bnd (r2_Body.c2 k a0) fun o32 =>
   bif' o32
   (some 1)
   (bnd (r2_Body.c3 k a0) fun o37 =>
   bnd (r2_Body.c4 k a0) fun o40 =>
   bnd (r2_Body.c5 k a0 o40) fun o44 =>
   bif' o44
   (some 3)
   (bnd (r2_Body.c6 k a0 o37) fun o50 =>
   bif' o50
   (some 3)
   (bnd (r2_Body.c7 k a0 o37) fun o54 =>
   bif' o54
   (some 3)
   (some 0))))))
noncomputable def r2_Body.sp (k:Nat):Go.Sx.Spec:=⟨(.pair T25 .unit),(.one (.dp T2)),fun x=>r2_Body k x.1,false⟩
noncomputable def r2_Body.cx (k:Nat):Go.Sx.Ctx:=⟨tys,[(23,r2_Corners.sp k),(24,r2_coord.sp k),(25,r2_between.sp k)],eqs,115,false⟩
theorem r2_Body.cok (k:Nat):CtxOk PR (r2_Body.cx k):=ctx_ok tysOk eqsOk (FnsOk.cons (r2_Corners.ok k) (FnsOk.cons (r2_coord.ok k) (FnsOk.cons (r2_between.ok k) FnsOk.nil)))
noncomputable def r2_Body.c1p (a0:V25):SL:=⟨[(1,(.val .ptr ⟨0,0,(0:Int),0,0⟩))],[(0,.cells T25 a0)]⟩
noncomputable def r2_Body.c1q (a0:V25) (o:Bool):SL:=(fun v=>⟨[(1,(.val .ptr ⟨0,0,(0:Int),0,0⟩)),(32,(.val T4 v))],[(0,.cells T25 a0)]⟩) o
noncomputable def r2_Body.c1x (o:Bool):Ex:=(fun _=>.normal) o
noncomputable def r2_Body.c1n (o:Bool):Nat:=(fun _=>1) o
theorem r2_Body.c1_ok (k:Nat) (a0:V25):Owp (r2_Body.c1 k a0) fun o=>Triple PR (r2_Body.cx k) (sub r2_Body.code [1,1,0,0]) 1 (r2_Body.c1p a0) (r2_Body.c1x o) (r2_Body.c1n o) (r2_Body.c1q a0 o):=by
  unfold r2_Body.c1; exact
   Owp.bnd fun y4 e5 =>
   Owp.bif (fun e6 =>
   Owp.bnd fun y7 e8 =>
   Owp.bif (fun e9 =>
   Owp.bnd fun y10 e11 =>
   Owp.bif (fun e12 =>
   Owp.bnd fun y13 e14 =>
   Owp.some (triple_way (r2_Body.cok k) hmix [rS T4 y4,fF,fF,fF,rS T4 y7,fF,fF,fF,fF,fF,rS T4 y10,fF,fF,fF,fF,fF,rS T4 y13,fF,fF] [] [(0,0)] (via (finP (aI (aI (aI (aI (aI (aI (aI (aI (aI (aI (aI (aI (aI (aI (aI (aI trivial e5) (congrArg not e6)) (congrArg not e6)) (aI (congrArg not e6) e8)) (congrArg not e6)) (congrArg not e6)) (congrArg not e9)) (congrArg not e9)) (aI (congrArg not e9) e11)) (congrArg not e9)) (congrArg not e9)) (congrArg not e12)) (congrArg not e12)) (aI (congrArg not e12) e14)) (congrArg not e12)) (congrArg not e12)) .normal [(0,0)] (r2_Body.c1q a0 (!y13))) (by kernel_rfl)))) (fun e12 =>
   Owp.some (triple_way (r2_Body.cok k) hmix [rS T4 y4,fF,fF,fF,rS T4 y7,fF,fF,fF,fF,fF,rS T4 y10,fF,fF,tT,tT,tT,tT,tT,tT] [] [(0,0)] (via (finP (aI (aI (aI (aI (aI (aI (aI (aI (aI (aI (aI (aI (aI (aI (aI (aI trivial e5) (congrArg not e6)) (congrArg not e6)) (aI (congrArg not e6) e8)) (congrArg not e6)) (congrArg not e6)) (congrArg not e9)) (congrArg not e9)) (aI (congrArg not e9) e11)) (congrArg not e9)) (congrArg not e9)) (congrArg not e12)) (congrArg not e12)) (congrArg not e12)) (congrArg not e12)) (congrArg not e12)) .normal [(0,0)] (r2_Body.c1q a0 true)) (by kernel_rfl))))) (fun e9 =>
   Owp.some (triple_way (r2_Body.cok k) hmix [rS T4 y4,fF,fF,fF,rS T4 y7,fF,fF,tT,tT,tT,tT,tT,tT,tT,tT,tT,tT,tT,tT] [] [(0,0)] (via (finP (aI (aI (aI (aI (aI (aI (aI (aI (aI (aI (aI (aI (aI (aI (aI (aI trivial e5) (congrArg not e6)) (congrArg not e6)) (aI (congrArg not e6) e8)) (congrArg not e6)) (congrArg not e6)) (congrArg not e9)) (congrArg not e9)) (congrArg not e9)) (congrArg not e9)) (congrArg not e9)) tt) tt) tt) tt) tt) .normal [(0,0)] (r2_Body.c1q a0 true)) (by kernel_rfl))))) (fun e6 =>
   Owp.some (triple_way (r2_Body.cok k) hmix [rS T4 y4,tT,tT,tT,tT,tT,tT,tT,tT,tT,tT,tT,tT,tT,tT,tT,tT,tT,tT] [] [(0,0)] (via (finP (aI (aI (aI (aI (aI (aI (aI (aI (aI (aI (aI (aI (aI (aI (aI (aI trivial e5) (congrArg not e6)) (congrArg not e6)) (congrArg not e6)) (congrArg not e6)) (congrArg not e6)) tt) tt) tt) tt) tt) tt) tt) tt) tt) tt) .normal [(0,0)] (r2_Body.c1q a0 true)) (by kernel_rfl))))
noncomputable def r2_Body.c2p (a0:V25):SL:=⟨[(1,(.val .ptr ⟨0,0,(0:Int),0,0⟩))],[(0,.cells T25 a0)]⟩
noncomputable def r2_Body.c2q (a0:V25) (o:Bool):SL:=(fun v=>⟨[(1,(.val .ptr ⟨0,0,(0:Int),0,0⟩)),(60,(.val T4 v))],[(0,.cells T25 a0)]⟩) o
noncomputable def r2_Body.c2x (o:Bool):Ex:=(fun _=>.normal) o
noncomputable def r2_Body.c2n (o:Bool):Nat:=(fun _=>1) o
theorem r2_Body.c2_ok (k:Nat) (a0:V25):Owp (r2_Body.c2 k a0) fun o=>Triple PR (r2_Body.cx k) (sub r2_Body.code [1,1,1,0,0]) 1 (r2_Body.c2p a0) (r2_Body.c2x o) (r2_Body.c2n o) (r2_Body.c2q a0 o):=by
  unfold r2_Body.c2; exact
   Owp.bnd fun y18 e19 =>
   Owp.bif (fun e20 =>
   Owp.bnd fun y21 e22 =>
   Owp.bif (fun e23 =>
   Owp.bnd fun y24 e25 =>
   Owp.bif (fun e26 =>
   Owp.bnd fun y27 e28 =>
   Owp.bif (fun e29 =>
   Owp.bnd fun y30 e31 =>
   Owp.some (triple_way (r2_Body.cok k) hmix [rS T4 y18,fF,fF,fF,rS T4 y21,fF,fF,fF,fF,fF,rS T4 y24,fF,fF,fF,fF,fF,rS T4 y27,fF,fF,fF,fF,fF,rS T4 y30,fF,fF] [] [(0,0)] (via (finP (aI (aI (aI (aI (aI (aI (aI (aI (aI (aI (aI (aI (aI (aI (aI (aI (aI (aI (aI (aI (aI trivial e19) (congrArg not e20)) (congrArg not e20)) (aI (congrArg not e20) e22)) (congrArg not e20)) (congrArg not e20)) (congrArg not e23)) (congrArg not e23)) (aI (congrArg not e23) e25)) (congrArg not e23)) (congrArg not e23)) (congrArg not e26)) (congrArg not e26)) (aI (congrArg not e26) e28)) (congrArg not e26)) (congrArg not e26)) (congrArg not e29)) (congrArg not e29)) (aI (congrArg not e29) e31)) (congrArg not e29)) (congrArg not e29)) .normal [(0,0)] (r2_Body.c2q a0 (!y30))) (by kernel_rfl)))) (fun e29 =>
   Owp.some (triple_way (r2_Body.cok k) hmix [rS T4 y18,fF,fF,fF,rS T4 y21,fF,fF,fF,fF,fF,rS T4 y24,fF,fF,fF,fF,fF,rS T4 y27,fF,fF,tT,tT,tT,tT,tT,tT] [] [(0,0)] (via (finP (aI (aI (aI (aI (aI (aI (aI (aI (aI (aI (aI (aI (aI (aI (aI (aI (aI (aI (aI (aI (aI trivial e19) (congrArg not e20)) (congrArg not e20)) (aI (congrArg not e20) e22)) (congrArg not e20)) (congrArg not e20)) (congrArg not e23)) (congrArg not e23)) (aI (congrArg not e23) e25)) (congrArg not e23)) (congrArg not e23)) (congrArg not e26)) (congrArg not e26)) (aI (congrArg not e26) e28)) (congrArg not e26)) (congrArg not e26)) (congrArg not e29)) (congrArg not e29)) (congrArg not e29)) (congrArg not e29)) (congrArg not e29)) .normal [(0,0)] (r2_Body.c2q a0 true)) (by kernel_rfl))))) (fun e26 =>
   Owp.some (triple_way (r2_Body.cok k) hmix [rS T4 y18,fF,fF,fF,rS T4 y21,fF,fF,fF,fF,fF,rS T4 y24,fF,fF,tT,tT,tT,tT,tT,tT,tT,tT,tT,tT,tT,tT] [] [(0,0)] (via (finP (aI (aI (aI (aI (aI (aI (aI (aI (aI (aI (aI (aI (aI (aI (aI (aI (aI (aI (aI (aI (aI trivial e19) (congrArg not e20)) (congrArg not e20)) (aI (congrArg not e20) e22)) (congrArg not e20)) (congrArg not e20)) (congrArg not e23)) (congrArg not e23)) (aI (congrArg not e23) e25)) (congrArg not e23)) (congrArg not e23)) (congrArg not e26)) (congrArg not e26)) (congrArg not e26)) (congrArg not e26)) (congrArg not e26)) tt) tt) tt) tt) tt) .normal [(0,0)] (r2_Body.c2q a0 true)) (by kernel_rfl))))) (fun e23 =>
   Owp.some (triple_way (r2_Body.cok k) hmix [rS T4 y18,fF,fF,fF,rS T4 y21,fF,fF,tT,tT,tT,tT,tT,tT,tT,tT,tT,tT,tT,tT,tT,tT,tT,tT,tT,tT] [] [(0,0)] (via (finP (aI (aI (aI (aI (aI (aI (aI (aI (aI (aI (aI (aI (aI (aI (aI (aI (aI (aI (aI (aI (aI trivial e19) (congrArg not e20)) (congrArg not e20)) (aI (congrArg not e20) e22)) (congrArg not e20)) (congrArg not e20)) (congrArg not e23)) (congrArg not e23)) (congrArg not e23)) (congrArg not e23)) (congrArg not e23)) tt) tt) tt) tt) tt) tt) tt) tt) tt) tt) .normal [(0,0)] (r2_Body.c2q a0 true)) (by kernel_rfl))))) (fun e20 =>
   Owp.some (triple_way (r2_Body.cok k) hmix [rS T4 y18,tT,tT,tT,tT,tT,tT,tT,tT,tT,tT,tT,tT,tT,tT,tT,tT,tT,tT,tT,tT,tT,tT,tT,tT] [] [(0,0)] (via (finP (aI (aI (aI (aI (aI (aI (aI (aI (aI (aI (aI (aI (aI (aI (aI (aI (aI (aI (aI (aI (aI trivial e19) (congrArg not e20)) (congrArg not e20)) (congrArg not e20)) (congrArg not e20)) (congrArg not e20)) tt) tt) tt) tt) tt) tt) tt) tt) tt) tt) tt) tt) tt) tt) tt) .normal [(0,0)] (r2_Body.c2q a0 true)) (by kernel_rfl))))
noncomputable def r2_Body.c3p (a0:V25):SL:=⟨[(1,(.val .ptr ⟨0,0,(0:Int),0,0⟩))],[(0,.cells T25 a0)]⟩
noncomputable def r2_Body.c3q (a0:V25) (o:Bool):SL:=(fun v=>⟨[(1,(.val .ptr ⟨0,0,(0:Int),0,0⟩)),(4,(.val T4 v))],[(0,.cells T25 a0)]⟩) o
noncomputable def r2_Body.c3x (o:Bool):Ex:=(fun _=>.normal) o
noncomputable def r2_Body.c3n (o:Bool):Nat:=(fun _=>1) o
theorem r2_Body.c3_ok (k:Nat) (a0:V25):Owp (r2_Body.c3 k a0) fun o=>Triple PR (r2_Body.cx k) (sub r2_Body.code [1,1,1,1,0]) 1 (r2_Body.c3p a0) (r2_Body.c3x o) (r2_Body.c3n o) (r2_Body.c3q a0 o):=by
  unfold r2_Body.c3; exact
   Owp.bif (fun e35 =>
   Owp.some (triple_way (r2_Body.cok k) hmix [tT,tT,tT,tT,tT,tT,tT,tT,tT] [] [(0,0)] (via (finP (aI (aI (aI (aI (aI (aI (aI (aI (aI trivial e35) e35) e35) e35) e35) tt) tt) tt) tt) .normal [(0,0)] (r2_Body.c3q a0 true)) (by kernel_rfl)))) (fun e35 =>
   Owp.bif (fun e36 =>
   Owp.some (triple_way (r2_Body.cok k) hmix [fF,fF,fF,fF,fF,tT,tT,tT,tT] [] [(0,0)] (via (finP (aI (aI (aI (aI (aI (aI (aI (aI (aI trivial e35) e35) e35) e35) e35) e36) e36) e36) e36) .normal [(0,0)] (r2_Body.c3q a0 true)) (by kernel_rfl)))) (fun e36 =>
   Owp.some (triple_way (r2_Body.cok k) hmix [fF,fF,fF,fF,fF,fF,fF,fF,fF] [] [(0,0)] (via (finP (aI (aI (aI (aI (aI (aI (aI (aI (aI trivial e35) e35) e35) e35) e35) e36) e36) e36) e36) .normal [(0,0)] (r2_Body.c3q a0 (ine a0.2.2.2.1 (0:Int)))) (by kernel_rfl)))))
noncomputable def r2_Body.c4p (a0:V25) (o37:Bool):SL:=⟨[(1,(.val .ptr ⟨0,0,(0:Int),0,0⟩)),(4,(.val T4 o37))],[(0,.cells T25 a0)]⟩
noncomputable def r2_Body.c4q (a0:V25) (o37 o:Bool):SL:=(fun v=>⟨[(1,(.val .ptr ⟨0,0,(0:Int),0,0⟩)),(4,(.val T4 o37)),(76,(.val T4 v))],[(0,.cells T25 a0)]⟩) o
noncomputable def r2_Body.c4x (o:Bool):Ex:=(fun _=>.normal) o
noncomputable def r2_Body.c4n (o:Bool):Nat:=(fun _=>1) o
theorem r2_Body.c4_ok (k:Nat) (a0:V25) (o37:Bool):Owp (r2_Body.c4 k a0) fun o=>Triple PR (r2_Body.cx k) (sub r2_Body.code [1,1,1,1,1,0,0,0,0]) 1 (r2_Body.c4p a0 o37) (r2_Body.c4x o) (r2_Body.c4n o) (r2_Body.c4q a0 o37 o):=by
  unfold r2_Body.c4; exact
   Owp.bif (fun e39 =>
   Owp.some (triple_way (r2_Body.cok k) hmix [tT,tT,tT,tT] [] [(0,0)] (via (finP (aI (aI (aI (aI trivial e39) e39) e39) e39) .normal [(0,0)] (r2_Body.c4q a0 o37 (igt a0.2.2.2.2.2.1 (0:Int)))) (by kernel_rfl)))) (fun e39 =>
   Owp.some (triple_way (r2_Body.cok k) hmix [fF,fF,fF,fF] [] [(0,0)] (via (finP (aI (aI (aI (aI trivial e39) e39) e39) e39) .normal [(0,0)] (r2_Body.c4q a0 o37 false)) (by kernel_rfl))))
noncomputable def r2_Body.c5p (a0:V25) (o37 o40:Bool):SL:=⟨[(1,(.val .ptr ⟨0,0,(0:Int),0,0⟩)),(4,(.val T4 o37)),(76,(.val T4 o40))],[(0,.cells T25 a0)]⟩
noncomputable def r2_Body.c5q (a0:V25) (o37 o:Bool):SL:=(fun v=>⟨[(1,(.val .ptr ⟨0,0,(0:Int),0,0⟩)),(4,(.val T4 o37)),(76,(.val T4 v))],[(0,.cells T25 a0)]⟩) o
noncomputable def r2_Body.c5x (o:Bool):Ex:=(fun _=>.normal) o
noncomputable def r2_Body.c5n (o:Bool):Nat:=(fun _=>1) o
theorem r2_Body.c5_ok (k:Nat) (a0:V25) (o37 o40:Bool):Owp (r2_Body.c5 k a0 o40) fun o=>Triple PR (r2_Body.cx k) (sub r2_Body.code [1,1,1,1,1,0,0,0,1]) 1 (r2_Body.c5p a0 o37 o40) (r2_Body.c5x o) (r2_Body.c5n o) (r2_Body.c5q a0 o37 o):=by
  unfold r2_Body.c5; exact
   Owp.bif (fun e42 =>
   Owp.some (triple_way (r2_Body.cok k) hmix [tT] [] [(0,0)] (via (finP (aI trivial e42) .normal [(0,0)] (r2_Body.c5q a0 o37 o40)) (by kernel_rfl)))) (fun e42 =>
   Owp.bif (fun e43 =>
   Owp.some (triple_way (r2_Body.cok k) hmix [fF,tT,tT,tT,tT] [] [(0,0)] (via (finP (aI (aI (aI (aI (aI trivial e42) e43) e43) e43) e43) .normal [(0,0)] (r2_Body.c5q a0 o37 (ieq a0.2.2.2.2.2.1 (0:Int)))) (by kernel_rfl)))) (fun e43 =>
   Owp.some (triple_way (r2_Body.cok k) hmix [fF,fF,fF,fF,fF] [] [(0,0)] (via (finP (aI (aI (aI (aI (aI trivial e42) e43) e43) e43) e43) .normal [(0,0)] (r2_Body.c5q a0 o37 false)) (by kernel_rfl)))))
noncomputable def r2_Body.c6p (a0:V25) (o37:Bool):SL:=⟨[(1,(.val .ptr ⟨0,0,(0:Int),0,0⟩)),(4,(.val T4 o37))],[(0,.cells T25 a0)]⟩
noncomputable def r2_Body.c6q (a0:V25) (o37 o:Bool):SL:=(fun v=>⟨[(1,(.val .ptr ⟨0,0,(0:Int),0,0⟩)),(4,(.val T4 o37)),(93,(.val T4 v))],[(0,.cells T25 a0)]⟩) o
noncomputable def r2_Body.c6x (o:Bool):Ex:=(fun _=>.normal) o
noncomputable def r2_Body.c6n (o:Bool):Nat:=(fun _=>1) o
theorem r2_Body.c6_ok (k:Nat) (a0:V25) (o37:Bool):Owp (r2_Body.c6 k a0 o37) fun o=>Triple PR (r2_Body.cx k) (sub r2_Body.code [1,1,1,1,1,0,0,1,1,0]) 1 (r2_Body.c6p a0 o37) (r2_Body.c6x o) (r2_Body.c6n o) (r2_Body.c6q a0 o37 o):=by
  unfold r2_Body.c6; exact
   Owp.bif (fun e47 =>
   Owp.bif (fun e48 =>
   Owp.some (triple_way (r2_Body.cok k) hmix [tT,tT,tT,tT,tT,tT,tT,tT,tT,tT,tT,tT,tT] [] [(0,0)] (via (finP (aI (aI (aI (aI (aI (aI (aI (aI (aI (aI (aI trivial e47) e47) e48) e48) (aI e47 e48)) e47) tt) tt) tt) (aI e47 tt)) e47) .normal [(0,0)] (r2_Body.c6q a0 o37 true)) (by kernel_rfl)))) (fun e48 =>
   Owp.bif (fun e49 =>
   Owp.some (triple_way (r2_Body.cok k) hmix [tT,tT,fF,fF,tT,fF,tT,tT,tT,tT,tT,tT,tT] [] [(0,0)] (via (finP (aI (aI (aI (aI (aI (aI (aI (aI (aI (aI (aI trivial e47) e47) e48) e48) (aI e47 e48)) e47) e49) e49) e49) (aI e47 e49)) e47) .normal [(0,0)] (r2_Body.c6q a0 o37 true)) (by kernel_rfl)))) (fun e49 =>
   Owp.some (triple_way (r2_Body.cok k) hmix [tT,tT,fF,fF,tT,fF,tT,fF,fF,fF,tT,fF,tT] [] [(0,0)] (via (finP (aI (aI (aI (aI (aI (aI (aI (aI (aI (aI (aI trivial e47) e47) e48) e48) (aI e47 e48)) e47) e49) e49) e49) (aI e47 e49)) e47) .normal [(0,0)] (r2_Body.c6q a0 o37 (igt a0.2.2.2.2.2.2.2.2.2.2.1 (0:Int)))) (by kernel_rfl)))))) (fun e47 =>
   Owp.some (triple_way (r2_Body.cok k) hmix [fF,fF,tT,tT,fF,tT,fF,tT,tT,tT,fF,tT,fF] [] [(0,0)] (via (finP (aI (aI (aI (aI (aI (aI trivial e47) e47) e47) e47) e47) e47) .normal [(0,0)] (r2_Body.c6q a0 o37 false)) (by kernel_rfl))))
noncomputable def r2_Body.c7p (a0:V25) (o37:Bool):SL:=⟨[(1,(.val .ptr ⟨0,0,(0:Int),0,0⟩)),(4,(.val T4 o37))],[(0,.cells T25 a0)]⟩
noncomputable def r2_Body.c7q (o:Bool):SL:=(fun v=>⟨[(109,(.val T4 v))],[]⟩) o
noncomputable def r2_Body.c7x (o:Bool):Ex:=(fun _=>.normal) o
noncomputable def r2_Body.c7n (o:Bool):Nat:=(fun _=>0) o
theorem r2_Body.c7_ok (k:Nat) (a0:V25) (o37:Bool):Owp (r2_Body.c7 k a0 o37) fun o=>Triple PR (r2_Body.cx k) (sub r2_Body.code [1,1,1,1,1,0,0,1,1,1,1,0]) 1 (r2_Body.c7p a0 o37) (r2_Body.c7x o) (r2_Body.c7n o) (r2_Body.c7q o):=by
  unfold r2_Body.c7; exact
   Owp.bif (fun e53 =>
   Owp.some (triple_way (r2_Body.cok k) hmix [tT,tT] [] [] (via (finP (aI (aI trivial e53) e53) .normal [] (r2_Body.c7q o37)) (by kernel_rfl)))) (fun e53 =>
   Owp.some (triple_way (r2_Body.cok k) hmix [fF,fF] [] [] (via (finP (aI (aI trivial e53) e53) .normal [] (r2_Body.c7q false)) (by kernel_rfl))))
theorem r2_Body.way (k:Nat) (a0:V25):Owp (r2_Body k a0) fun y=>∃ w c0,exec PR (r2_Body.cx k) r2_Body.code 0 (entry (.pair T25 .unit) (a0,())).st w (Ret (r2_Body.cx k) Tryz.f8 c0 (.one (.dp T2)) y):=by
  unfold r2_Body; exact
   Owp.bnd fun y1 e2 =>
   Owp.bif (fun e3 =>
   Owp.some (⟨[rS T2 y1,tT],[],via (retP (aI (aI trivial e2) e3) (.one (.dp T2)) (y1:Int)) (by kernel_rfl)⟩)) (fun e3 =>
   Owp.bnd fun o15 e16 =>
   Owp.bif (fun e17 =>
   Owp.some (⟨[rS T2 y1,fF,.cutR 4 ⟨[],[(0,0)],(r2_Body.c1p a0),1,.normal,(r2_Body.c1q a0 o15),1⟩,tT],[],via (cutP (aI (aI trivial e2) e3) [(0,0)] (r2_Body.c1p a0) (((r2_Body.c1_ok k a0).ap e16)) (retP (aI trivial e17) (.one (.dp T2)) ((1:Int):Int))) (by kernel_rfl)⟩)) (fun e17 =>
   Owp.bnd fun o32 e33 =>
   Owp.bif (fun e34 =>
   Owp.some (⟨[rS T2 y1,fF,.cutR 4 ⟨[],[(0,0)],(r2_Body.c1p a0),1,.normal,(r2_Body.c1q a0 o15),1⟩,fF,.cutR 6 ⟨[],[(0,0)],(r2_Body.c2p a0),1,.normal,(r2_Body.c2q a0 o32),1⟩,tT],[],via (cutP (aI (aI trivial e2) e3) [(0,0)] (r2_Body.c1p a0) (((r2_Body.c1_ok k a0).ap e16)) (cutP (aI trivial e17) [(0,0)] (r2_Body.c2p a0) (((r2_Body.c2_ok k a0).ap e33)) (retP (aI trivial e34) (.one (.dp T2)) ((1:Int):Int)))) (by kernel_rfl)⟩)) (fun e34 =>
   Owp.bnd fun o37 e38 =>
   Owp.bnd fun o40 e41 =>
   Owp.bnd fun o44 e45 =>
   Owp.bif (fun e46 =>
   Owp.some (⟨[rS T2 y1,fF,.cutR 4 ⟨[],[(0,0)],(r2_Body.c1p a0),1,.normal,(r2_Body.c1q a0 o15),1⟩,fF,.cutR 6 ⟨[],[(0,0)],(r2_Body.c2p a0),1,.normal,(r2_Body.c2q a0 o32),1⟩,fF,.cutR 8 ⟨[],[(0,0)],(r2_Body.c3p a0),1,.normal,(r2_Body.c3q a0 o37),1⟩,.cutR 9 ⟨[],[(0,0)],(r2_Body.c4p a0 o37),1,.normal,(r2_Body.c4q a0 o37 o40),1⟩,.cut ⟨[],[(0,0)],(r2_Body.c5p a0 o37 o40),1,.normal,(r2_Body.c5q a0 o37 o44),1⟩,tT],[],via (cutP (aI (aI trivial e2) e3) [(0,0)] (r2_Body.c1p a0) (((r2_Body.c1_ok k a0).ap e16)) (cutP (aI trivial e17) [(0,0)] (r2_Body.c2p a0) (((r2_Body.c2_ok k a0).ap e33)) (cutP (aI trivial e34) [(0,0)] (r2_Body.c3p a0) (((r2_Body.c3_ok k a0).ap e38)) (cutP trivial [(0,0)] (r2_Body.c4p a0 o37) (((r2_Body.c4_ok k a0 o37).ap e41)) (cutP trivial [(0,0)] (r2_Body.c5p a0 o37 o40) (((r2_Body.c5_ok k a0 o37 o40).ap e45)) (retP (aI trivial e46) (.one (.dp T2)) ((3:Int):Int))))))) (by kernel_rfl)⟩)) (fun e46 =>
   Owp.bnd fun o50 e51 =>
   Owp.bif (fun e52 =>
   Owp.some (⟨[rS T2 y1,fF,.cutR 4 ⟨[],[(0,0)],(r2_Body.c1p a0),1,.normal,(r2_Body.c1q a0 o15),1⟩,fF,.cutR 6 ⟨[],[(0,0)],(r2_Body.c2p a0),1,.normal,(r2_Body.c2q a0 o32),1⟩,fF,.cutR 8 ⟨[],[(0,0)],(r2_Body.c3p a0),1,.normal,(r2_Body.c3q a0 o37),1⟩,.cutR 9 ⟨[],[(0,0)],(r2_Body.c4p a0 o37),1,.normal,(r2_Body.c4q a0 o37 o40),1⟩,.cut ⟨[],[(0,0)],(r2_Body.c5p a0 o37 o40),1,.normal,(r2_Body.c5q a0 o37 o44),1⟩,fF,.cutR 12 ⟨[],[(0,0)],(r2_Body.c6p a0 o37),1,.normal,(r2_Body.c6q a0 o37 o50),1⟩,tT],[],via (cutP (aI (aI trivial e2) e3) [(0,0)] (r2_Body.c1p a0) (((r2_Body.c1_ok k a0).ap e16)) (cutP (aI trivial e17) [(0,0)] (r2_Body.c2p a0) (((r2_Body.c2_ok k a0).ap e33)) (cutP (aI trivial e34) [(0,0)] (r2_Body.c3p a0) (((r2_Body.c3_ok k a0).ap e38)) (cutP trivial [(0,0)] (r2_Body.c4p a0 o37) (((r2_Body.c4_ok k a0 o37).ap e41)) (cutP trivial [(0,0)] (r2_Body.c5p a0 o37 o40) (((r2_Body.c5_ok k a0 o37 o40).ap e45)) (cutP (aI trivial e46) [(0,0)] (r2_Body.c6p a0 o37) (((r2_Body.c6_ok k a0 o37).ap e51)) (retP (aI trivial e52) (.one (.dp T2)) ((3:Int):Int)))))))) (by kernel_rfl)⟩)) (fun e52 =>
   Owp.bnd fun o54 e55 =>
   Owp.bif (fun e56 =>
   Owp.some (⟨[rS T2 y1,fF,.cutR 4 ⟨[],[(0,0)],(r2_Body.c1p a0),1,.normal,(r2_Body.c1q a0 o15),1⟩,fF,.cutR 6 ⟨[],[(0,0)],(r2_Body.c2p a0),1,.normal,(r2_Body.c2q a0 o32),1⟩,fF,.cutR 8 ⟨[],[(0,0)],(r2_Body.c3p a0),1,.normal,(r2_Body.c3q a0 o37),1⟩,.cutR 9 ⟨[],[(0,0)],(r2_Body.c4p a0 o37),1,.normal,(r2_Body.c4q a0 o37 o40),1⟩,.cut ⟨[],[(0,0)],(r2_Body.c5p a0 o37 o40),1,.normal,(r2_Body.c5q a0 o37 o44),1⟩,fF,.cutR 12 ⟨[],[(0,0)],(r2_Body.c6p a0 o37),1,.normal,(r2_Body.c6q a0 o37 o50),1⟩,fF,.cutR 14 ⟨[],[(0,0)],(r2_Body.c7p a0 o37),1,.normal,(r2_Body.c7q o54),0⟩,tT],[],via (cutP (aI (aI trivial e2) e3) [(0,0)] (r2_Body.c1p a0) (((r2_Body.c1_ok k a0).ap e16)) (cutP (aI trivial e17) [(0,0)] (r2_Body.c2p a0) (((r2_Body.c2_ok k a0).ap e33)) (cutP (aI trivial e34) [(0,0)] (r2_Body.c3p a0) (((r2_Body.c3_ok k a0).ap e38)) (cutP trivial [(0,0)] (r2_Body.c4p a0 o37) (((r2_Body.c4_ok k a0 o37).ap e41)) (cutP trivial [(0,0)] (r2_Body.c5p a0 o37 o40) (((r2_Body.c5_ok k a0 o37 o40).ap e45)) (cutP (aI trivial e46) [(0,0)] (r2_Body.c6p a0 o37) (((r2_Body.c6_ok k a0 o37).ap e51)) (cutP (aI trivial e52) [(0,0)] (r2_Body.c7p a0 o37) (((r2_Body.c7_ok k a0 o37).ap e55)) (retP (aI trivial e56) (.one (.dp T2)) ((3:Int):Int))))))))) (by kernel_rfl)⟩)) (fun e56 =>
   Owp.some (⟨[rS T2 y1,fF,.cutR 4 ⟨[],[(0,0)],(r2_Body.c1p a0),1,.normal,(r2_Body.c1q a0 o15),1⟩,fF,.cutR 6 ⟨[],[(0,0)],(r2_Body.c2p a0),1,.normal,(r2_Body.c2q a0 o32),1⟩,fF,.cutR 8 ⟨[],[(0,0)],(r2_Body.c3p a0),1,.normal,(r2_Body.c3q a0 o37),1⟩,.cutR 9 ⟨[],[(0,0)],(r2_Body.c4p a0 o37),1,.normal,(r2_Body.c4q a0 o37 o40),1⟩,.cut ⟨[],[(0,0)],(r2_Body.c5p a0 o37 o40),1,.normal,(r2_Body.c5q a0 o37 o44),1⟩,fF,.cutR 12 ⟨[],[(0,0)],(r2_Body.c6p a0 o37),1,.normal,(r2_Body.c6q a0 o37 o50),1⟩,fF,.cutR 14 ⟨[],[(0,0)],(r2_Body.c7p a0 o37),1,.normal,(r2_Body.c7q o54),0⟩,fF],[],via (cutP (aI (aI trivial e2) e3) [(0,0)] (r2_Body.c1p a0) (((r2_Body.c1_ok k a0).ap e16)) (cutP (aI trivial e17) [(0,0)] (r2_Body.c2p a0) (((r2_Body.c2_ok k a0).ap e33)) (cutP (aI trivial e34) [(0,0)] (r2_Body.c3p a0) (((r2_Body.c3_ok k a0).ap e38)) (cutP trivial [(0,0)] (r2_Body.c4p a0 o37) (((r2_Body.c4_ok k a0 o37).ap e41)) (cutP trivial [(0,0)] (r2_Body.c5p a0 o37 o40) (((r2_Body.c5_ok k a0 o37 o40).ap e45)) (cutP (aI trivial e46) [(0,0)] (r2_Body.c6p a0 o37) (((r2_Body.c6_ok k a0 o37).ap e51)) (cutP (aI trivial e52) [(0,0)] (r2_Body.c7p a0 o37) (((r2_Body.c7_ok k a0 o37).ap e55)) (retP (aI trivial e56) (.one (.dp T2)) ((0:Int):Int))))))))) (by kernel_rfl)⟩)))))))
theorem r2_Body.ok (k:Nat):FnOk PR 8 (r2_Body.sp k) :=
  fn_ok (r2_Body.cok k) hmix Tryz.func8 (code:=r2_Body.code) (by kernel_rfl) (by kernel_rfl) (by kernel_rfl) rfl (by kernel_rfl) (by kernel_rfl) (by kernel_rfl) (fun x=>Nat.le_of_ble_eq_true (by kernel_rfl)) fun x y hy=>(r2_Body.way k x.1).ap hy
noncomputable def r2_Free.code:Code:=Func.cd Tryz.f26
def r2_Free (k:Nat) (a0:V25):Option Bool :=
  bif' (ine a0.2.2.2.2.1 0)
  (some (!a0.2.2.2.2.2.2.2.2.2.1))
  (some false)
noncomputable def r2_Free.sp (k:Nat):Go.Sx.Spec:=⟨(.pair T25 .unit),(.one (.dp T4)),fun x=>r2_Free k x.1,false⟩
noncomputable def r2_Free.cx (k:Nat):Go.Sx.Ctx:=⟨tys,[],eqs,11,false⟩
theorem r2_Free.cok (k:Nat):CtxOk PR (r2_Free.cx k):=ctx_ok tysOk eqsOk FnsOk.nil
theorem r2_Free.way (k:Nat) (a0:V25):Owp (r2_Free k a0) fun y=>∃ w c0,exec PR (r2_Free.cx k) r2_Free.code 0 (entry (.pair T25 .unit) (a0,())).st w (Ret (r2_Free.cx k) Tryz.f26 c0 (.one (.dp T4)) y):=by
  unfold r2_Free; exact
   Owp.bif (fun e1 =>
   Owp.some (⟨[tT,tT,tT,tT],[],via (retP (aI (aI (aI (aI trivial e1) e1) e1) e1) (.one (.dp T4)) ((!a0.2.2.2.2.2.2.2.2.2.1):Bool)) (by kernel_rfl)⟩)) (fun e1 =>
   Owp.some (⟨[fF,fF,fF,fF],[],via (retP (aI (aI (aI (aI trivial e1) e1) e1) e1) (.one (.dp T4)) (false:Bool)) (by kernel_rfl)⟩))
theorem r2_Free.ok (k:Nat):FnOk PR 26 (r2_Free.sp k) :=
  fn_ok (r2_Free.cok k) hmix Tryz.func26 (code:=r2_Free.code) (by kernel_rfl) (by kernel_rfl) (by kernel_rfl) rfl (by kernel_rfl) (by kernel_rfl) (by kernel_rfl) (fun x=>Nat.le_of_ble_eq_true (by kernel_rfl)) fun x y hy=>(r2_Free.way k x.1).ap hy
noncomputable def slices_Max.code:Code:=Func.cd Tryz.f55
def slices_Max.c1 (k:Nat) (a0:(List Int)):Nat → Int → Int → Option (Int)
  | 0,_,_=>none
  | n+1,v3,v4 =>
   bif' (ilt v4 (len a0))
   (req (inL v4 a0) <|
   slices_Max.c1 k a0 n (imax v3 (el 0 a0 v4)) (iadd .i64 v4 1))
   (some v3)
def slices_Max (k:Nat) (a0:(List Int)):Option Int :=
  bif' (ilt (len a0) 1)
  (none)
  (req (inL 0 a0) <|
   bnd (slices_Max.c1 k a0 k (el 0 a0 0) 1) fun o7 =>
   some o7)
noncomputable def slices_Max.sp (k:Nat):Go.Sx.Spec:=⟨(.pair T78 .unit),(.one (.dp T2)),fun x=>slices_Max k x.1,false⟩
noncomputable def slices_Max.cx (k:Nat):Go.Sx.Ctx:=⟨tys,[],eqs,25,false⟩
theorem slices_Max.cok (k:Nat):CtxOk PR (slices_Max.cx k):=ctx_ok tysOk eqsOk FnsOk.nil
noncomputable def slices_Max.c1p (a0:(List Int)) (v3 v4:Int):SL:=⟨[(0,(.val T78 a0)),(3,(.val T2 v3)),(4,(.val T2 v4))],[]⟩
noncomputable def slices_Max.c1q (o:Int):SL:=(fun v=>⟨[(3,(.val T2 v))],[]⟩) o
noncomputable def slices_Max.c1x (o:Int):Ex:=(fun _=>(.exit 0)) o
noncomputable def slices_Max.c1n (o:Int):Nat:=(fun _=>0) o
theorem slices_Max.c1_ok (k:Nat) (a0:(List Int)):∀ (n:Nat) (v3 v4:Int),Owp (slices_Max.c1 k a0 n v3 v4) fun o=>LTriple PR (slices_Max.cx k) (sub slices_Max.code [1,1,1,0,1,0,0]) 0 (slices_Max.c1p a0 v3 v4) (slices_Max.c1x o) (slices_Max.c1n o) (slices_Max.c1q o)
  | 0,_,_=>fun _ h=>nomatch h
  | n+1,v3,v4=>Owp.of (slices_Max.c1.eq_2 ..) (
   Owp.bif (fun e5 =>
   Owp.req fun h6 =>
   fun y hy=>loop_back (slices_Max.cok k) hmix 0 (slices_Max.c1p a0 (imax v3 (el (0:Int) a0 v4)) (iadd .i64 v4 (1:Int))) [tT] [] [] (via (finP (aI (aI trivial e5) h6) .normal [] (slices_Max.c1p a0 (imax v3 (el (0:Int) a0 v4)) (iadd .i64 v4 (1:Int)))) (by kernel_rfl)) ((slices_Max.c1_ok k a0 n (imax v3 (el (0:Int) a0 v4)) (iadd .i64 v4 (1:Int))).ap hy)) (fun e5 =>
   Owp.some (loop_exit (slices_Max.cok k) hmix [fF] [] [] (exne 0) (via (finP (aI trivial e5) (.exit 0) [] (slices_Max.c1q v3)) (by kernel_rfl)))))
theorem slices_Max.way (k:Nat) (a0:(List Int)):Owp (slices_Max k a0) fun y=>∃ w c0,exec PR (slices_Max.cx k) slices_Max.code 0 (entry (.pair T78 .unit) (a0,())).st w (Ret (slices_Max.cx k) Tryz.f55 c0 (.one (.dp T2)) y):=by
  unfold slices_Max; exact
   Owp.bif (fun e1 =>
   Owp.none) (fun e1 =>
   Owp.req fun h2 =>
   Owp.bnd fun o7 e8 =>
   Owp.some (⟨[fF,.cut ⟨[],[],(slices_Max.c1p a0 (el (0:Int) a0 (0:Int)) (1:Int)),0,(.exit 0),(slices_Max.c1q o7),0⟩],[],via (cutP (aI (aI trivial e1) h2) [] (slices_Max.c1p a0 (el (0:Int) a0 (0:Int)) (1:Int)) (((slices_Max.c1_ok k a0 k (el (0:Int) a0 (0:Int)) (1:Int)).ap e8).triple) (retP trivial (.one (.dp T2)) (o7:Int))) (by kernel_rfl)⟩))
theorem slices_Max.ok (k:Nat):FnOk PR 55 (slices_Max.sp k) :=
  fn_ok (slices_Max.cok k) hmix Tryz.func55 (code:=slices_Max.code) (by kernel_rfl) (by kernel_rfl) (by kernel_rfl) rfl (by kernel_rfl) (by kernel_rfl) (by kernel_rfl) (fun x=>Nat.le_of_ble_eq_true (by kernel_rfl)) fun x y hy=>(slices_Max.way k x.1).ap hy
noncomputable def r2_reachOf.code:Code:=Func.cd Tryz.f27
def r2_reachOf.c1 (k:Nat) (a0:V25):Nat → Int → (List Int) → Option ((List Int))
  | 0,_,_=>none
  | n+1,v1,v2 =>
   bif' (ilt v1 (len a0.2.2.2.2.2.2.2.2.1))
   (req (inL v1 a0.2.2.2.2.2.2.2.2.1) <|
   bnd (vec_Len k (el Z22 a0.2.2.2.2.2.2.2.2.1 v1)) fun y5 =>
   req (room 8 v2 [y5]) <|
   r2_reachOf.c1 k a0 n (iadd .i64 v1 1) (v2 ++ [y5]))
   (some v2)
def r2_reachOf (k:Nat) (a0:V25):Option Int :=
  bnd (r2_reachOf.c1 k a0 k 0 []) fun o8 =>
  bnd (slices_Max k o8) fun y10 =>
  some (iadd .i64 y10 2)
noncomputable def r2_reachOf.sp (k:Nat):Go.Sx.Spec:=⟨(.pair T25 .unit),(.one (.dp T2)),fun x=>r2_reachOf k x.1,false⟩
noncomputable def r2_reachOf.cx (k:Nat):Go.Sx.Ctx:=⟨tys,[(15,vec_Len.sp k),(55,slices_Max.sp k)],eqs,22,false⟩
theorem r2_reachOf.cok (k:Nat):CtxOk PR (r2_reachOf.cx k):=ctx_ok tysOk eqsOk (FnsOk.cons (vec_Len.ok k) (FnsOk.cons (slices_Max.ok k) FnsOk.nil))
noncomputable def r2_reachOf.c1p (a0:V25) (v1:Int) (v2:(List Int)):SL:=⟨[(3,(.val .own (0:Nat))),(7,(.val T24 a0.2.2.2.2.2.2.2.2.1)),(8,(.val T2 (len a0.2.2.2.2.2.2.2.2.1))),(9,(.val T2 v1))],[(0,.row T2 v2 3)]⟩
noncomputable def r2_reachOf.c1q (o:(List Int)):SL:=(fun v=>⟨[(3,(.val .own (0:Nat)))],[(0,.row T2 v 3)]⟩) o
noncomputable def r2_reachOf.c1x (o:(List Int)):Ex:=(fun _=>(.exit 0)) o
noncomputable def r2_reachOf.c1n (o:(List Int)):Nat:=(fun _=>1) o
theorem r2_reachOf.c1_ok (k:Nat) (a0:V25):∀ (n:Nat) (v1:Int) (v2:(List Int)),Owp (r2_reachOf.c1 k a0 n v1 v2) fun o=>LTriple PR (r2_reachOf.cx k) (sub r2_reachOf.code [1,1,0,1,0,0]) 1 (r2_reachOf.c1p a0 v1 v2) (r2_reachOf.c1x o) (r2_reachOf.c1n o) (r2_reachOf.c1q o)
  | 0,_,_=>fun _ h=>nomatch h
  | n+1,v1,v2=>Owp.of (r2_reachOf.c1.eq_2 ..) (
   Owp.bif (fun e3 =>
   Owp.req fun h4 =>
   Owp.bnd fun y5 e6 =>
   Owp.req fun h7 =>
   fun y hy=>loop_back (r2_reachOf.cok k) hmix 1 (r2_reachOf.c1p a0 (iadd .i64 v1 (1:Int)) (v2 ++ [y5])) [tT,rS T2 y5,tT] [] [(0,10)] (via (finP (aI (aI (aI (aI trivial e3) h4) e6) h7) .normal [(0,10)] (r2_reachOf.c1p a0 (iadd .i64 v1 (1:Int)) (v2 ++ [y5]))) (by kernel_rfl)) ((r2_reachOf.c1_ok k a0 n (iadd .i64 v1 (1:Int)) (v2 ++ [y5])).ap hy)) (fun e3 =>
   Owp.some (loop_exit (r2_reachOf.cok k) hmix [fF] [] [(0,0)] (exne 0) (via (finP (aI trivial e3) (.exit 0) [(0,0)] (r2_reachOf.c1q v2)) (by kernel_rfl)))))
theorem r2_reachOf.way (k:Nat) (a0:V25):Owp (r2_reachOf k a0) fun y=>∃ w c0,exec PR (r2_reachOf.cx k) r2_reachOf.code 0 (entry (.pair T25 .unit) (a0,())).st w (Ret (r2_reachOf.cx k) Tryz.f27 c0 (.one (.dp T2)) y):=by
  unfold r2_reachOf; exact
   Owp.bnd fun o8 e9 =>
   Owp.bnd fun y10 e11 =>
   Owp.some (⟨[.cut ⟨[.own 3 T2 3],[(0,7)],(r2_reachOf.c1p a0 (0:Int) []),1,(.exit 0),(r2_reachOf.c1q o8),1⟩,rS T2 y10],[],via (cutP trivial [(0,7)] (r2_reachOf.c1p a0 (0:Int) []) (((r2_reachOf.c1_ok k a0 k (0:Int) []).ap e9).triple) (retP (aI trivial e11) (.one (.dp T2)) ((iadd .i64 y10 (2:Int)):Int))) (by kernel_rfl)⟩)
theorem r2_reachOf.ok (k:Nat):FnOk PR 27 (r2_reachOf.sp k) :=
  fn_ok (r2_reachOf.cok k) hmix Tryz.func27 (code:=r2_reachOf.code) (by kernel_rfl) (by kernel_rfl) (by kernel_rfl) rfl (by kernel_rfl) (by kernel_rfl) (by kernel_rfl) (fun x=>Nat.le_of_ble_eq_true (by kernel_rfl)) fun x y hy=>(r2_reachOf.way k x.1).ap hy
noncomputable def r2_Bound.code:Code:=Func.cd Tryz.f10
def r2_Bound.c2 (k:Nat) (a0 a1:V25) (v8:Int):Option (Int) :=
  bif' (ilt (el Z25 [a0,a1] v8).2.2.2.1 0)
  (some (ineg .i64 (el Z25 [a0,a1] v8).2.2.2.1))
  (some (el Z25 [a0,a1] v8).2.2.2.1)
def r2_Bound.c1 (k:Nat) (a0 a1:V25) (a2:Int):Nat → Int → Int → Option (Int)
  | 0,_,_=>none
  | n+1,v7,v8 =>
   bif' (ilt v8 (len [a0,a1]))
   (req (inL v8 [a0,a1]) <|
   bnd (r2_Free k (el Z25 [a0,a1] v8)) fun y11 =>
   bif' y11
   (bnd (r2_Bound.c2 k a0 a1 v8) fun o15 =>
   bnd (fix_Mul k o15 411775) fun y17 =>
   bnd (r2_reachOf k (el Z25 [a0,a1] v8)) fun y19 =>
   bnd (fix_Mul k y17 y19) fun y21 =>
   bnd (fix_Mul k y21 a2) fun y23 =>
   r2_Bound.c1 k a0 a1 a2 n (iadd .i64 v7 (iadd .i64 4 y23)) (iadd .i64 v8 1))
   (r2_Bound.c1 k a0 a1 a2 n v7 (iadd .i64 v8 1)))
   (some v7)
def r2_Bound (k:Nat) (a0 a1:V25) (a2:Int):Option Int :=
  bnd (vec_Len k a0.2.1) fun y1 =>
  bnd (vec_Len k a1.2.1) fun y3 =>
  bnd (fix_Mul k (iadd .i64 (iadd .i64 y1 y3) 4) a2) fun y5 =>
  bnd (r2_Bound.c1 k a0 a1 a2 k (iadd .i64 y5 8) 0) fun o25 =>
  some o25
noncomputable def r2_Bound.sp (k:Nat):Go.Sx.Spec:=⟨(.pair T25 (.pair T25 (.pair T2 .unit))),(.one (.dp T2)),fun x=>r2_Bound k x.1 x.2.1 x.2.2.1,false⟩
noncomputable def r2_Bound.cx (k:Nat):Go.Sx.Ctx:=⟨tys,[(15,vec_Len.sp k),(14,fix_Mul.sp k),(26,r2_Free.sp k),(27,r2_reachOf.sp k)],eqs,51,false⟩
theorem r2_Bound.cok (k:Nat):CtxOk PR (r2_Bound.cx k):=ctx_ok tysOk eqsOk (FnsOk.cons (vec_Len.ok k) (FnsOk.cons (fix_Mul.ok k) (FnsOk.cons (r2_Free.ok k) (FnsOk.cons (r2_reachOf.ok k) FnsOk.nil))))
noncomputable def r2_Bound.c2p (a0 a1:V25) (a2 v7 v8:Int):SL:=⟨[(2,(.val T2 a2)),(7,(.val T2 v7)),(9,(.val .ptr ⟨0,0,(0:Int),0,0⟩)),(10,(.val T2 (el Z25 [a0,a1] v8).2.2.2.1)),(24,(.val .own (1:Nat))),(25,(.val T2 (len [a0,a1]))),(26,(.val T2 v8)),(36,(.val T4 (ilt (el Z25 [a0,a1] v8).2.2.2.1 (0:Int))))],[(0,.cells T25 (el Z25 [a0,a1] v8)),(1,.row T25 [a0,a1] 26)]⟩
noncomputable def r2_Bound.c2q (a0 a1:V25) (a2 v7 v8 o:Int):SL:=(fun v=>⟨[(2,(.val T2 a2)),(7,(.val T2 v7)),(9,(.val .ptr ⟨0,0,(0:Int),0,0⟩)),(10,(.val T2 v)),(24,(.val .own (1:Nat))),(25,(.val T2 (len [a0,a1]))),(26,(.val T2 v8))],[(0,.cells T25 (el Z25 [a0,a1] v8)),(1,.row T25 [a0,a1] 26)]⟩) o
noncomputable def r2_Bound.c2x (o:Int):Ex:=(fun _=>.normal) o
noncomputable def r2_Bound.c2n (o:Int):Nat:=(fun _=>2) o
theorem r2_Bound.c2_ok (k:Nat) (a0 a1:V25) (a2 v7 v8:Int):Owp (r2_Bound.c2 k a0 a1 v8) fun o=>Triple PR (r2_Bound.cx k) (sub r2_Bound.code [1,1,0,1,0,0,1,1,0,0,1,1,1,0,1]) 2 (r2_Bound.c2p a0 a1 a2 v7 v8) (r2_Bound.c2x o) (r2_Bound.c2n o) (r2_Bound.c2q a0 a1 a2 v7 v8 o):=by
  unfold r2_Bound.c2; exact
   Owp.bif (fun e14 =>
   Owp.some (triple_way (r2_Bound.cok k) hmix [tT] [] [(0,0),(1,1)] (via (finP (aI trivial e14) .normal [(0,0),(1,1)] (r2_Bound.c2q a0 a1 a2 v7 v8 (ineg .i64 (el Z25 [a0,a1] v8).2.2.2.1))) (by kernel_rfl)))) (fun e14 =>
   Owp.some (triple_way (r2_Bound.cok k) hmix [fF] [] [(0,0),(1,1)] (via (finP (aI trivial e14) .normal [(0,0),(1,1)] (r2_Bound.c2q a0 a1 a2 v7 v8 (el Z25 [a0,a1] v8).2.2.2.1)) (by kernel_rfl))))
noncomputable def r2_Bound.c1p (a0 a1:V25) (a2 v7 v8:Int):SL:=⟨[(2,(.val T2 a2)),(7,(.val T2 v7)),(24,(.val .own (0:Nat))),(25,(.val T2 (len [a0,a1]))),(26,(.val T2 v8))],[(0,.row T25 [a0,a1] 26)]⟩
noncomputable def r2_Bound.c1q (o:Int):SL:=(fun v=>⟨[(7,(.val T2 v))],[]⟩) o
noncomputable def r2_Bound.c1x (o:Int):Ex:=(fun _=>(.exit 0)) o
noncomputable def r2_Bound.c1n (o:Int):Nat:=(fun _=>0) o
theorem r2_Bound.c1_ok (k:Nat) (a0 a1:V25) (a2:Int):∀ (n:Nat) (v7 v8:Int),Owp (r2_Bound.c1 k a0 a1 a2 n v7 v8) fun o=>LTriple PR (r2_Bound.cx k) (sub r2_Bound.code [1,1,0,1,0,0]) 1 (r2_Bound.c1p a0 a1 a2 v7 v8) (r2_Bound.c1x o) (r2_Bound.c1n o) (r2_Bound.c1q o)
  | 0,_,_=>fun _ h=>nomatch h
  | n+1,v7,v8=>Owp.of (r2_Bound.c1.eq_2 ..) (
   Owp.bif (fun e9 =>
   Owp.req fun h10 =>
   Owp.bnd fun y11 e12 =>
   Owp.bif (fun e13 =>
   Owp.bnd fun o15 e16 =>
   Owp.bnd fun y17 e18 =>
   Owp.bnd fun y19 e20 =>
   Owp.bnd fun y21 e22 =>
   Owp.bnd fun y23 e24 =>
   fun y hy=>loop_back (r2_Bound.cok k) hmix 1 (r2_Bound.c1p a0 a1 a2 (iadd .i64 v7 (iadd .i64 (4:Int) y23)) (iadd .i64 v8 (1:Int))) [tT,rS T4 y11,fF,.cut ⟨[],[(0,4),(1,0)],(r2_Bound.c2p a0 a1 a2 v7 v8),2,.normal,(r2_Bound.c2q a0 a1 a2 v7 v8 o15),2⟩,rS T2 y17,rS T2 y19,rS T2 y21,rS T2 y23] [] [(0,1)] (via (cutP (aI (aI (aI (aI (aI trivial e9) h10) h10) e12) (congrArg not e13)) [(0,4),(1,0)] (r2_Bound.c2p a0 a1 a2 v7 v8) (((r2_Bound.c2_ok k a0 a1 a2 v7 v8).ap e16)) (finP (aI (aI (aI (aI trivial e18) e20) e22) e24) .normal [(0,1)] (r2_Bound.c1p a0 a1 a2 (iadd .i64 v7 (iadd .i64 (4:Int) y23)) (iadd .i64 v8 (1:Int))))) (by kernel_rfl)) ((r2_Bound.c1_ok k a0 a1 a2 n (iadd .i64 v7 (iadd .i64 (4:Int) y23)) (iadd .i64 v8 (1:Int))).ap hy)) (fun e13 =>
   fun y hy=>loop_back (r2_Bound.cok k) hmix 1 (r2_Bound.c1p a0 a1 a2 v7 (iadd .i64 v8 (1:Int))) [tT,rS T4 y11,tT] [] [(0,0)] (via (finP (aI (aI (aI (aI (aI trivial e9) h10) h10) e12) (congrArg not e13)) .normal [(0,0)] (r2_Bound.c1p a0 a1 a2 v7 (iadd .i64 v8 (1:Int)))) (by kernel_rfl)) ((r2_Bound.c1_ok k a0 a1 a2 n v7 (iadd .i64 v8 (1:Int))).ap hy))) (fun e9 =>
   Owp.some (loop_exit (r2_Bound.cok k) hmix [fF] [] [] (exne 0) (via (finP (aI trivial e9) (.exit 0) [] (r2_Bound.c1q v7)) (by kernel_rfl)))))
theorem r2_Bound.way (k:Nat) (a0 a1:V25) (a2:Int):Owp (r2_Bound k a0 a1 a2) fun y=>∃ w c0,exec PR (r2_Bound.cx k) r2_Bound.code 0 (entry (.pair T25 (.pair T25 (.pair T2 .unit))) (a0,a1,a2,())).st w (Ret (r2_Bound.cx k) Tryz.f10 c0 (.one (.dp T2)) y):=by
  unfold r2_Bound; exact
   Owp.bnd fun y1 e2 =>
   Owp.bnd fun y3 e4 =>
   Owp.bnd fun y5 e6 =>
   Owp.bnd fun o25 e26 =>
   Owp.some (⟨[rS T2 y1,rS T2 y3,rS T2 y5,tT,.cut ⟨[],[(0,17)],(r2_Bound.c1p a0 a1 a2 (iadd .i64 y5 (8:Int)) (0:Int)),1,(.exit 0),(r2_Bound.c1q o25),0⟩],[],via (cutP (aI (aI (aI trivial e2) e4) e6) [(0,17)] (r2_Bound.c1p a0 a1 a2 (iadd .i64 y5 (8:Int)) (0:Int)) (((r2_Bound.c1_ok k a0 a1 a2 k (iadd .i64 y5 (8:Int)) (0:Int)).ap e26).triple) (retP trivial (.one (.dp T2)) (o25:Int))) (by kernel_rfl)⟩)
theorem r2_Bound.ok (k:Nat):FnOk PR 10 (r2_Bound.sp k) :=
  fn_ok (r2_Bound.cok k) hmix Tryz.func10 (code:=r2_Bound.code) (by kernel_rfl) (by kernel_rfl) (by kernel_rfl) rfl (by kernel_rfl) (by kernel_rfl) (by kernel_rfl) (fun x=>Nat.le_of_ble_eq_true (by kernel_rfl)) fun x y hy=>(r2_Bound.way k x.1 x.2.1 x.2.2.1).ap hy
noncomputable def r2_nearest.code:Code:=Func.cd Tryz.f57
def r2_nearest (k:Nat) (a0 a1:Int):Option Int :=
  bif' (ilt a0 (ineg .i64 a1))
  (some (ineg .i64 a1))
  (bif' (igt a0 a1)
   (some a1)
   (some a0))
noncomputable def r2_nearest.sp (k:Nat):Go.Sx.Spec:=⟨T22,(.one (.dp T2)),fun x=>r2_nearest k x.1 x.2.1,false⟩
noncomputable def r2_nearest.cx (k:Nat):Go.Sx.Ctx:=⟨tys,[],eqs,18,false⟩
theorem r2_nearest.cok (k:Nat):CtxOk PR (r2_nearest.cx k):=ctx_ok tysOk eqsOk FnsOk.nil
theorem r2_nearest.way (k:Nat) (a0 a1:Int):Owp (r2_nearest k a0 a1) fun y=>∃ w c0,exec PR (r2_nearest.cx k) r2_nearest.code 0 (entry T22 (a0,a1,())).st w (Ret (r2_nearest.cx k) Tryz.f57 c0 (.one (.dp T2)) y):=by
  unfold r2_nearest; exact
   Owp.bif (fun e1 =>
   Owp.some (⟨[tT],[],via (retP (aI trivial e1) (.one (.dp T2)) ((ineg .i64 a1):Int)) (by kernel_rfl)⟩)) (fun e1 =>
   Owp.bif (fun e2 =>
   Owp.some (⟨[fF,tT],[],via (retP (aI (aI trivial e1) e2) (.one (.dp T2)) (a1:Int)) (by kernel_rfl)⟩)) (fun e2 =>
   Owp.some (⟨[fF,fF],[],via (retP (aI (aI trivial e1) e2) (.one (.dp T2)) (a0:Int)) (by kernel_rfl)⟩)))
theorem r2_nearest.ok (k:Nat):FnOk PR 57 (r2_nearest.sp k) :=
  fn_ok (r2_nearest.cok k) hmix Tryz.func57 (code:=r2_nearest.code) (by kernel_rfl) (by kernel_rfl) (by kernel_rfl) rfl (by kernel_rfl) (by kernel_rfl) (by kernel_rfl) (fun x=>Nat.le_of_ble_eq_true (by kernel_rfl)) fun x y hy=>(r2_nearest.way k x.1 x.2.1).ap hy
noncomputable def r2_Step.code:Code:=Func.cd Tryz.f29
def r2_Step.c1 (k:Nat):Nat → Int → Option (Int)
  | 0,_=>none
  | n+1,v14 =>
   bif' (ilt v14 0)
   (r2_Step.c1 k n (iadd .i64 v14 65536))
   (some v14)
def r2_Step (k:Nat) (a0:V25) (a1:Int):Option V25 :=
  bnd (r2_Free k a0) fun y1 =>
  bif' y1
  (bnd (fix_Mul k a1 a0.2.1.1) fun y4 =>
   bnd (r2_nearest k (iadd .i64 a0.1.1 y4) 58982400) fun y6 =>
   bnd (fix_Mul k a1 a0.2.1.2.1) fun y8 =>
   bnd (r2_nearest k (iadd .i64 a0.1.2.1 y8) 58982400) fun y10 =>
   bnd (fix_Mul k a1 a0.2.2.2.1) fun y12 =>
   bnd (r2_Step.c1 k k (iadd .i64 a0.2.2.1 y12)) fun o16 =>
   some ((y6,y10,()),a0.2.1,(irem o16 65536),a0.2.2.2))
  (some a0)
noncomputable def r2_Step.sp (k:Nat):Go.Sx.Spec:=⟨(.pair T25 (.pair T2 .unit)),(.one (.dp T25)),fun x=>r2_Step k x.1 x.2.1,false⟩
noncomputable def r2_Step.cx (k:Nat):Go.Sx.Ctx:=⟨tys,[(26,r2_Free.sp k),(14,fix_Mul.sp k),(57,r2_nearest.sp k)],eqs,51,false⟩
theorem r2_Step.cok (k:Nat):CtxOk PR (r2_Step.cx k):=ctx_ok tysOk eqsOk (FnsOk.cons (r2_Free.ok k) (FnsOk.cons (fix_Mul.ok k) (FnsOk.cons (r2_nearest.ok k) FnsOk.nil)))
noncomputable def r2_Step.c1p (a0:V25) (y6 y10 v14:Int):SL:=⟨[(2,(.val .ptr ⟨0,0,(0:Int),0,0⟩)),(4,(.val .ptr ⟨1,0,(0:Int),0,0⟩))],[(0,.cells T25 ((y6,y10,()),a0.2.1,v14,a0.2.2.2)),(1,.cells T25 (((0:Int),(0:Int),()),((0:Int),(0:Int),()),(0:Int),(0:Int),(0:Int),(0:Int),(0:Int),(0:Int),[],false,(0:Int),()))]⟩
noncomputable def r2_Step.c1q (a0:V25) (y6 y10 o:Int):SL:=(fun v=>⟨[(2,(.val .ptr ⟨0,0,(0:Int),0,0⟩)),(4,(.val .ptr ⟨1,0,(0:Int),0,0⟩))],[(0,.cells T25 ((y6,y10,()),a0.2.1,v,a0.2.2.2)),(1,.cells T25 (((0:Int),(0:Int),()),((0:Int),(0:Int),()),(0:Int),(0:Int),(0:Int),(0:Int),(0:Int),(0:Int),[],false,(0:Int),()))]⟩) o
noncomputable def r2_Step.c1x (o:Int):Ex:=(fun _=>(.exit 0)) o
noncomputable def r2_Step.c1n (o:Int):Nat:=(fun _=>2) o
theorem r2_Step.c1_ok (k:Nat) (a0:V25) (y6 y10:Int):∀ (n:Nat) (v14:Int),Owp (r2_Step.c1 k n v14) fun o=>LTriple PR (r2_Step.cx k) (sub r2_Step.code [1,1,1,1,0,0,0]) 2 (r2_Step.c1p a0 y6 y10 v14) (r2_Step.c1x o) (r2_Step.c1n o) (r2_Step.c1q a0 y6 y10 o)
  | 0,_=>fun _ h=>nomatch h
  | n+1,v14=>Owp.of (r2_Step.c1.eq_2 ..) (
   Owp.bif (fun e15 =>
   fun y hy=>loop_back (r2_Step.cok k) hmix 2 (r2_Step.c1p a0 y6 y10 (iadd .i64 v14 (65536:Int))) [tT] [] [(0,0),(1,1)] (via (finP (aI trivial e15) .normal [(0,0),(1,1)] (r2_Step.c1p a0 y6 y10 (iadd .i64 v14 (65536:Int)))) (by kernel_rfl)) ((r2_Step.c1_ok k a0 y6 y10 n (iadd .i64 v14 (65536:Int))).ap hy)) (fun e15 =>
   Owp.some (loop_exit (r2_Step.cok k) hmix [fF] [] [(0,0),(1,1)] (exne 0) (via (finP (aI trivial e15) (.exit 0) [(0,0),(1,1)] (r2_Step.c1q a0 y6 y10 v14)) (by kernel_rfl)))))
theorem r2_Step.way (k:Nat) (a0:V25) (a1:Int):Owp (r2_Step k a0 a1) fun y=>∃ w c0,exec PR (r2_Step.cx k) r2_Step.code 0 (entry (.pair T25 (.pair T2 .unit)) (a0,a1,())).st w (Ret (r2_Step.cx k) Tryz.f29 c0 (.one (.dp T25)) y):=by
  unfold r2_Step; exact
   Owp.bnd fun y1 e2 =>
   Owp.bif (fun e3 =>
   Owp.bnd fun y4 e5 =>
   Owp.bnd fun y6 e7 =>
   Owp.bnd fun y8 e9 =>
   Owp.bnd fun y10 e11 =>
   Owp.bnd fun y12 e13 =>
   Owp.bnd fun o16 e17 =>
   Owp.some (⟨[rS T4 y1,fF,rS T2 y4,rS T2 y6,rS T2 y8,rS T2 y10,rS T2 y12,.cut ⟨[],[(0,0),(1,1)],(r2_Step.c1p a0 y6 y10 (iadd .i64 a0.2.2.1 y12)),2,(.exit 0),(r2_Step.c1q a0 y6 y10 o16),2⟩],[],via (cutP (aI (aI (aI (aI (aI (aI (aI trivial e2) (congrArg not e3)) e5) e7) e9) e11) e13) [(0,0),(1,1)] (r2_Step.c1p a0 y6 y10 (iadd .i64 a0.2.2.1 y12)) (((r2_Step.c1_ok k a0 y6 y10 k (iadd .i64 a0.2.2.1 y12)).ap e17).triple) (retP (aI trivial (by decide:nz (65536:Int))) (.one (.dp T25)) (((y6,y10,()),a0.2.1,(irem o16 (65536:Int)),a0.2.2.2):V25))) (by kernel_rfl)⟩)) (fun e3 =>
   Owp.some (⟨[rS T4 y1,tT],[],via (retP (aI (aI trivial e2) (congrArg not e3)) (.one (.dp T25)) (a0:V25)) (by kernel_rfl)⟩))
theorem r2_Step.ok (k:Nat):FnOk PR 29 (r2_Step.sp k) :=
  fn_ok (r2_Step.cok k) hmix Tryz.func29 (code:=r2_Step.code) (by kernel_rfl) (by kernel_rfl) (by kernel_rfl) rfl (by kernel_rfl) (by kernel_rfl) (by kernel_rfl) (fun x=>Nat.le_of_ble_eq_true (by kernel_rfl)) fun x y hy=>(r2_Step.way k x.1 x.2.1).ap hy
noncomputable def r2_World.code:Code:=Func.cd Tryz.f56
def r2_World (k:Nat) (a0:V25) (a1:V22):Option V22 :=
  bnd (vec_Turn k a1 a0.2.2.1) fun y1 =>
  bnd (fix_Add k y1.1 a0.1.1) fun y3 =>
  bnd (fix_Add k y1.2.1 a0.1.2.1) fun y5 =>
  some (y3,y5,())
noncomputable def r2_World.sp (k:Nat):Go.Sx.Spec:=⟨(.pair T25 (.pair T22 .unit)),(.one (.dp T22)),fun x=>r2_World k x.1 x.2.1,false⟩
noncomputable def r2_World.cx (k:Nat):Go.Sx.Ctx:=⟨tys,[(42,vec_Turn.sp k),(72,fix_Add.sp k)],eqs,23,false⟩
theorem r2_World.cok (k:Nat):CtxOk PR (r2_World.cx k):=ctx_ok tysOk eqsOk (FnsOk.cons (vec_Turn.ok k) (FnsOk.cons (fix_Add.ok k) FnsOk.nil))
theorem r2_World.way (k:Nat) (a0:V25) (a1:V22):Owp (r2_World k a0 a1) fun y=>∃ w c0,exec PR (r2_World.cx k) r2_World.code 0 (entry (.pair T25 (.pair T22 .unit)) (a0,a1,())).st w (Ret (r2_World.cx k) Tryz.f56 c0 (.one (.dp T22)) y):=by
  unfold r2_World; exact
   Owp.bnd fun y1 e2 =>
   Owp.bnd fun y3 e4 =>
   Owp.bnd fun y5 e6 =>
   Owp.some (⟨[rS T22 y1,rS T2 y3,rS T2 y5],[],via (retP (aI (aI (aI trivial e2) e4) e6) (.one (.dp T22)) ((y3,y5,()):V22)) (by kernel_rfl)⟩)
theorem r2_World.ok (k:Nat):FnOk PR 56 (r2_World.sp k) :=
  fn_ok (r2_World.cok k) hmix Tryz.func56 (code:=r2_World.code) (by kernel_rfl) (by kernel_rfl) (by kernel_rfl) rfl (by kernel_rfl) (by kernel_rfl) (by kernel_rfl) (fun x=>Nat.le_of_ble_eq_true (by kernel_rfl)) fun x y hy=>(r2_World.way k x.1 x.2.1).ap hy
noncomputable def r2_Placed.code:Code:=Func.cd Tryz.f28
def r2_Placed.c1 (k:Nat) (a0:V25):Nat → Int → (List V22) → Option ((List V22))
  | 0,_,_=>none
  | n+1,v2,v3 =>
   bif' (ilt v2 (len (mk0 Z22 (len a0.2.2.2.2.2.2.2.2.1))))
   (req (inL v2 a0.2.2.2.2.2.2.2.2.1) <|
   bnd (r2_World k a0 (el Z22 a0.2.2.2.2.2.2.2.2.1 v2)) fun y6 =>
   req (inL v2 v3) <|
   r2_Placed.c1 k a0 n (iadd .i64 v2 1) (st v3 v2 y6))
   (some v3)
def r2_Placed (k:Nat) (a0:V25):Option (List V22) :=
  req (mkOk 16 (len a0.2.2.2.2.2.2.2.2.1) (len a0.2.2.2.2.2.2.2.2.1)) <|
  bnd (r2_Placed.c1 k a0 k 0 (mk0 Z22 (len a0.2.2.2.2.2.2.2.2.1))) fun o9 =>
  some o9
noncomputable def r2_Placed.sp (k:Nat):Go.Sx.Spec:=⟨(.pair T25 .unit),(.one (.ow T22 23)),fun x=>r2_Placed k x.1,false⟩
noncomputable def r2_Placed.cx (k:Nat):Go.Sx.Ctx:=⟨tys,[(56,r2_World.sp k)],eqs,26,false⟩
theorem r2_Placed.cok (k:Nat):CtxOk PR (r2_Placed.cx k):=ctx_ok tysOk eqsOk (FnsOk.cons (r2_World.ok k) FnsOk.nil)
noncomputable def r2_Placed.c1p (a0:V25) (v2:Int) (v3:(List V22)):SL:=⟨[(1,(.val .ptr ⟨0,0,(0:Int),0,0⟩)),(3,(.val .own (1:Nat))),(10,(.val T2 (len (mk0 Z22 (len a0.2.2.2.2.2.2.2.2.1))))),(11,(.val T2 v2))],[(0,.cells T25 a0),(1,.row T22 v3 23)]⟩
noncomputable def r2_Placed.c1q (o:(List V22)):SL:=(fun v=>⟨[(3,(.val .own (0:Nat)))],[(0,.row T22 v 23)]⟩) o
noncomputable def r2_Placed.c1x (o:(List V22)):Ex:=(fun _=>(.exit 0)) o
noncomputable def r2_Placed.c1n (o:(List V22)):Nat:=(fun _=>1) o
theorem r2_Placed.c1_ok (k:Nat) (a0:V25):∀ (n:Nat) (v2:Int) (v3:(List V22)),Owp (r2_Placed.c1 k a0 n v2 v3) fun o=>LTriple PR (r2_Placed.cx k) (sub r2_Placed.code [1,1,0,1,0,0]) 2 (r2_Placed.c1p a0 v2 v3) (r2_Placed.c1x o) (r2_Placed.c1n o) (r2_Placed.c1q o)
  | 0,_,_=>fun _ h=>nomatch h
  | n+1,v2,v3=>Owp.of (r2_Placed.c1.eq_2 ..) (
   Owp.bif (fun e4 =>
   Owp.req fun h5 =>
   Owp.bnd fun y6 e7 =>
   Owp.req fun h8 =>
   fun y hy=>loop_back (r2_Placed.cok k) hmix 2 (r2_Placed.c1p a0 (iadd .i64 v2 (1:Int)) (st v3 v2 y6)) [tT,rS T22 y6] [] [(0,0),(1,1)] (via (finP (aI (aI (aI (aI (aI trivial e4) h5) e7) h8) h8) .normal [(0,0),(1,1)] (r2_Placed.c1p a0 (iadd .i64 v2 (1:Int)) (st v3 v2 y6))) (by kernel_rfl)) ((r2_Placed.c1_ok k a0 n (iadd .i64 v2 (1:Int)) (st v3 v2 y6)).ap hy)) (fun e4 =>
   Owp.some (loop_exit (r2_Placed.cok k) hmix [fF] [] [(0,1)] (exne 0) (via (finP (aI trivial e4) (.exit 0) [(0,1)] (r2_Placed.c1q v3)) (by kernel_rfl)))))
theorem r2_Placed.way (k:Nat) (a0:V25):Owp (r2_Placed k a0) fun y=>∃ w c0,exec PR (r2_Placed.cx k) r2_Placed.code 0 (entry (.pair T25 .unit) (a0,())).st w (Ret (r2_Placed.cx k) Tryz.f28 c0 (.one (.ow T22 23)) y):=by
  unfold r2_Placed; exact
   Owp.req fun h1 =>
   Owp.bnd fun o9 e10 =>
   Owp.some (⟨[.cut ⟨[],[(0,0),(1,5)],(r2_Placed.c1p a0 (0:Int) (mk0 Z22 (len a0.2.2.2.2.2.2.2.2.1))),2,(.exit 0),(r2_Placed.c1q o9),1⟩],[],via (cutP (aI trivial h1) [(0,0),(1,5)] (r2_Placed.c1p a0 (0:Int) (mk0 Z22 (len a0.2.2.2.2.2.2.2.2.1))) (((r2_Placed.c1_ok k a0 k (0:Int) (mk0 Z22 (len a0.2.2.2.2.2.2.2.2.1))).ap e10).triple) (retP trivial (.one (.ow T22 23)) (o9:(List V22)))) (by kernel_rfl)⟩)
theorem r2_Placed.ok (k:Nat):FnOk PR 28 (r2_Placed.sp k) :=
  fn_ok (r2_Placed.cok k) hmix Tryz.func28 (code:=r2_Placed.code) (by kernel_rfl) (by kernel_rfl) (by kernel_rfl) rfl (by kernel_rfl) (by kernel_rfl) (by kernel_rfl) (fun x=>Nat.le_of_ble_eq_true (by kernel_rfl)) fun x y hy=>(r2_Placed.way k x.1).ap hy
noncomputable def r2_cross_1.code:Code:=Func.cd Tryz.f93
def r2_cross_1 (k:Nat) (a0 a1 a2:V22) (a3:Int):Option Bool :=
  bif' (ieq a3 0)
  (bif' (ile (imin a0.1 a1.1) a2.1)
   (bif' (ile a2.1 (imax a0.1 a1.1))
   (bif' (ile (imin a0.2.1 a1.2.1) a2.2.1)
   (some (ile a2.2.1 (imax a0.2.1 a1.2.1)))
   (some false))
   (some false))
   (some false))
  (some false)
noncomputable def r2_cross_1.sp (k:Nat):Go.Sx.Spec:=⟨(.pair T22 (.pair T22 (.pair T22 (.pair T2 .unit)))),(.one (.dp T4)),fun x=>r2_cross_1 k x.1 x.2.1 x.2.2.1 x.2.2.2.1,false⟩
noncomputable def r2_cross_1.cx (k:Nat):Go.Sx.Ctx:=⟨tys,[],eqs,51,false⟩
theorem r2_cross_1.cok (k:Nat):CtxOk PR (r2_cross_1.cx k):=ctx_ok tysOk eqsOk FnsOk.nil
theorem r2_cross_1.way (k:Nat) (a0 a1 a2:V22) (a3:Int):Owp (r2_cross_1 k a0 a1 a2 a3) fun y=>∃ w c0,exec PR (r2_cross_1.cx k) r2_cross_1.code 0 (entry (.pair T22 (.pair T22 (.pair T22 (.pair T2 .unit)))) (a0,a1,a2,a3,())).st w (Ret (r2_cross_1.cx k) Tryz.f93 c0 (.one (.dp T4)) y):=by
  unfold r2_cross_1; exact
   Owp.bif (fun e1 =>
   Owp.bif (fun e2 =>
   Owp.bif (fun e3 =>
   Owp.bif (fun e4 =>
   Owp.some (⟨[tT,tT,tT,tT,tT,tT,tT,tT,tT,tT,tT,tT,tT,tT,tT,tT,tT,tT,tT,tT,tT,tT,tT,tT,tT,tT,tT,tT,tT,tT,tT,tT,tT,tT,tT,tT],[],via (retP (aI (aI (aI (aI (aI (aI (aI (aI (aI (aI (aI (aI (aI (aI (aI (aI (aI (aI (aI (aI (aI (aI (aI (aI (aI (aI (aI (aI (aI (aI (aI (aI (aI (aI (aI (aI trivial e1) e1) e1) e1) e1) e1) e1) e1) e1) e2) e2) e2) e2) e2) e2) e2) e2) e2) e3) e3) e3) e3) e3) e3) e3) e3) e3) e4) e4) e4) e4) e4) e4) e4) e4) e4) (.one (.dp T4)) ((ile a2.2.1 (imax a0.2.1 a1.2.1)):Bool)) (by kernel_rfl)⟩)) (fun e4 =>
   Owp.some (⟨[tT,tT,tT,tT,tT,tT,tT,tT,tT,tT,tT,tT,tT,tT,tT,tT,tT,tT,tT,tT,tT,tT,tT,tT,tT,tT,tT,fF,fF,fF,fF,fF,fF,fF,fF,fF],[],via (retP (aI (aI (aI (aI (aI (aI (aI (aI (aI (aI (aI (aI (aI (aI (aI (aI (aI (aI (aI (aI (aI (aI (aI (aI (aI (aI (aI (aI (aI (aI (aI (aI (aI (aI (aI (aI trivial e1) e1) e1) e1) e1) e1) e1) e1) e1) e2) e2) e2) e2) e2) e2) e2) e2) e2) e3) e3) e3) e3) e3) e3) e3) e3) e3) e4) e4) e4) e4) e4) e4) e4) e4) e4) (.one (.dp T4)) (false:Bool)) (by kernel_rfl)⟩))) (fun e3 =>
   Owp.some (⟨[tT,tT,tT,tT,tT,tT,tT,tT,tT,tT,tT,tT,tT,tT,tT,tT,tT,tT,fF,fF,fF,fF,fF,fF,fF,fF,fF,fF,fF,fF,fF,fF,fF,fF,fF,fF],[],via (retP (aI (aI (aI (aI (aI (aI (aI (aI (aI (aI (aI (aI (aI (aI (aI (aI (aI (aI (aI (aI (aI (aI (aI (aI (aI (aI (aI (aI (aI (aI (aI (aI (aI (aI (aI (aI trivial e1) e1) e1) e1) e1) e1) e1) e1) e1) e2) e2) e2) e2) e2) e2) e2) e2) e2) e3) e3) e3) e3) e3) e3) e3) e3) e3) ff) ff) ff) ff) ff) ff) ff) ff) ff) (.one (.dp T4)) (false:Bool)) (by kernel_rfl)⟩))) (fun e2 =>
   Owp.some (⟨[tT,tT,tT,tT,tT,tT,tT,tT,tT,fF,fF,fF,fF,fF,fF,fF,fF,fF,fF,fF,fF,fF,fF,fF,fF,fF,fF,fF,fF,fF,fF,fF,fF,fF,fF,fF],[],via (retP (aI (aI (aI (aI (aI (aI (aI (aI (aI (aI (aI (aI (aI (aI (aI (aI (aI (aI (aI (aI (aI (aI (aI (aI (aI (aI (aI (aI (aI (aI (aI (aI (aI (aI (aI (aI trivial e1) e1) e1) e1) e1) e1) e1) e1) e1) e2) e2) e2) e2) e2) e2) e2) e2) e2) ff) ff) ff) ff) ff) ff) ff) ff) ff) ff) ff) ff) ff) ff) ff) ff) ff) ff) (.one (.dp T4)) (false:Bool)) (by kernel_rfl)⟩))) (fun e1 =>
   Owp.some (⟨[fF,fF,fF,fF,fF,fF,fF,fF,fF,fF,fF,fF,fF,fF,fF,fF,fF,fF,fF,fF,fF,fF,fF,fF,fF,fF,fF,fF,fF,fF,fF,fF,fF,fF,fF,fF],[],via (retP (aI (aI (aI (aI (aI (aI (aI (aI (aI (aI (aI (aI (aI (aI (aI (aI (aI (aI (aI (aI (aI (aI (aI (aI (aI (aI (aI (aI (aI (aI (aI (aI (aI (aI (aI (aI trivial e1) e1) e1) e1) e1) e1) e1) e1) e1) ff) ff) ff) ff) ff) ff) ff) ff) ff) ff) ff) ff) ff) ff) ff) ff) ff) ff) ff) ff) ff) ff) ff) ff) ff) ff) ff) (.one (.dp T4)) (false:Bool)) (by kernel_rfl)⟩))
theorem r2_cross_1.ok (k:Nat):FnOk PR 93 (r2_cross_1.sp k) :=
  fn_ok (r2_cross_1.cok k) hmix Tryz.func93 (code:=r2_cross_1.code) (by kernel_rfl) (by kernel_rfl) (by kernel_rfl) rfl (by kernel_rfl) (by kernel_rfl) (by kernel_rfl) (fun x=>Nat.le_of_ble_eq_true (by kernel_rfl)) fun x y hy=>(r2_cross_1.way k x.1 x.2.1 x.2.2.1 x.2.2.2.1).ap hy
noncomputable def r2_cross.code:Code:=Func.cd Tryz.f58
def r2_cross.c1 (k:Nat) (y1 y3 y5 y7:Int):Option (Bool) :=
  bif' (ilt (imul .i64 y1 y3) 0)
  (some (ilt (imul .i64 y5 y7) 0))
  (some false)
def r2_cross (k:Nat) (a0 a1 a2 a3:V22):Option Bool :=
  bnd (r2_left k a0 a1 a2) fun y1 =>
  bnd (r2_left k a0 a1 a3) fun y3 =>
  bnd (r2_left k a2 a3 a0) fun y5 =>
  bnd (r2_left k a2 a3 a1) fun y7 =>
  bnd (r2_cross.c1 k y1 y3 y5 y7) fun o10 =>
  bif' o10
  (some true)
  (bnd (r2_cross_1 k a0 a1 a2 y1) fun y13 =>
   bif' y13
   (some true)
   (bnd (r2_cross_1 k a0 a1 a3 y3) fun y16 =>
   bif' y16
   (some true)
   (bnd (r2_cross_1 k a2 a3 a0 y5) fun y19 =>
   bif' y19
   (some true)
   (bnd (r2_cross_1 k a2 a3 a1 y7) fun y22 =>
   some y22))))
noncomputable def r2_cross.sp (k:Nat):Go.Sx.Spec:=⟨(.pair T22 (.pair T22 (.pair T22 (.pair T22 .unit)))),(.one (.dp T4)),fun x=>r2_cross k x.1 x.2.1 x.2.2.1 x.2.2.2.1,false⟩
noncomputable def r2_cross.cx (k:Nat):Go.Sx.Ctx:=⟨tys,[(89,r2_left.sp k),(93,r2_cross_1.sp k)],eqs,70,false⟩
theorem r2_cross.cok (k:Nat):CtxOk PR (r2_cross.cx k):=ctx_ok tysOk eqsOk (FnsOk.cons (r2_left.ok k) (FnsOk.cons (r2_cross_1.ok k) FnsOk.nil))
noncomputable def r2_cross.c1p (a0 a1 a2 a3:V22) (y1 y3 y5 y7:Int):SL:=⟨[(4,(.val .ptr ⟨0,0,(0:Int),0,0⟩)),(5,(.val .ptr ⟨1,0,(0:Int),0,0⟩)),(6,(.val .ptr ⟨2,0,(0:Int),0,0⟩)),(7,(.val .ptr ⟨3,0,(0:Int),0,0⟩)),(9,(.val T2 y1)),(10,(.val T2 y3)),(11,(.val T2 y5)),(12,(.val T2 y7))],[(0,.cells T22 a0),(1,.cells T22 a1),(2,.cells T22 a2),(3,.cells T22 a3)]⟩
noncomputable def r2_cross.c1q (a0 a1 a2 a3:V22) (y1 y3 y5 y7:Int) (o:Bool):SL:=(fun v=>⟨[(4,(.val .ptr ⟨0,0,(0:Int),0,0⟩)),(5,(.val .ptr ⟨1,0,(0:Int),0,0⟩)),(6,(.val .ptr ⟨2,0,(0:Int),0,0⟩)),(7,(.val .ptr ⟨3,0,(0:Int),0,0⟩)),(9,(.val T2 y1)),(10,(.val T2 y3)),(11,(.val T2 y5)),(12,(.val T2 y7)),(39,(.val T4 v))],[(0,.cells T22 a0),(1,.cells T22 a1),(2,.cells T22 a2),(3,.cells T22 a3)]⟩) o
noncomputable def r2_cross.c1x (o:Bool):Ex:=(fun _=>.normal) o
noncomputable def r2_cross.c1n (o:Bool):Nat:=(fun _=>4) o
theorem r2_cross.c1_ok (k:Nat) (a0 a1 a2 a3:V22) (y1 y3 y5 y7:Int):Owp (r2_cross.c1 k y1 y3 y5 y7) fun o=>Triple PR (r2_cross.cx k) (sub r2_cross.code [1,1,0,0]) 4 (r2_cross.c1p a0 a1 a2 a3 y1 y3 y5 y7) (r2_cross.c1x o) (r2_cross.c1n o) (r2_cross.c1q a0 a1 a2 a3 y1 y3 y5 y7 o):=by
  unfold r2_cross.c1; exact
   Owp.bif (fun e9 =>
   Owp.some (triple_way (r2_cross.cok k) hmix [tT,tT,tT,tT,tT] [] [(0,0),(1,1),(2,2),(3,3)] (via (finP (aI (aI (aI (aI (aI trivial e9) e9) e9) e9) e9) .normal [(0,0),(1,1),(2,2),(3,3)] (r2_cross.c1q a0 a1 a2 a3 y1 y3 y5 y7 (ilt (imul .i64 y5 y7) (0:Int)))) (by kernel_rfl)))) (fun e9 =>
   Owp.some (triple_way (r2_cross.cok k) hmix [fF,fF,fF,fF,fF] [] [(0,0),(1,1),(2,2),(3,3)] (via (finP (aI (aI (aI (aI (aI trivial e9) e9) e9) e9) e9) .normal [(0,0),(1,1),(2,2),(3,3)] (r2_cross.c1q a0 a1 a2 a3 y1 y3 y5 y7 false)) (by kernel_rfl))))
theorem r2_cross.way (k:Nat) (a0 a1 a2 a3:V22):Owp (r2_cross k a0 a1 a2 a3) fun y=>∃ w c0,exec PR (r2_cross.cx k) r2_cross.code 0 (entry (.pair T22 (.pair T22 (.pair T22 (.pair T22 .unit)))) (a0,a1,a2,a3,())).st w (Ret (r2_cross.cx k) Tryz.f58 c0 (.one (.dp T4)) y):=by
  unfold r2_cross; exact
   Owp.bnd fun y1 e2 =>
   Owp.bnd fun y3 e4 =>
   Owp.bnd fun y5 e6 =>
   Owp.bnd fun y7 e8 =>
   Owp.bnd fun o10 e11 =>
   Owp.bif (fun e12 =>
   Owp.some (⟨[rS T2 y1,rS T2 y3,rS T2 y5,rS T2 y7,.cutR 2 ⟨[],[(0,0),(1,1),(2,2),(3,3)],(r2_cross.c1p a0 a1 a2 a3 y1 y3 y5 y7),4,.normal,(r2_cross.c1q a0 a1 a2 a3 y1 y3 y5 y7 o10),4⟩,tT],[],via (cutP (aI (aI (aI (aI trivial e2) e4) e6) e8) [(0,0),(1,1),(2,2),(3,3)] (r2_cross.c1p a0 a1 a2 a3 y1 y3 y5 y7) (((r2_cross.c1_ok k a0 a1 a2 a3 y1 y3 y5 y7).ap e11)) (retP (aI trivial e12) (.one (.dp T4)) (true:Bool))) (by kernel_rfl)⟩)) (fun e12 =>
   Owp.bnd fun y13 e14 =>
   Owp.bif (fun e15 =>
   Owp.some (⟨[rS T2 y1,rS T2 y3,rS T2 y5,rS T2 y7,.cutR 2 ⟨[],[(0,0),(1,1),(2,2),(3,3)],(r2_cross.c1p a0 a1 a2 a3 y1 y3 y5 y7),4,.normal,(r2_cross.c1q a0 a1 a2 a3 y1 y3 y5 y7 o10),4⟩,fF,rS T4 y13,tT,tT,tT,tT,tT,tT,tT,tT,tT,tT,tT,tT,tT,tT,tT,tT,tT,tT,tT,tT,tT,tT,tT,tT],[],via (cutP (aI (aI (aI (aI trivial e2) e4) e6) e8) [(0,0),(1,1),(2,2),(3,3)] (r2_cross.c1p a0 a1 a2 a3 y1 y3 y5 y7) (((r2_cross.c1_ok k a0 a1 a2 a3 y1 y3 y5 y7).ap e11)) (retP (aI (aI (aI (aI (aI (aI (aI (aI (aI (aI (aI (aI (aI (aI (aI (aI (aI (aI (aI (aI (aI (aI (aI trivial e12) e14) e15) e15) e15) e15) e15) e15) e15) tt) tt) tt) tt) tt) tt) tt) tt) tt) tt) tt) tt) tt) tt) (.one (.dp T4)) (true:Bool))) (by kernel_rfl)⟩)) (fun e15 =>
   Owp.bnd fun y16 e17 =>
   Owp.bif (fun e18 =>
   Owp.some (⟨[rS T2 y1,rS T2 y3,rS T2 y5,rS T2 y7,.cutR 2 ⟨[],[(0,0),(1,1),(2,2),(3,3)],(r2_cross.c1p a0 a1 a2 a3 y1 y3 y5 y7),4,.normal,(r2_cross.c1q a0 a1 a2 a3 y1 y3 y5 y7 o10),4⟩,fF,rS T4 y13,fF,fF,fF,fF,fF,fF,rS T4 y16,fF,tT,tT,tT,tT,tT,tT,tT,tT,tT,tT,tT,tT,tT,tT,tT,tT],[],via (cutP (aI (aI (aI (aI trivial e2) e4) e6) e8) [(0,0),(1,1),(2,2),(3,3)] (r2_cross.c1p a0 a1 a2 a3 y1 y3 y5 y7) (((r2_cross.c1_ok k a0 a1 a2 a3 y1 y3 y5 y7).ap e11)) (retP (aI (aI (aI (aI (aI (aI (aI (aI (aI (aI (aI (aI (aI (aI (aI (aI (aI (aI (aI (aI (aI (aI (aI trivial e12) e14) e15) e15) e15) e15) e15) (aI e15 e17)) e15) e18) e18) e18) e18) e18) e18) e18) tt) tt) tt) tt) tt) tt) tt) (.one (.dp T4)) (true:Bool))) (by kernel_rfl)⟩)) (fun e18 =>
   Owp.bnd fun y19 e20 =>
   Owp.bif (fun e21 =>
   Owp.some (⟨[rS T2 y1,rS T2 y3,rS T2 y5,rS T2 y7,.cutR 2 ⟨[],[(0,0),(1,1),(2,2),(3,3)],(r2_cross.c1p a0 a1 a2 a3 y1 y3 y5 y7),4,.normal,(r2_cross.c1q a0 a1 a2 a3 y1 y3 y5 y7 o10),4⟩,fF,rS T4 y13,fF,fF,fF,fF,fF,fF,rS T4 y16,fF,fF,fF,fF,fF,fF,fF,rS T4 y19,fF,tT,tT,tT,tT,tT,tT,tT,tT],[],via (cutP (aI (aI (aI (aI trivial e2) e4) e6) e8) [(0,0),(1,1),(2,2),(3,3)] (r2_cross.c1p a0 a1 a2 a3 y1 y3 y5 y7) (((r2_cross.c1_ok k a0 a1 a2 a3 y1 y3 y5 y7).ap e11)) (retP (aI (aI (aI (aI (aI (aI (aI (aI (aI (aI (aI (aI (aI (aI (aI (aI (aI (aI (aI (aI (aI (aI (aI trivial e12) e14) e15) e15) e15) e15) e15) (aI e15 e17)) e15) e18) e18) e18) e18) e18) (aI e18 e20)) e18) e21) e21) e21) e21) e21) e21) e21) (.one (.dp T4)) (true:Bool))) (by kernel_rfl)⟩)) (fun e21 =>
   Owp.bnd fun y22 e23 =>
   Owp.some (⟨[rS T2 y1,rS T2 y3,rS T2 y5,rS T2 y7,.cutR 2 ⟨[],[(0,0),(1,1),(2,2),(3,3)],(r2_cross.c1p a0 a1 a2 a3 y1 y3 y5 y7),4,.normal,(r2_cross.c1q a0 a1 a2 a3 y1 y3 y5 y7 o10),4⟩,fF,rS T4 y13,fF,fF,fF,fF,fF,fF,rS T4 y16,fF,fF,fF,fF,fF,fF,fF,rS T4 y19,fF,fF,fF,fF,fF,fF,fF,rS T4 y22,fF],[],via (cutP (aI (aI (aI (aI trivial e2) e4) e6) e8) [(0,0),(1,1),(2,2),(3,3)] (r2_cross.c1p a0 a1 a2 a3 y1 y3 y5 y7) (((r2_cross.c1_ok k a0 a1 a2 a3 y1 y3 y5 y7).ap e11)) (retP (aI (aI (aI (aI (aI (aI (aI (aI (aI (aI (aI (aI (aI (aI (aI (aI (aI (aI (aI (aI (aI (aI (aI trivial e12) e14) e15) e15) e15) e15) e15) (aI e15 e17)) e15) e18) e18) e18) e18) e18) (aI e18 e20)) e18) e21) e21) e21) e21) e21) (aI e21 e23)) e21) (.one (.dp T4)) (y22:Bool))) (by kernel_rfl)⟩)))))
theorem r2_cross.ok (k:Nat):FnOk PR 58 (r2_cross.sp k) :=
  fn_ok (r2_cross.cok k) hmix Tryz.func58 (code:=r2_cross.code) (by kernel_rfl) (by kernel_rfl) (by kernel_rfl) rfl (by kernel_rfl) (by kernel_rfl) (by kernel_rfl) (fun x=>Nat.le_of_ble_eq_true (by kernel_rfl)) fun x y hy=>(r2_cross.way k x.1 x.2.1 x.2.2.1 x.2.2.2.1).ap hy
noncomputable def r2_Meet.code:Code:=Func.cd Tryz.f30
def r2_Meet.c1 (k:Nat) (a0 a1:(List V22)):Option (Bool) :=
  req (inL 0 a1) <|
  bnd (r2_Inside k a0 (el Z22 a1 0)) fun y2 =>
  bif' y2
  (some true)
  (req (inL 0 a0) <|
   bnd (r2_Inside k a1 (el Z22 a0 0)) fun y6 =>
   some y6)
def r2_Meet.c3 (k:Nat) (a0 a1:(List V22)) (v11:Int):Nat → Int → Option (Unit ⊕ Unit)
  | 0,_=>none
  | n+1,v14 =>
   bif' (ilt v14 (len a1))
   (req (inL v14 a1) <|
   req (nz (len a0)) <|
   req (inL (irem (iadd .i64 v11 1) (len a0)) a0) <|
   req (nz (len a1)) <|
   req (inL (irem (iadd .i64 v14 1) (len a1)) a1) <|
   bnd (r2_cross k (el Z22 a0 v11) (el Z22 a0 (irem (iadd .i64 v11 1) (len a0))) (el Z22 a1 v14) (el Z22 a1 (irem (iadd .i64 v14 1) (len a1)))) fun y21 =>
   bif' y21
   (some (.inl ()))
   (r2_Meet.c3 k a0 a1 v11 n (iadd .i64 v14 1)))
   (some (.inr ()))
def r2_Meet.c2 (k:Nat) (a0 a1:(List V22)):Nat → Int → Option (Unit ⊕ Unit)
  | 0,_=>none
  | n+1,v11 =>
   bif' (ilt v11 (len a0))
   (req (inL v11 a0) <|
   bnd (r2_Meet.c3 k a0 a1 v11 k 0) fun o24 =>
   two o24 (fun y26 =>
   some (.inl ())) (fun y28 =>
   r2_Meet.c2 k a0 a1 n (iadd .i64 v11 1)))
   (some (.inr ()))
def r2_Meet (k:Nat) (a0 a1:(List V22)):Option Bool :=
  bnd (r2_Meet.c1 k a0 a1) fun o8 =>
  bif' o8
  (some true)
  (bnd (r2_Meet.c2 k a0 a1 k 0) fun o30 =>
   two o30 (fun y32 =>
   some true) (fun y34 =>
   some false))
noncomputable def r2_Meet.sp (k:Nat):Go.Sx.Spec:=⟨(.pair T24 (.pair T24 .unit)),(.one (.dp T4)),fun x=>r2_Meet k x.1 x.2.1,false⟩
noncomputable def r2_Meet.cx (k:Nat):Go.Sx.Ctx:=⟨tys,[(54,r2_Inside.sp k),(58,r2_cross.sp k)],eqs,56,false⟩
theorem r2_Meet.cok (k:Nat):CtxOk PR (r2_Meet.cx k):=ctx_ok tysOk eqsOk (FnsOk.cons (r2_Inside.ok k) (FnsOk.cons (r2_cross.ok k) FnsOk.nil))
noncomputable def r2_Meet.c1p (a0 a1:(List V22)):SL:=⟨[(0,(.val T24 a0)),(1,(.val T24 a1))],[]⟩
noncomputable def r2_Meet.c1q (a0 a1:(List V22)) (o:Bool):SL:=(fun v=>⟨[(0,(.val T24 a0)),(1,(.val T24 a1)),(20,(.val T4 v))],[]⟩) o
noncomputable def r2_Meet.c1x (o:Bool):Ex:=(fun _=>.normal) o
noncomputable def r2_Meet.c1n (o:Bool):Nat:=(fun _=>0) o
theorem r2_Meet.c1_ok (k:Nat) (a0 a1:(List V22)):Owp (r2_Meet.c1 k a0 a1) fun o=>Triple PR (r2_Meet.cx k) (sub r2_Meet.code [1,0,0]) 0 (r2_Meet.c1p a0 a1) (r2_Meet.c1x o) (r2_Meet.c1n o) (r2_Meet.c1q a0 a1 o):=by
  unfold r2_Meet.c1; exact
   Owp.req fun h1 =>
   Owp.bnd fun y2 e3 =>
   Owp.bif (fun e4 =>
   Owp.some (triple_way (r2_Meet.cok k) hmix [rS T4 y2,tT,tT,tT,tT,tT,tT,tT] [] [] (via (finP (aI (aI (aI (aI (aI (aI (aI (aI trivial h1) e3) e4) e4) e4) e4) e4) e4) .normal [] (r2_Meet.c1q a0 a1 true)) (by kernel_rfl)))) (fun e4 =>
   Owp.req fun h5 =>
   Owp.bnd fun y6 e7 =>
   Owp.some (triple_way (r2_Meet.cok k) hmix [rS T4 y2,fF,fF,fF,fF,fF,rS T4 y6,fF] [] [] (via (finP (aI (aI (aI (aI (aI (aI (aI (aI trivial h1) e3) e4) e4) (aI e4 h5)) e4) (aI e4 e7)) e4) .normal [] (r2_Meet.c1q a0 a1 y6)) (by kernel_rfl))))
noncomputable def r2_Meet.c3p (a0 a1:(List V22)) (v11 v14:Int):SL:=⟨[(0,(.val T24 a0)),(1,(.val T24 a1)),(5,(.val T2 v11)),(6,(.val .ptr ⟨0,0,(0:Int),0,0⟩)),(21,(.val T24 a0)),(22,(.val T2 (len a0))),(23,(.val T2 v11)),(28,(.val T24 a1)),(29,(.val T2 (len a1))),(30,(.val T2 v14))],[(0,.cells T22 (el Z22 a0 v11))]⟩
noncomputable def r2_Meet.c3q (a0 a1:(List V22)) (v11:Int) (o:Unit ⊕ Unit):SL:=(fun o=>two o (fun v=>⟨[(4,(.val T4 true))],[]⟩) (fun v=>⟨[(0,(.val T24 a0)),(1,(.val T24 a1)),(21,(.val T24 a0)),(22,(.val T2 (len a0))),(23,(.val T2 v11))],[]⟩)) o
noncomputable def r2_Meet.c3x (o:Unit ⊕ Unit):Ex:=(fun o=>two o (fun _=>.ret) (fun _=>(.exit 2))) o
noncomputable def r2_Meet.c3n (o:Unit ⊕ Unit):Nat:=(fun o=>two o (fun _=>0) (fun _=>0)) o
theorem r2_Meet.c3_ok (k:Nat) (a0 a1:(List V22)) (v11:Int):∀ (n:Nat) (v14:Int),Owp (r2_Meet.c3 k a0 a1 v11 n v14) fun o=>LTriple PR (r2_Meet.cx k) (sub r2_Meet.code [1,1,0,1,0,0,1,1,0,0,1,1,0,0]) 1 (r2_Meet.c3p a0 a1 v11 v14) (r2_Meet.c3x o) (r2_Meet.c3n o) (r2_Meet.c3q a0 a1 v11 o)
  | 0,_=>fun _ h=>nomatch h
  | n+1,v14=>Owp.of (r2_Meet.c3.eq_2 ..) (
   Owp.bif (fun e15 =>
   Owp.req fun h16 =>
   Owp.req fun h17 =>
   Owp.req fun h18 =>
   Owp.req fun h19 =>
   Owp.req fun h20 =>
   Owp.bnd fun y21 e22 =>
   Owp.bif (fun e23 =>
   Owp.some (loop_exit (r2_Meet.cok k) hmix [tT,rS T4 y21,tT] [] [] exne_ret (via (finP (aI (aI (aI (aI (aI (aI (aI (aI trivial e15) h16) h17) h18) h19) h20) e22) e23) .ret [] (r2_Meet.c3q a0 a1 v11 (.inl ()))) (by kernel_rfl)))) (fun e23 =>
   fun y hy=>loop_back (r2_Meet.cok k) hmix 1 (r2_Meet.c3p a0 a1 v11 (iadd .i64 v14 (1:Int))) [tT,rS T4 y21,fF] [] [(0,0)] (via (finP (aI (aI (aI (aI (aI (aI (aI (aI trivial e15) h16) h17) h18) h19) h20) e22) e23) .normal [(0,0)] (r2_Meet.c3p a0 a1 v11 (iadd .i64 v14 (1:Int)))) (by kernel_rfl)) ((r2_Meet.c3_ok k a0 a1 v11 n (iadd .i64 v14 (1:Int))).ap hy))) (fun e15 =>
   Owp.some (loop_exit (r2_Meet.cok k) hmix [fF] [] [] (exne 2) (via (finP (aI trivial e15) (.exit 2) [] (r2_Meet.c3q a0 a1 v11 (.inr ()))) (by kernel_rfl)))))
noncomputable def r2_Meet.c2p (a0 a1:(List V22)) (v11:Int):SL:=⟨[(0,(.val T24 a0)),(1,(.val T24 a1)),(21,(.val T24 a0)),(22,(.val T2 (len a0))),(23,(.val T2 v11))],[]⟩
noncomputable def r2_Meet.c2q (o:Unit ⊕ Unit):SL:=(fun o=>two o (fun v=>⟨[(4,(.val T4 true))],[]⟩) (fun v=>⟨[],[]⟩)) o
noncomputable def r2_Meet.c2x (o:Unit ⊕ Unit):Ex:=(fun o=>two o (fun _=>.ret) (fun _=>(.exit 0))) o
noncomputable def r2_Meet.c2n (o:Unit ⊕ Unit):Nat:=(fun o=>two o (fun _=>0) (fun _=>0)) o
theorem r2_Meet.c2_ok (k:Nat) (a0 a1:(List V22)):∀ (n:Nat) (v11:Int),Owp (r2_Meet.c2 k a0 a1 n v11) fun o=>LTriple PR (r2_Meet.cx k) (sub r2_Meet.code [1,1,0,1,0,0]) 0 (r2_Meet.c2p a0 a1 v11) (r2_Meet.c2x o) (r2_Meet.c2n o) (r2_Meet.c2q o)
  | 0,_=>fun _ h=>nomatch h
  | n+1,v11=>Owp.of (r2_Meet.c2.eq_2 ..) (
   Owp.bif (fun e12 =>
   Owp.req fun h13 =>
   Owp.bnd fun o24 e25 =>
   Owp.two (fun y26 e27 =>
   Owp.some (loop_exit (r2_Meet.cok k) hmix [tT,.cut ⟨[],[(0,4)],(r2_Meet.c3p a0 a1 v11 (0:Int)),1,.ret,(r2_Meet.c3q a0 a1 v11 (.inl ())),0⟩] [] [] exne_ret (via (cutP (aI (aI trivial e12) h13) [(0,4)] (r2_Meet.c3p a0 a1 v11 (0:Int)) (((r2_Meet.c3_ok k a0 a1 v11 k (0:Int)).ap (e25.trans (congrArg some e27))).triple) (finP trivial .ret [] (r2_Meet.c2q (.inl ())))) (by kernel_rfl)))) (fun y28 e29 =>
   fun y hy=>loop_back (r2_Meet.cok k) hmix 0 (r2_Meet.c2p a0 a1 (iadd .i64 v11 (1:Int))) [tT,.cut ⟨[],[(0,4)],(r2_Meet.c3p a0 a1 v11 (0:Int)),1,(.exit 2),(r2_Meet.c3q a0 a1 v11 (.inr ())),0⟩] [] [] (via (cutP (aI (aI trivial e12) h13) [(0,4)] (r2_Meet.c3p a0 a1 v11 (0:Int)) (((r2_Meet.c3_ok k a0 a1 v11 k (0:Int)).ap (e25.trans (congrArg some e29))).triple) (finP trivial .normal [] (r2_Meet.c2p a0 a1 (iadd .i64 v11 (1:Int))))) (by kernel_rfl)) ((r2_Meet.c2_ok k a0 a1 n (iadd .i64 v11 (1:Int))).ap hy))) (fun e12 =>
   Owp.some (loop_exit (r2_Meet.cok k) hmix [fF] [] [] (exne 0) (via (finP (aI trivial e12) (.exit 0) [] (r2_Meet.c2q (.inr ()))) (by kernel_rfl)))))
theorem r2_Meet.way (k:Nat) (a0 a1:(List V22)):Owp (r2_Meet k a0 a1) fun y=>∃ w c0,exec PR (r2_Meet.cx k) r2_Meet.code 0 (entry (.pair T24 (.pair T24 .unit)) (a0,a1,())).st w (Ret (r2_Meet.cx k) Tryz.f30 c0 (.one (.dp T4)) y):=by
  unfold r2_Meet; exact
   Owp.bnd fun o8 e9 =>
   Owp.bif (fun e10 =>
   Owp.some (⟨[.cutR 1 ⟨[],[],(r2_Meet.c1p a0 a1),0,.normal,(r2_Meet.c1q a0 a1 o8),0⟩,tT],[],via (cutP trivial [] (r2_Meet.c1p a0 a1) (((r2_Meet.c1_ok k a0 a1).ap e9)) (retP (aI trivial e10) (.one (.dp T4)) (true:Bool))) (by kernel_rfl)⟩)) (fun e10 =>
   Owp.bnd fun o30 e31 =>
   Owp.two (fun y32 e33 =>
   Owp.some (⟨[.cutR 1 ⟨[],[],(r2_Meet.c1p a0 a1),0,.normal,(r2_Meet.c1q a0 a1 o8),0⟩,fF,.cut ⟨[],[],(r2_Meet.c2p a0 a1 (0:Int)),0,.ret,(r2_Meet.c2q (.inl ())),0⟩],[],via (cutP trivial [] (r2_Meet.c1p a0 a1) (((r2_Meet.c1_ok k a0 a1).ap e9)) (cutP (aI trivial e10) [] (r2_Meet.c2p a0 a1 (0:Int)) (((r2_Meet.c2_ok k a0 a1 k (0:Int)).ap (e31.trans (congrArg some e33))).triple) (retP trivial (.one (.dp T4)) (true:Bool)))) (by kernel_rfl)⟩)) (fun y34 e35 =>
   Owp.some (⟨[.cutR 1 ⟨[],[],(r2_Meet.c1p a0 a1),0,.normal,(r2_Meet.c1q a0 a1 o8),0⟩,fF,.cut ⟨[],[],(r2_Meet.c2p a0 a1 (0:Int)),0,(.exit 0),(r2_Meet.c2q (.inr ())),0⟩],[],via (cutP trivial [] (r2_Meet.c1p a0 a1) (((r2_Meet.c1_ok k a0 a1).ap e9)) (cutP (aI trivial e10) [] (r2_Meet.c2p a0 a1 (0:Int)) (((r2_Meet.c2_ok k a0 a1 k (0:Int)).ap (e31.trans (congrArg some e35))).triple) (retP trivial (.one (.dp T4)) (false:Bool)))) (by kernel_rfl)⟩)))
theorem r2_Meet.ok (k:Nat):FnOk PR 30 (r2_Meet.sp k) :=
  fn_ok (r2_Meet.cok k) hmix Tryz.func30 (code:=r2_Meet.code) (by kernel_rfl) (by kernel_rfl) (by kernel_rfl) rfl (by kernel_rfl) (by kernel_rfl) (by kernel_rfl) (fun x=>Nat.le_of_ble_eq_true (by kernel_rfl)) fun x y hy=>(r2_Meet.way k x.1 x.2.1).ap hy
end Go.Proofs.T1
