import Derived.Test.YtolkdkhdkfndfaaG0
import Derived.Test.YtolkdkhdkfndfaaG1
import Derived.Test.YtolkdkhdkfndfaaG2
namespace Go.Proofs.T1
open Go Go.Sx Go.Proofs
set_option maxRecDepth 100000
set_option linter.unusedVariables false
noncomputable def r2_Wrap.code:Code:=Func.cd Try.f95
def r2_Wrap.c2 (k:Nat) (a0:(List V27)) (v3:Int) (v4:V27):Option (Bool) :=
  bif' (ilt (el Z27 a0 v3).2.1 v4.2.1)
  (some true)
  (bif' (ieq (el Z27 a0 v3).2.1 v4.2.1)
   (some (ilt (el Z27 a0 v3).1 v4.1))
   (some false))
def r2_Wrap.c1 (k:Nat) (a0:(List V27)):Nat → Int → V27 → Option (V27)
  | 0,_,_=>none
  | n+1,v3,v4 =>
   bif' (ilt v3 (len a0))
   (req (inL v3 a0) <|
   bnd (r2_Wrap.c2 k a0 v3 v4) fun o9 =>
   bif' o9
   (r2_Wrap.c1 k a0 n (iadd .i64 v3 1) (el Z27 a0 v3))
   (r2_Wrap.c1 k a0 n (iadd .i64 v3 1) v4))
   (some v4)
def r2_Wrap.c5 (k:Nat) (a0 v14:(List V27)) (v17:Int) (v18:V27):Option (Int) :=
  bif' (Ty.eqb T27 v18 (el Z27 v14 (isub .i64 (len v14) (1:Int))))
  (some 0)
  (bnd (r2_left k (el Z27 v14 (isub .i64 (len v14) 1)) v18 (el Z27 a0 v17)) fun y23 =>
   some y23)
def r2_Wrap.c6 (k:Nat) (a0:(List V27)) (o25:Int) (v14:(List V27)) (v17:Int) (v18:V27):Option (Bool) :=
  bif' (Ty.eqb T27 v18 (el Z27 v14 (isub .i64 (len v14) (1:Int))))
  (some true)
  (bif' (ilt o25 0)
   (some true)
   (bif' (ieq o25 0)
   (bnd (r2_sub k (el Z27 a0 v17) (el Z27 v14 (isub .i64 (len v14) 1))) fun y30 =>
   bnd (r2_sub k (el Z27 a0 v17) (el Z27 v14 (isub .i64 (len v14) 1))) fun y32 =>
   bnd (r2_Dot k y30 y32) fun y34 =>
   bnd (r2_sub k v18 (el Z27 v14 (isub .i64 (len v14) 1))) fun y36 =>
   bnd (r2_sub k v18 (el Z27 v14 (isub .i64 (len v14) 1))) fun y38 =>
   bnd (r2_Dot k y36 y38) fun y40 =>
   bnd (r2_Big_Cmp k y34 y40) fun y42 =>
   some (igt y42 0))
   (some false)))
def r2_Wrap.c4 (k:Nat) (a0 v14:(List V27)):Nat → Int → V27 → Option (V27)
  | 0,_,_=>none
  | n+1,v17,v18 =>
   bif' (ilt v17 (len a0))
   (req (inL v17 a0) <|
   bif' (Ty.eqb T27 (el Z27 a0 v17) (el Z27 v14 (isub .i64 (len v14) (1:Int))))
   (r2_Wrap.c4 k a0 v14 n (iadd .i64 v17 1) v18)
   (bnd (r2_Wrap.c5 k a0 v14 v17 v18) fun o25 =>
   bnd (r2_Wrap.c6 k a0 o25 v14 v17 v18) fun o44 =>
   bif' o44
   (r2_Wrap.c4 k a0 v14 n (iadd .i64 v17 1) (el Z27 a0 v17))
   (r2_Wrap.c4 k a0 v14 n (iadd .i64 v17 1) v18)))
   (some v18)
def r2_Wrap.c7 (k:Nat) (o12 o47:V27) (v14:(List V27)):Option (Bool) :=
  bif' (Ty.eqb T27 o47 o12)
  (some true)
  (some (Ty.eqb T27 o47 (el Z27 v14 (isub .i64 (len v14) (1:Int)))))
def r2_Wrap.c3 (k:Nat) (a0:(List V27)) (o12:V27):Nat → (List V27) → Option ((List V27))
  | 0,_=>none
  | n+1,v14 =>
   bif' (ile (len v14) (len a0))
   (req (inL (isub .i64 (len v14) 1) v14) <|
   bnd (r2_Wrap.c4 k a0 v14 k 0 (el Z27 v14 (isub .i64 (len v14) 1))) fun o47 =>
   bnd (r2_Wrap.c7 k o12 o47 v14) fun o50 =>
   bif' o50
   (some v14)
   (req (room 16 v14 [o47]) <|
   r2_Wrap.c3 k a0 o12 n (v14 ++ [o47])))
   (some v14)
def r2_Wrap (k:Nat) (a0:(List V27)):Option (List V27) :=
  bif' (ieq (len a0) 0)
  (some [])
  (req (inL 0 a0) <|
   bnd (r2_Wrap.c1 k a0 k 0 (el Z27 a0 0)) fun o12 =>
   bnd (r2_Wrap.c3 k a0 o12 k [o12]) fun o54 =>
   some o54)
noncomputable def r2_Wrap.sp (k:Nat):Go.Sx.Spec:=⟨(.pair T22 .unit),(.one (.ow T27 28)),fun x=>r2_Wrap k x.1,false⟩
noncomputable def r2_Wrap.cx (k:Nat):Go.Sx.Ctx:=⟨tys,[(130,r2_left.sp k),(135,r2_sub.sp k),(134,r2_Dot.sp k),(136,r2_Big_Cmp.sp k)],eqs,119,0,[],false⟩
theorem r2_Wrap.cok (k:Nat):CtxOk PR (r2_Wrap.cx k):=ctx_ok tysOk eqsOk (FnsOk.cons (r2_left.ok k) (FnsOk.cons (r2_sub.ok k) (FnsOk.cons (r2_Dot.ok k) (FnsOk.cons (r2_Big_Cmp.ok k) FnsOk.nil)))) HsOk.nil
noncomputable def r2_Wrap.c2p (a0:(List V27)) (v3:Int) (v4:V27):SL:=⟨[(0,(.val T22 a0)),(3,(.val .ptr ⟨0,0,(0:Int),0,0⟩)),(5,(.val .ptr ⟨1,0,(0:Int),0,0⟩)),(18,(.val T22 a0)),(19,(.val T2 (len a0))),(20,(.val T2 v3))],[(0,.cells T27 v4),(1,.cells T27 (el Z27 a0 v3))]⟩
noncomputable def r2_Wrap.c2q (a0:(List V27)) (v3:Int) (v4:V27) (o:Bool):SL:=(fun v=>⟨[(0,(.val T22 a0)),(3,(.val .ptr ⟨0,0,(0:Int),0,0⟩)),(5,(.val .ptr ⟨1,0,(0:Int),0,0⟩)),(18,(.val T22 a0)),(19,(.val T2 (len a0))),(20,(.val T2 v3)),(42,(.val T4 v))],[(0,.cells T27 v4),(1,.cells T27 (el Z27 a0 v3))]⟩) o
noncomputable def r2_Wrap.c2x (o:Bool):Ex:=(fun _=>.normal) o
noncomputable def r2_Wrap.c2n (o:Bool):Nat:=(fun _=>2) o
theorem r2_Wrap.c2_ok (k:Nat) (a0:(List V27)) (v3:Int) (v4:V27):Owp (r2_Wrap.c2 k a0 v3 v4) fun o=>Triple PR (r2_Wrap.cx k) (sub r2_Wrap.code [1,1,1,0,1,0,0,1,1,0,0,1,0]) 2 (r2_Wrap.c2p a0 v3 v4) (r2_Wrap.c2x o) (r2_Wrap.c2n o) (r2_Wrap.c2q a0 v3 v4 o):=by
  unfold r2_Wrap.c2; exact
   Owp.bif (fun e7 =>
   Owp.some (triple_way (r2_Wrap.cok k) hmix [tT,tT,tT,tT,tT,tT,tT,tT,tT,tT,tT,tT,tT,tT] [] [(0,0),(1,1)] (via (finP (aI (aI (aI (aI (aI (aI (aI (aI trivial e7) e7) e7) e7) e7) e7) e7) e7) .normal [(0,0),(1,1)] (r2_Wrap.c2q a0 v3 v4 true)) (by kernel_rfl)))) (fun e7 =>
   Owp.bif (fun e8 =>
   Owp.some (triple_way (r2_Wrap.cok k) hmix [fF,fF,fF,fF,fF,fF,tT,tT,tT,tT,tT,fF,tT,fF] [] [(0,0),(1,1)] (via (finP (aI (aI (aI (aI (aI (aI (aI (aI (aI (aI (aI (aI (aI trivial e7) e7) e7) e7) e7) e7) e8) e8) e8) e8) e8) (aI e7 e8)) e7) .normal [(0,0),(1,1)] (r2_Wrap.c2q a0 v3 v4 (ilt (el Z27 a0 v3).1 v4.1))) (by kernel_rfl)))) (fun e8 =>
   Owp.some (triple_way (r2_Wrap.cok k) hmix [fF,fF,fF,fF,fF,fF,fF,fF,fF,fF,fF,fF,fF,fF] [] [(0,0),(1,1)] (via (finP (aI (aI (aI (aI (aI (aI (aI (aI (aI (aI (aI (aI (aI trivial e7) e7) e7) e7) e7) e7) e8) e8) e8) e8) e8) (aI e7 e8)) e7) .normal [(0,0),(1,1)] (r2_Wrap.c2q a0 v3 v4 false)) (by kernel_rfl)))))
noncomputable def r2_Wrap.c1p (a0:(List V27)) (v3:Int) (v4:V27):SL:=⟨[(0,(.val T22 a0)),(3,(.val .ptr ⟨0,0,(0:Int),0,0⟩)),(18,(.val T22 a0)),(19,(.val T2 (len a0))),(20,(.val T2 v3))],[(0,.cells T27 v4)]⟩
noncomputable def r2_Wrap.c1q (a0:(List V27)) (o:V27):SL:=(fun v=>⟨[(0,(.val T22 a0)),(3,(.val .ptr ⟨0,0,(0:Int),0,0⟩))],[(0,.cells T27 v)]⟩) o
noncomputable def r2_Wrap.c1x (o:V27):Ex:=(fun _=>(.exit 0)) o
noncomputable def r2_Wrap.c1n (o:V27):Nat:=(fun _=>1) o
theorem r2_Wrap.c1_ok (k:Nat) (a0:(List V27)):∀ (n:Nat) (v3:Int) (v4:V27),Owp (r2_Wrap.c1 k a0 n v3 v4) fun o=>LTriple PR (r2_Wrap.cx k) (sub r2_Wrap.code [1,1,1,0,1,0,0]) 1 (r2_Wrap.c1p a0 v3 v4) (r2_Wrap.c1x o) (r2_Wrap.c1n o) (r2_Wrap.c1q a0 o)
  | 0,_,_=>fun _ h=>nomatch h
  | n+1,v3,v4=>Owp.of (r2_Wrap.c1.eq_2 ..) (
   Owp.bif (fun e5 =>
   Owp.req fun h6 =>
   Owp.bnd fun o9 e10 =>
   Owp.bif (fun e11 =>
   fun y hy=>loop_back (r2_Wrap.cok k) hmix 1 (r2_Wrap.c1p a0 (iadd .i64 v3 (1:Int)) (el Z27 a0 v3)) [tT,.cutR 7 ⟨[],[(0,0),(1,4)],(r2_Wrap.c2p a0 v3 v4),2,.normal,(r2_Wrap.c2q a0 v3 v4 o9),2⟩,tT] [] [(0,0)] (via (cutP (aI (aI trivial e5) h6) [(0,0),(1,4)] (r2_Wrap.c2p a0 v3 v4) (((r2_Wrap.c2_ok k a0 v3 v4).ap e10)) (finP (aI trivial e11) .normal [(0,0)] (r2_Wrap.c1p a0 (iadd .i64 v3 (1:Int)) (el Z27 a0 v3)))) (by kernel_rfl)) ((r2_Wrap.c1_ok k a0 n (iadd .i64 v3 (1:Int)) (el Z27 a0 v3)).ap hy)) (fun e11 =>
   fun y hy=>loop_back (r2_Wrap.cok k) hmix 1 (r2_Wrap.c1p a0 (iadd .i64 v3 (1:Int)) v4) [tT,.cutR 7 ⟨[],[(0,0),(1,4)],(r2_Wrap.c2p a0 v3 v4),2,.normal,(r2_Wrap.c2q a0 v3 v4 o9),2⟩,fF] [] [(0,0)] (via (cutP (aI (aI trivial e5) h6) [(0,0),(1,4)] (r2_Wrap.c2p a0 v3 v4) (((r2_Wrap.c2_ok k a0 v3 v4).ap e10)) (finP (aI trivial e11) .normal [(0,0)] (r2_Wrap.c1p a0 (iadd .i64 v3 (1:Int)) v4))) (by kernel_rfl)) ((r2_Wrap.c1_ok k a0 n (iadd .i64 v3 (1:Int)) v4).ap hy))) (fun e5 =>
   Owp.some (loop_exit (r2_Wrap.cok k) hmix [fF] [] [(0,0)] (exne 0) (via (finP (aI trivial e5) (.exit 0) [(0,0)] (r2_Wrap.c1q a0 v4)) (by kernel_rfl)))))
noncomputable def r2_Wrap.c5p (a0:(List V27)) (o12:V27) (v14:(List V27)) (v17:Int) (v18:V27):SL:=⟨[(0,(.val T22 a0)),(3,(.val .ptr ⟨0,0,(0:Int),0,0⟩)),(6,(.val .own (1:Nat))),(7,(.val .ptr ⟨2,0,(0:Int),0,0⟩)),(8,(.val .ptr ⟨3,0,(0:Int),0,0⟩)),(10,(.val .ptr ⟨4,0,(0:Int),0,0⟩)),(11,(.val T2 (0:Int))),(59,(.val T22 a0)),(60,(.val T2 (len a0))),(61,(.val T2 v17)),(70,(.val T4 (!(Ty.eqb T27 v18 (el Z27 v14 (isub .i64 (len v14) (1:Int)))))))],[(0,.cells T27 o12),(1,.row T27 v14 28),(2,.cells T27 (el Z27 v14 (isub .i64 (len v14) (1:Int)))),(3,.cells T27 v18),(4,.cells T27 (el Z27 a0 v17))]⟩
noncomputable def r2_Wrap.c5q (a0:(List V27)) (o12:V27) (v14:(List V27)) (v17:Int) (v18:V27) (o:Int):SL:=(fun v=>⟨[(0,(.val T22 a0)),(3,(.val .ptr ⟨0,0,(0:Int),0,0⟩)),(6,(.val .own (1:Nat))),(7,(.val .ptr ⟨2,0,(0:Int),0,0⟩)),(8,(.val .ptr ⟨3,0,(0:Int),0,0⟩)),(10,(.val .ptr ⟨4,0,(0:Int),0,0⟩)),(11,(.val T2 v)),(59,(.val T22 a0)),(60,(.val T2 (len a0))),(61,(.val T2 v17))],[(0,.cells T27 o12),(1,.row T27 v14 28),(2,.cells T27 (el Z27 v14 (isub .i64 (len v14) (1:Int)))),(3,.cells T27 v18),(4,.cells T27 (el Z27 a0 v17))]⟩) o
noncomputable def r2_Wrap.c5x (o:Int):Ex:=(fun _=>.normal) o
noncomputable def r2_Wrap.c5n (o:Int):Nat:=(fun _=>5) o
theorem r2_Wrap.c5_ok (k:Nat) (a0:(List V27)) (o12:V27) (v14:(List V27)) (v17:Int) (v18:V27):Owp (r2_Wrap.c5 k a0 v14 v17 v18) fun o=>Triple PR (r2_Wrap.cx k) (sub r2_Wrap.code [1,1,1,1,1,0,0,0,1,0,1,1,0,1,0,0,1,1,0,0,1,1,1,0,1]) 5 (r2_Wrap.c5p a0 o12 v14 v17 v18) (r2_Wrap.c5x o) (r2_Wrap.c5n o) (r2_Wrap.c5q a0 o12 v14 v17 v18 o):=by
  unfold r2_Wrap.c5; exact
   Owp.bif (fun e22 =>
   Owp.some (triple_way (r2_Wrap.cok k) hmix [fF] [] [(0,0),(1,1),(2,2),(3,3),(4,4)] (via (finP (aI trivial (congrArg not e22)) .normal [(0,0),(1,1),(2,2),(3,3),(4,4)] (r2_Wrap.c5q a0 o12 v14 v17 v18 (0:Int))) (by kernel_rfl)))) (fun e22 =>
   Owp.bnd fun y23 e24 =>
   Owp.some (triple_way (r2_Wrap.cok k) hmix [tT,rS T2 y23] [] [(0,0),(1,1),(2,2),(3,3),(4,4)] (via (finP (aI (aI trivial (congrArg not e22)) e24) .normal [(0,0),(1,1),(2,2),(3,3),(4,4)] (r2_Wrap.c5q a0 o12 v14 v17 v18 y23)) (by kernel_rfl))))
noncomputable def r2_Wrap.c6p (a0:(List V27)) (o12:V27) (o25:Int) (v14:(List V27)) (v17:Int) (v18:V27):SL:=⟨[(0,(.val T22 a0)),(3,(.val .ptr ⟨0,0,(0:Int),0,0⟩)),(6,(.val .own (1:Nat))),(7,(.val .ptr ⟨2,0,(0:Int),0,0⟩)),(8,(.val .ptr ⟨3,0,(0:Int),0,0⟩)),(10,(.val .ptr ⟨4,0,(0:Int),0,0⟩)),(11,(.val T2 o25)),(59,(.val T22 a0)),(60,(.val T2 (len a0))),(61,(.val T2 v17))],[(0,.cells T27 o12),(1,.row T27 v14 28),(2,.cells T27 (el Z27 v14 (isub .i64 (len v14) (1:Int)))),(3,.cells T27 v18),(4,.cells T27 (el Z27 a0 v17))]⟩
noncomputable def r2_Wrap.c6q (a0:(List V27)) (o12:V27) (v14:(List V27)) (v17:Int) (v18:V27) (o:Bool):SL:=(fun v=>⟨[(0,(.val T22 a0)),(3,(.val .ptr ⟨0,0,(0:Int),0,0⟩)),(6,(.val .own (1:Nat))),(7,(.val .ptr ⟨2,0,(0:Int),0,0⟩)),(8,(.val .ptr ⟨3,0,(0:Int),0,0⟩)),(10,(.val .ptr ⟨4,0,(0:Int),0,0⟩)),(59,(.val T22 a0)),(60,(.val T2 (len a0))),(61,(.val T2 v17)),(103,(.val T4 v))],[(0,.cells T27 o12),(1,.row T27 v14 28),(2,.cells T27 (el Z27 v14 (isub .i64 (len v14) (1:Int)))),(3,.cells T27 v18),(4,.cells T27 (el Z27 a0 v17))]⟩) o
noncomputable def r2_Wrap.c6x (o:Bool):Ex:=(fun _=>.normal) o
noncomputable def r2_Wrap.c6n (o:Bool):Nat:=(fun _=>5) o
theorem r2_Wrap.c6_ok (k:Nat) (a0:(List V27)) (o12:V27) (o25:Int) (v14:(List V27)) (v17:Int) (v18:V27):Owp (r2_Wrap.c6 k a0 o25 v14 v17 v18) fun o=>Triple PR (r2_Wrap.cx k) (sub r2_Wrap.code [1,1,1,1,1,0,0,0,1,0,1,1,0,1,0,0,1,1,0,0,1,1,1,1,0]) 5 (r2_Wrap.c6p a0 o12 o25 v14 v17 v18) (r2_Wrap.c6x o) (r2_Wrap.c6n o) (r2_Wrap.c6q a0 o12 v14 v17 v18 o):=by
  unfold r2_Wrap.c6; exact
   Owp.bif (fun e27 =>
   Owp.some (triple_way (r2_Wrap.cok k) hmix [tT,tT,tT,tT,tT,tT,tT,tT,tT,tT,tT,tT,tT,tT,tT,tT,tT,tT,tT,tT,tT,tT,tT,tT,tT,tT,tT,tT,tT,tT,tT,tT] [] [(0,0),(1,1),(2,2),(3,3),(4,4)] (via (finP (aI (aI (aI (aI (aI (aI (aI (aI trivial e27) e27) e27) tt) tt) tt) tt) tt) .normal [(0,0),(1,1),(2,2),(3,3),(4,4)] (r2_Wrap.c6q a0 o12 v14 v17 v18 true)) (by kernel_rfl)))) (fun e27 =>
   Owp.bif (fun e28 =>
   Owp.some (triple_way (r2_Wrap.cok k) hmix [fF,fF,fF,tT,tT,tT,tT,tT,tT,tT,tT,tT,tT,tT,tT,tT,tT,tT,tT,tT,tT,tT,tT,tT,tT,tT,tT,tT,tT,tT,tT,tT] [] [(0,0),(1,1),(2,2),(3,3),(4,4)] (via (finP (aI (aI (aI (aI (aI (aI (aI (aI trivial e27) e27) e27) e28) e28) e28) e28) e28) .normal [(0,0),(1,1),(2,2),(3,3),(4,4)] (r2_Wrap.c6q a0 o12 v14 v17 v18 true)) (by kernel_rfl)))) (fun e28 =>
   Owp.bif (fun e29 =>
   Owp.bnd fun y30 e31 =>
   Owp.bnd fun y32 e33 =>
   Owp.bnd fun y34 e35 =>
   Owp.bnd fun y36 e37 =>
   Owp.bnd fun y38 e39 =>
   Owp.bnd fun y40 e41 =>
   Owp.bnd fun y42 e43 =>
   Owp.some (triple_way (r2_Wrap.cok k) hmix [fF,fF,fF,fF,fF,fF,tT,tT,tT,rS T27 y30,tT,tT,tT,rS T27 y32,tT,rS T141 y34,tT,tT,tT,rS T27 y36,tT,tT,tT,rS T27 y38,tT,rS T141 y40,tT,rS T2 y42,tT,fF,tT,fF] [] [(0,0),(1,1),(2,2),(3,3),(4,4)] (via (finP (aI (aI (aI (aI (aI (aI (aI (aI (aI (aI (aI (aI (aI (aI (aI (aI (aI (aI (aI (aI (aI (aI (aI (aI trivial e27) e27) e27) e28) e28) e28) e29) e29) (aI e29 e31)) e29) e29) (aI e29 e33)) (aI e29 e35)) e29) e29) (aI e29 e37)) e29) e29) (aI e29 e39)) (aI e29 e41)) (aI e29 e43)) e29) (aI e28 e29)) e28) .normal [(0,0),(1,1),(2,2),(3,3),(4,4)] (r2_Wrap.c6q a0 o12 v14 v17 v18 (igt y42 (0:Int)))) (by kernel_rfl)))) (fun e29 =>
   Owp.some (triple_way (r2_Wrap.cok k) hmix [fF,fF,fF,fF,fF,fF,fF,fF,fF,tT,fF,fF,fF,tT,fF,tT,fF,fF,fF,tT,fF,fF,fF,tT,fF,tT,fF,tT,fF,fF,fF,fF] [] [(0,0),(1,1),(2,2),(3,3),(4,4)] (via (finP (aI (aI (aI (aI (aI (aI (aI (aI (aI (aI (aI (aI (aI (aI (aI (aI (aI (aI (aI (aI (aI (aI (aI (aI trivial e27) e27) e27) e28) e28) e28) e29) e29) e29) e29) e29) e29) e29) e29) e29) e29) e29) e29) e29) e29) e29) e29) (aI e28 e29)) e28) .normal [(0,0),(1,1),(2,2),(3,3),(4,4)] (r2_Wrap.c6q a0 o12 v14 v17 v18 false)) (by kernel_rfl))))))
noncomputable def r2_Wrap.c4p (a0:(List V27)) (o12:V27) (v14:(List V27)) (v17:Int) (v18:V27):SL:=⟨[(0,(.val T22 a0)),(3,(.val .ptr ⟨0,0,(0:Int),0,0⟩)),(6,(.val .own (1:Nat))),(7,(.val .ptr ⟨2,0,(0:Int),0,0⟩)),(8,(.val .ptr ⟨3,0,(0:Int),0,0⟩)),(59,(.val T22 a0)),(60,(.val T2 (len a0))),(61,(.val T2 v17))],[(0,.cells T27 o12),(1,.row T27 v14 28),(2,.cells T27 (el Z27 v14 (isub .i64 (len v14) (1:Int)))),(3,.cells T27 v18)]⟩
noncomputable def r2_Wrap.c4q (a0:(List V27)) (o12:V27) (v14:(List V27)) (o:V27):SL:=(fun v=>⟨[(0,(.val T22 a0)),(3,(.val .ptr ⟨0,0,(0:Int),0,0⟩)),(6,(.val .own (1:Nat))),(7,(.val .ptr ⟨2,0,(0:Int),0,0⟩)),(8,(.val .ptr ⟨3,0,(0:Int),0,0⟩))],[(0,.cells T27 o12),(1,.row T27 v14 28),(2,.cells T27 (el Z27 v14 (isub .i64 (len v14) (1:Int)))),(3,.cells T27 v)]⟩) o
noncomputable def r2_Wrap.c4x (o:V27):Ex:=(fun _=>(.exit 4)) o
noncomputable def r2_Wrap.c4n (o:V27):Nat:=(fun _=>4) o
theorem r2_Wrap.c4_ok (k:Nat) (a0:(List V27)) (o12:V27) (v14:(List V27)):∀ (n:Nat) (v17:Int) (v18:V27),Owp (r2_Wrap.c4 k a0 v14 n v17 v18) fun o=>LTriple PR (r2_Wrap.cx k) (sub r2_Wrap.code [1,1,1,1,1,0,0,0,1,0,1,1,0,1,0,0]) 4 (r2_Wrap.c4p a0 o12 v14 v17 v18) (r2_Wrap.c4x o) (r2_Wrap.c4n o) (r2_Wrap.c4q a0 o12 v14 o)
  | 0,_,_=>fun _ h=>nomatch h
  | n+1,v17,v18=>Owp.of (r2_Wrap.c4.eq_2 ..) (
   Owp.bif (fun e19 =>
   Owp.req fun h20 =>
   Owp.bif (fun e21 =>
   fun y hy=>loop_back (r2_Wrap.cok k) hmix 4 (r2_Wrap.c4p a0 o12 v14 (iadd .i64 v17 (1:Int)) v18) [tT,tT] [] [(0,0),(1,1),(2,2),(3,3)] (via (finP (aI (aI (aI trivial e19) h20) e21) .normal [(0,0),(1,1),(2,2),(3,3)] (r2_Wrap.c4p a0 o12 v14 (iadd .i64 v17 (1:Int)) v18)) (by kernel_rfl)) ((r2_Wrap.c4_ok k a0 o12 v14 n (iadd .i64 v17 (1:Int)) v18).ap hy)) (fun e21 =>
   Owp.bnd fun o25 e26 =>
   Owp.bnd fun o44 e45 =>
   Owp.bif (fun e46 =>
   fun y hy=>loop_back (r2_Wrap.cok k) hmix 4 (r2_Wrap.c4p a0 o12 v14 (iadd .i64 v17 (1:Int)) (el Z27 a0 v17)) [tT,fF,.cut ⟨[],[(0,0),(1,1),(2,2),(3,3),(4,7)],(r2_Wrap.c5p a0 o12 v14 v17 v18),5,.normal,(r2_Wrap.c5q a0 o12 v14 v17 v18 o25),5⟩,.cutR 21 ⟨[],[(0,0),(1,1),(2,2),(3,3),(4,4)],(r2_Wrap.c6p a0 o12 o25 v14 v17 v18),5,.normal,(r2_Wrap.c6q a0 o12 v14 v17 v18 o44),5⟩,tT] [] [(0,0),(1,1),(2,2),(3,3)] (via (cutP (aI (aI (aI trivial e19) h20) e21) [(0,0),(1,1),(2,2),(3,3),(4,7)] (r2_Wrap.c5p a0 o12 v14 v17 v18) (((r2_Wrap.c5_ok k a0 o12 v14 v17 v18).ap e26)) (cutP trivial [(0,0),(1,1),(2,2),(3,3),(4,4)] (r2_Wrap.c6p a0 o12 o25 v14 v17 v18) (((r2_Wrap.c6_ok k a0 o12 o25 v14 v17 v18).ap e45)) (finP (aI trivial e46) .normal [(0,0),(1,1),(2,2),(3,3)] (r2_Wrap.c4p a0 o12 v14 (iadd .i64 v17 (1:Int)) (el Z27 a0 v17))))) (by kernel_rfl)) ((r2_Wrap.c4_ok k a0 o12 v14 n (iadd .i64 v17 (1:Int)) (el Z27 a0 v17)).ap hy)) (fun e46 =>
   fun y hy=>loop_back (r2_Wrap.cok k) hmix 4 (r2_Wrap.c4p a0 o12 v14 (iadd .i64 v17 (1:Int)) v18) [tT,fF,.cut ⟨[],[(0,0),(1,1),(2,2),(3,3),(4,7)],(r2_Wrap.c5p a0 o12 v14 v17 v18),5,.normal,(r2_Wrap.c5q a0 o12 v14 v17 v18 o25),5⟩,.cutR 21 ⟨[],[(0,0),(1,1),(2,2),(3,3),(4,4)],(r2_Wrap.c6p a0 o12 o25 v14 v17 v18),5,.normal,(r2_Wrap.c6q a0 o12 v14 v17 v18 o44),5⟩,fF] [] [(0,0),(1,1),(2,2),(3,3)] (via (cutP (aI (aI (aI trivial e19) h20) e21) [(0,0),(1,1),(2,2),(3,3),(4,7)] (r2_Wrap.c5p a0 o12 v14 v17 v18) (((r2_Wrap.c5_ok k a0 o12 v14 v17 v18).ap e26)) (cutP trivial [(0,0),(1,1),(2,2),(3,3),(4,4)] (r2_Wrap.c6p a0 o12 o25 v14 v17 v18) (((r2_Wrap.c6_ok k a0 o12 o25 v14 v17 v18).ap e45)) (finP (aI trivial e46) .normal [(0,0),(1,1),(2,2),(3,3)] (r2_Wrap.c4p a0 o12 v14 (iadd .i64 v17 (1:Int)) v18)))) (by kernel_rfl)) ((r2_Wrap.c4_ok k a0 o12 v14 n (iadd .i64 v17 (1:Int)) v18).ap hy)))) (fun e19 =>
   Owp.some (loop_exit (r2_Wrap.cok k) hmix [fF] [] [(0,0),(1,1),(2,2),(3,3)] (exne 4) (via (finP (aI trivial e19) (.exit 4) [(0,0),(1,1),(2,2),(3,3)] (r2_Wrap.c4q a0 o12 v14 v18)) (by kernel_rfl)))))
noncomputable def r2_Wrap.c7p (a0:(List V27)) (o12 o47:V27) (v14:(List V27)):SL:=⟨[(0,(.val T22 a0)),(3,(.val .ptr ⟨0,0,(0:Int),0,0⟩)),(6,(.val .own (1:Nat))),(7,(.val .ptr ⟨2,0,(0:Int),0,0⟩)),(8,(.val .ptr ⟨3,0,(0:Int),0,0⟩))],[(0,.cells T27 o12),(1,.row T27 v14 28),(2,.cells T27 (el Z27 v14 (isub .i64 (len v14) (1:Int)))),(3,.cells T27 o47)]⟩
noncomputable def r2_Wrap.c7q (a0:(List V27)) (o12 o47:V27) (v14:(List V27)) (o:Bool):SL:=(fun v=>⟨[(0,(.val T22 a0)),(3,(.val .ptr ⟨0,0,(0:Int),0,0⟩)),(6,(.val .own (1:Nat))),(8,(.val .ptr ⟨2,0,(0:Int),0,0⟩)),(113,(.val T4 v))],[(0,.cells T27 o12),(1,.row T27 v14 28),(2,.cells T27 o47)]⟩) o
noncomputable def r2_Wrap.c7x (o:Bool):Ex:=(fun _=>.normal) o
noncomputable def r2_Wrap.c7n (o:Bool):Nat:=(fun _=>3) o
theorem r2_Wrap.c7_ok (k:Nat) (a0:(List V27)) (o12 o47:V27) (v14:(List V27)):Owp (r2_Wrap.c7 k o12 o47 v14) fun o=>Triple PR (r2_Wrap.cx k) (sub r2_Wrap.code [1,1,1,1,1,0,0,0,1,0,1,1,1,0,0]) 4 (r2_Wrap.c7p a0 o12 o47 v14) (r2_Wrap.c7x o) (r2_Wrap.c7n o) (r2_Wrap.c7q a0 o12 o47 v14 o):=by
  unfold r2_Wrap.c7; exact
   Owp.bif (fun e49 =>
   Owp.some (triple_way (r2_Wrap.cok k) hmix [tT,tT,tT,tT] [] [(0,0),(1,1),(2,3)] (via (finP (aI (aI (aI (aI trivial e49) e49) e49) e49) .normal [(0,0),(1,1),(2,3)] (r2_Wrap.c7q a0 o12 o47 v14 true)) (by kernel_rfl)))) (fun e49 =>
   Owp.some (triple_way (r2_Wrap.cok k) hmix [fF,fF,fF,fF] [] [(0,0),(1,1),(2,3)] (via (finP (aI (aI (aI (aI trivial e49) e49) e49) e49) .normal [(0,0),(1,1),(2,3)] (r2_Wrap.c7q a0 o12 o47 v14 (Ty.eqb T27 o47 (el Z27 v14 (isub .i64 (len v14) (1:Int)))))) (by kernel_rfl))))
noncomputable def r2_Wrap.c3p (a0:(List V27)) (o12:V27) (v14:(List V27)):SL:=⟨[(0,(.val T22 a0)),(3,(.val .ptr ⟨0,0,(0:Int),0,0⟩)),(6,(.val .own (1:Nat)))],[(0,.cells T27 o12),(1,.row T27 v14 28)]⟩
noncomputable def r2_Wrap.c3q (o:(List V27)):SL:=(fun v=>⟨[(6,(.val .own (0:Nat)))],[(0,.row T27 v 28)]⟩) o
noncomputable def r2_Wrap.c3x (o:(List V27)):Ex:=(fun _=>(.exit 2)) o
noncomputable def r2_Wrap.c3n (o:(List V27)):Nat:=(fun _=>1) o
theorem r2_Wrap.c3_ok (k:Nat) (a0:(List V27)) (o12:V27):∀ (n:Nat) (v14:(List V27)),Owp (r2_Wrap.c3 k a0 o12 n v14) fun o=>LTriple PR (r2_Wrap.cx k) (sub r2_Wrap.code [1,1,1,1,1,0,0,0]) 2 (r2_Wrap.c3p a0 o12 v14) (r2_Wrap.c3x o) (r2_Wrap.c3n o) (r2_Wrap.c3q o)
  | 0,_=>fun _ h=>nomatch h
  | n+1,v14=>Owp.of (r2_Wrap.c3.eq_2 ..) (
   Owp.bif (fun e15 =>
   Owp.req fun h16 =>
   Owp.bnd fun o47 e48 =>
   Owp.bnd fun o50 e51 =>
   Owp.bif (fun e52 =>
   Owp.some (loop_exit (r2_Wrap.cok k) hmix [tT,.cut ⟨[],[(0,0),(1,1),(2,13),(3,16)],(r2_Wrap.c4p a0 o12 v14 (0:Int) (el Z27 v14 (isub .i64 (len v14) (1:Int)))),4,(.exit 4),(r2_Wrap.c4q a0 o12 v14 o47),4⟩,.cutR 24 ⟨[],[(0,0),(1,1),(2,2),(3,3)],(r2_Wrap.c7p a0 o12 o47 v14),4,.normal,(r2_Wrap.c7q a0 o12 o47 v14 o50),3⟩,tT] [] [(0,1)] (exne 2) (via (cutP (aI (aI (aI trivial e15) h16) h16) [(0,0),(1,1),(2,13),(3,16)] (r2_Wrap.c4p a0 o12 v14 (0:Int) (el Z27 v14 (isub .i64 (len v14) (1:Int)))) (((r2_Wrap.c4_ok k a0 o12 v14 k (0:Int) (el Z27 v14 (isub .i64 (len v14) (1:Int)))).ap e48).triple) (cutP trivial [(0,0),(1,1),(2,2),(3,3)] (r2_Wrap.c7p a0 o12 o47 v14) (((r2_Wrap.c7_ok k a0 o12 o47 v14).ap e51)) (finP (aI trivial e52) (.exit 2) [(0,1)] (r2_Wrap.c3q v14)))) (by kernel_rfl)))) (fun e52 =>
   Owp.req fun h53 =>
   fun y hy=>loop_back (r2_Wrap.cok k) hmix 2 (r2_Wrap.c3p a0 o12 (v14 ++ [o47])) [tT,.cut ⟨[],[(0,0),(1,1),(2,13),(3,16)],(r2_Wrap.c4p a0 o12 v14 (0:Int) (el Z27 v14 (isub .i64 (len v14) (1:Int)))),4,(.exit 4),(r2_Wrap.c4q a0 o12 v14 o47),4⟩,.cutR 24 ⟨[],[(0,0),(1,1),(2,2),(3,3)],(r2_Wrap.c7p a0 o12 o47 v14),4,.normal,(r2_Wrap.c7q a0 o12 o47 v14 o50),3⟩,fF,tT] [] [(0,0),(1,6)] (via (cutP (aI (aI (aI trivial e15) h16) h16) [(0,0),(1,1),(2,13),(3,16)] (r2_Wrap.c4p a0 o12 v14 (0:Int) (el Z27 v14 (isub .i64 (len v14) (1:Int)))) (((r2_Wrap.c4_ok k a0 o12 v14 k (0:Int) (el Z27 v14 (isub .i64 (len v14) (1:Int)))).ap e48).triple) (cutP trivial [(0,0),(1,1),(2,2),(3,3)] (r2_Wrap.c7p a0 o12 o47 v14) (((r2_Wrap.c7_ok k a0 o12 o47 v14).ap e51)) (finP (aI (aI trivial e52) h53) .normal [(0,0),(1,6)] (r2_Wrap.c3p a0 o12 (v14 ++ [o47]))))) (by kernel_rfl)) ((r2_Wrap.c3_ok k a0 o12 n (v14 ++ [o47])).ap hy))) (fun e15 =>
   Owp.some (loop_exit (r2_Wrap.cok k) hmix [fF] [] [(0,1)] (exne 2) (via (finP (aI trivial e15) (.exit 2) [(0,1)] (r2_Wrap.c3q v14)) (by kernel_rfl)))))
theorem r2_Wrap.way (k:Nat) (a0:(List V27)):Owp (r2_Wrap k a0) fun y=>∃ w c0,exec PR (r2_Wrap.cx k) r2_Wrap.code 0 (entry (.pair T22 .unit) (a0,())).st w (Ret (r2_Wrap.cx k) Try.f95 c0 (.one (.ow T27 28)) y):=by
  unfold r2_Wrap; exact
   Owp.bif (fun e1 =>
   Owp.some (⟨[tT],[.own 2 T27 28],via (retP (aI trivial e1) (.one (.ow T27 28)) ([]:(List V27))) (by kernel_rfl)⟩)) (fun e1 =>
   Owp.req fun h2 =>
   Owp.bnd fun o12 e13 =>
   Owp.bnd fun o54 e55 =>
   Owp.some (⟨[fF,.cut ⟨[],[(0,7)],(r2_Wrap.c1p a0 (0:Int) (el Z27 a0 (0:Int))),1,(.exit 0),(r2_Wrap.c1q a0 o12),1⟩,tT,.cut ⟨[],[(0,0),(1,2)],(r2_Wrap.c3p a0 o12 [o12]),2,(.exit 2),(r2_Wrap.c3q o54),1⟩],[],via (cutP (aI (aI trivial e1) h2) [(0,7)] (r2_Wrap.c1p a0 (0:Int) (el Z27 a0 (0:Int))) (((r2_Wrap.c1_ok k a0 k (0:Int) (el Z27 a0 (0:Int))).ap e13).triple) (cutP trivial [(0,0),(1,2)] (r2_Wrap.c3p a0 o12 [o12]) (((r2_Wrap.c3_ok k a0 o12 k [o12]).ap e55).triple) (retP trivial (.one (.ow T27 28)) (o54:(List V27))))) (by kernel_rfl)⟩))
theorem r2_Wrap.ok (k:Nat):FnOk PR 95 (r2_Wrap.sp k) :=
  fn_ok (r2_Wrap.cok k) hmix Try.func95 (code:=r2_Wrap.code) (by kernel_rfl) (by kernel_rfl) (by kernel_rfl) rfl rfl (by kernel_rfl) (by kernel_rfl) (by kernel_rfl) (fun x=>Nat.le_of_ble_eq_true (by kernel_rfl)) fun x y hy=>(r2_Wrap.way k x.1).ap hy
noncomputable def r2_Poly.code:Code:=Func.cd Try.f59
def r2_Poly.c1 (k:Nat) (a0:(List V27)):Nat → Int → Option (Unit ⊕ Unit)
  | 0,_=>none
  | n+1,v3 =>
   bif' (ilt v3 (len a0))
   (req (inL v3 a0) <|
   bnd (r2_coord k (el Z27 a0 v3) 65536000) fun y6 =>
   bif' y6
   (r2_Poly.c1 k a0 n (iadd .i64 v3 1))
   (some (.inl ())))
   (some (.inr ()))
def r2_Poly.c4 (k:Nat) (a0:(List V27)) (v15 v17:Int):Nat → Int → Option (Unit ⊕ Unit)
  | 0,_=>none
  | n+1,v19 =>
   bif' (ilt v19 (len a0))
   (req (inL v15 a0) <|
   req (inL v17 a0) <|
   req (inL v19 a0) <|
   bnd (r2_left k (el Z27 a0 v15) (el Z27 a0 v17) (el Z27 a0 v19)) fun y24 =>
   bif' (ile y24 0)
   (some (.inl ()))
   (r2_Poly.c4 k a0 v15 v17 n (iadd .i64 v19 1)))
   (some (.inr ()))
def r2_Poly.c3 (k:Nat) (a0:(List V27)) (v15:Int):Nat → Int → Option (Unit ⊕ Unit)
  | 0,_=>none
  | n+1,v17 =>
   bif' (ilt v17 (len a0))
   (bnd (r2_Poly.c4 k a0 v15 v17 k (iadd .i64 v17 1)) fun o27 =>
   two o27 (fun y29 =>
   some (.inl ())) (fun y31 =>
   r2_Poly.c3 k a0 v15 n (iadd .i64 v17 1)))
   (some (.inr ()))
def r2_Poly.c2 (k:Nat) (a0:(List V27)):Nat → Int → Option (Unit ⊕ Unit)
  | 0,_=>none
  | n+1,v15 =>
   bif' (ilt v15 (len a0))
   (bnd (r2_Poly.c3 k a0 v15 k (iadd .i64 v15 1)) fun o33 =>
   two o33 (fun y35 =>
   some (.inl ())) (fun y37 =>
   r2_Poly.c2 k a0 n (iadd .i64 v15 1)))
   (some (.inr ()))
def r2_Poly (k:Nat) (a0:(List V27)):Option Int :=
  bif' (igt (len a0) 8)
  (some 2)
  (bif' (ilt (len a0) 3)
   (some 3)
   (bnd (r2_Poly.c1 k a0 k 0) fun o9 =>
   two o9 (fun y11 =>
   some 1) (fun y13 =>
   bnd (r2_Poly.c2 k a0 k 0) fun o39 =>
   two o39 (fun y41 =>
   some 3) (fun y43 =>
   some 0))))
noncomputable def r2_Poly.sp (k:Nat):Go.Sx.Spec:=⟨(.pair T22 .unit),(.one (.dp T2)),fun x=>r2_Poly k x.1,false⟩
noncomputable def r2_Poly.cx (k:Nat):Go.Sx.Ctx:=⟨tys,[(94,r2_coord.sp k),(130,r2_left.sp k)],eqs,60,0,[],false⟩
theorem r2_Poly.cok (k:Nat):CtxOk PR (r2_Poly.cx k):=ctx_ok tysOk eqsOk (FnsOk.cons (r2_coord.ok k) (FnsOk.cons (r2_left.ok k) FnsOk.nil)) HsOk.nil
noncomputable def r2_Poly.c1p (a0:(List V27)) (v3:Int):SL:=⟨[(0,(.val T22 a0)),(3,(.val T2 (len a0))),(17,(.val T22 a0)),(18,(.val T2 (len a0))),(19,(.val T2 v3))],[]⟩
noncomputable def r2_Poly.c1q (a0:(List V27)) (o:Unit ⊕ Unit):SL:=(fun o=>two o (fun v=>⟨[(2,(.val T2 (1:Int)))],[]⟩) (fun v=>⟨[(0,(.val T22 a0)),(3,(.val T2 (len a0)))],[]⟩)) o
noncomputable def r2_Poly.c1x (o:Unit ⊕ Unit):Ex:=(fun o=>two o (fun _=>.ret) (fun _=>(.exit 1))) o
noncomputable def r2_Poly.c1n (o:Unit ⊕ Unit):Nat:=(fun o=>two o (fun _=>0) (fun _=>0)) o
theorem r2_Poly.c1_ok (k:Nat) (a0:(List V27)):∀ (n:Nat) (v3:Int),Owp (r2_Poly.c1 k a0 n v3) fun o=>LTriple PR (r2_Poly.cx k) (sub r2_Poly.code [1,1,1,0,1,0,0]) 0 (r2_Poly.c1p a0 v3) (r2_Poly.c1x o) (r2_Poly.c1n o) (r2_Poly.c1q a0 o)
  | 0,_=>fun _ h=>nomatch h
  | n+1,v3=>Owp.of (r2_Poly.c1.eq_2 ..) (
   Owp.bif (fun e4 =>
   Owp.req fun h5 =>
   Owp.bnd fun y6 e7 =>
   Owp.bif (fun e8 =>
   fun y hy=>loop_back (r2_Poly.cok k) hmix 0 (r2_Poly.c1p a0 (iadd .i64 v3 (1:Int))) [tT,rS T4 y6,fF] [] [] (via (finP (aI (aI (aI (aI trivial e4) h5) e7) (congrArg not e8)) .normal [] (r2_Poly.c1p a0 (iadd .i64 v3 (1:Int)))) (by kernel_rfl)) ((r2_Poly.c1_ok k a0 n (iadd .i64 v3 (1:Int))).ap hy)) (fun e8 =>
   Owp.some (loop_exit (r2_Poly.cok k) hmix [tT,rS T4 y6,tT] [] [] exne_ret (via (finP (aI (aI (aI (aI trivial e4) h5) e7) (congrArg not e8)) .ret [] (r2_Poly.c1q a0 (.inl ()))) (by kernel_rfl))))) (fun e4 =>
   Owp.some (loop_exit (r2_Poly.cok k) hmix [fF] [] [] (exne 1) (via (finP (aI trivial e4) (.exit 1) [] (r2_Poly.c1q a0 (.inr ()))) (by kernel_rfl)))))
noncomputable def r2_Poly.c4p (a0:(List V27)) (v15 v17 v19:Int):SL:=⟨[(0,(.val T22 a0)),(3,(.val T2 (len a0))),(6,(.val T2 v15)),(7,(.val T2 v17)),(8,(.val T2 v19)),(27,(.val T2 (len a0))),(28,(.val T2 v15))],[]⟩
noncomputable def r2_Poly.c4q (a0:(List V27)) (v15 v17:Int) (o:Unit ⊕ Unit):SL:=(fun o=>two o (fun v=>⟨[(2,(.val T2 (3:Int)))],[]⟩) (fun v=>⟨[(0,(.val T22 a0)),(3,(.val T2 (len a0))),(6,(.val T2 v15)),(7,(.val T2 v17)),(27,(.val T2 (len a0))),(28,(.val T2 v15))],[]⟩)) o
noncomputable def r2_Poly.c4x (o:Unit ⊕ Unit):Ex:=(fun o=>two o (fun _=>.ret) (fun _=>(.exit 7))) o
noncomputable def r2_Poly.c4n (o:Unit ⊕ Unit):Nat:=(fun o=>two o (fun _=>0) (fun _=>0)) o
theorem r2_Poly.c4_ok (k:Nat) (a0:(List V27)) (v15 v17:Int):∀ (n:Nat) (v19:Int),Owp (r2_Poly.c4 k a0 v15 v17 n v19) fun o=>LTriple PR (r2_Poly.cx k) (sub r2_Poly.code [1,1,1,1,0,1,0,0,1,1,0,0,1,1,0,0,1,0,0,1,0,0]) 0 (r2_Poly.c4p a0 v15 v17 v19) (r2_Poly.c4x o) (r2_Poly.c4n o) (r2_Poly.c4q a0 v15 v17 o)
  | 0,_=>fun _ h=>nomatch h
  | n+1,v19=>Owp.of (r2_Poly.c4.eq_2 ..) (
   Owp.bif (fun e20 =>
   Owp.req fun h21 =>
   Owp.req fun h22 =>
   Owp.req fun h23 =>
   Owp.bnd fun y24 e25 =>
   Owp.bif (fun e26 =>
   Owp.some (loop_exit (r2_Poly.cok k) hmix [tT,rS T2 y24,tT] [] [] exne_ret (via (finP (aI (aI (aI (aI (aI (aI trivial e20) h21) h22) h23) e25) e26) .ret [] (r2_Poly.c4q a0 v15 v17 (.inl ()))) (by kernel_rfl)))) (fun e26 =>
   fun y hy=>loop_back (r2_Poly.cok k) hmix 0 (r2_Poly.c4p a0 v15 v17 (iadd .i64 v19 (1:Int))) [tT,rS T2 y24,fF] [] [] (via (finP (aI (aI (aI (aI (aI (aI trivial e20) h21) h22) h23) e25) e26) .normal [] (r2_Poly.c4p a0 v15 v17 (iadd .i64 v19 (1:Int)))) (by kernel_rfl)) ((r2_Poly.c4_ok k a0 v15 v17 n (iadd .i64 v19 (1:Int))).ap hy))) (fun e20 =>
   Owp.some (loop_exit (r2_Poly.cok k) hmix [fF] [] [] (exne 7) (via (finP (aI trivial e20) (.exit 7) [] (r2_Poly.c4q a0 v15 v17 (.inr ()))) (by kernel_rfl)))))
noncomputable def r2_Poly.c3p (a0:(List V27)) (v15 v17:Int):SL:=⟨[(0,(.val T22 a0)),(3,(.val T2 (len a0))),(6,(.val T2 v15)),(7,(.val T2 v17)),(27,(.val T2 (len a0))),(28,(.val T2 v15))],[]⟩
noncomputable def r2_Poly.c3q (a0:(List V27)) (v15:Int) (o:Unit ⊕ Unit):SL:=(fun o=>two o (fun v=>⟨[(2,(.val T2 (3:Int)))],[]⟩) (fun v=>⟨[(0,(.val T22 a0)),(3,(.val T2 (len a0))),(27,(.val T2 (len a0))),(28,(.val T2 v15))],[]⟩)) o
noncomputable def r2_Poly.c3x (o:Unit ⊕ Unit):Ex:=(fun o=>two o (fun _=>.ret) (fun _=>(.exit 5))) o
noncomputable def r2_Poly.c3n (o:Unit ⊕ Unit):Nat:=(fun o=>two o (fun _=>0) (fun _=>0)) o
theorem r2_Poly.c3_ok (k:Nat) (a0:(List V27)) (v15:Int):∀ (n:Nat) (v17:Int),Owp (r2_Poly.c3 k a0 v15 n v17) fun o=>LTriple PR (r2_Poly.cx k) (sub r2_Poly.code [1,1,1,1,0,1,0,0,1,1,0,0,1,1,0,0]) 0 (r2_Poly.c3p a0 v15 v17) (r2_Poly.c3x o) (r2_Poly.c3n o) (r2_Poly.c3q a0 v15 o)
  | 0,_=>fun _ h=>nomatch h
  | n+1,v17=>Owp.of (r2_Poly.c3.eq_2 ..) (
   Owp.bif (fun e18 =>
   Owp.bnd fun o27 e28 =>
   Owp.two (fun y29 e30 =>
   Owp.some (loop_exit (r2_Poly.cok k) hmix [tT,.cut ⟨[],[],(r2_Poly.c4p a0 v15 v17 (iadd .i64 v17 (1:Int))),0,.ret,(r2_Poly.c4q a0 v15 v17 (.inl ())),0⟩] [] [] exne_ret (via (cutP (aI trivial e18) [] (r2_Poly.c4p a0 v15 v17 (iadd .i64 v17 (1:Int))) (((r2_Poly.c4_ok k a0 v15 v17 k (iadd .i64 v17 (1:Int))).ap (e28.trans (congrArg some e30))).triple) (finP trivial .ret [] (r2_Poly.c3q a0 v15 (.inl ())))) (by kernel_rfl)))) (fun y31 e32 =>
   fun y hy=>loop_back (r2_Poly.cok k) hmix 0 (r2_Poly.c3p a0 v15 (iadd .i64 v17 (1:Int))) [tT,.cut ⟨[],[],(r2_Poly.c4p a0 v15 v17 (iadd .i64 v17 (1:Int))),0,(.exit 7),(r2_Poly.c4q a0 v15 v17 (.inr ())),0⟩] [] [] (via (cutP (aI trivial e18) [] (r2_Poly.c4p a0 v15 v17 (iadd .i64 v17 (1:Int))) (((r2_Poly.c4_ok k a0 v15 v17 k (iadd .i64 v17 (1:Int))).ap (e28.trans (congrArg some e32))).triple) (finP trivial .normal [] (r2_Poly.c3p a0 v15 (iadd .i64 v17 (1:Int))))) (by kernel_rfl)) ((r2_Poly.c3_ok k a0 v15 n (iadd .i64 v17 (1:Int))).ap hy))) (fun e18 =>
   Owp.some (loop_exit (r2_Poly.cok k) hmix [fF] [] [] (exne 5) (via (finP (aI trivial e18) (.exit 5) [] (r2_Poly.c3q a0 v15 (.inr ()))) (by kernel_rfl)))))
noncomputable def r2_Poly.c2p (a0:(List V27)) (v15:Int):SL:=⟨[(0,(.val T22 a0)),(3,(.val T2 (len a0))),(27,(.val T2 (len a0))),(28,(.val T2 v15))],[]⟩
noncomputable def r2_Poly.c2q (o:Unit ⊕ Unit):SL:=(fun o=>two o (fun v=>⟨[(2,(.val T2 (3:Int)))],[]⟩) (fun v=>⟨[],[]⟩)) o
noncomputable def r2_Poly.c2x (o:Unit ⊕ Unit):Ex:=(fun o=>two o (fun _=>.ret) (fun _=>(.exit 3))) o
noncomputable def r2_Poly.c2n (o:Unit ⊕ Unit):Nat:=(fun o=>two o (fun _=>0) (fun _=>0)) o
theorem r2_Poly.c2_ok (k:Nat) (a0:(List V27)):∀ (n:Nat) (v15:Int),Owp (r2_Poly.c2 k a0 n v15) fun o=>LTriple PR (r2_Poly.cx k) (sub r2_Poly.code [1,1,1,1,0,1,0,0]) 0 (r2_Poly.c2p a0 v15) (r2_Poly.c2x o) (r2_Poly.c2n o) (r2_Poly.c2q o)
  | 0,_=>fun _ h=>nomatch h
  | n+1,v15=>Owp.of (r2_Poly.c2.eq_2 ..) (
   Owp.bif (fun e16 =>
   Owp.bnd fun o33 e34 =>
   Owp.two (fun y35 e36 =>
   Owp.some (loop_exit (r2_Poly.cok k) hmix [tT,.cut ⟨[],[],(r2_Poly.c3p a0 v15 (iadd .i64 v15 (1:Int))),0,.ret,(r2_Poly.c3q a0 v15 (.inl ())),0⟩] [] [] exne_ret (via (cutP (aI trivial e16) [] (r2_Poly.c3p a0 v15 (iadd .i64 v15 (1:Int))) (((r2_Poly.c3_ok k a0 v15 k (iadd .i64 v15 (1:Int))).ap (e34.trans (congrArg some e36))).triple) (finP trivial .ret [] (r2_Poly.c2q (.inl ())))) (by kernel_rfl)))) (fun y37 e38 =>
   fun y hy=>loop_back (r2_Poly.cok k) hmix 0 (r2_Poly.c2p a0 (iadd .i64 v15 (1:Int))) [tT,.cut ⟨[],[],(r2_Poly.c3p a0 v15 (iadd .i64 v15 (1:Int))),0,(.exit 5),(r2_Poly.c3q a0 v15 (.inr ())),0⟩] [] [] (via (cutP (aI trivial e16) [] (r2_Poly.c3p a0 v15 (iadd .i64 v15 (1:Int))) (((r2_Poly.c3_ok k a0 v15 k (iadd .i64 v15 (1:Int))).ap (e34.trans (congrArg some e38))).triple) (finP trivial .normal [] (r2_Poly.c2p a0 (iadd .i64 v15 (1:Int))))) (by kernel_rfl)) ((r2_Poly.c2_ok k a0 n (iadd .i64 v15 (1:Int))).ap hy))) (fun e16 =>
   Owp.some (loop_exit (r2_Poly.cok k) hmix [fF] [] [] (exne 3) (via (finP (aI trivial e16) (.exit 3) [] (r2_Poly.c2q (.inr ()))) (by kernel_rfl)))))
theorem r2_Poly.way (k:Nat) (a0:(List V27)):Owp (r2_Poly k a0) fun y=>∃ w c0,exec PR (r2_Poly.cx k) r2_Poly.code 0 (entry (.pair T22 .unit) (a0,())).st w (Ret (r2_Poly.cx k) Try.f59 c0 (.one (.dp T2)) y):=by
  unfold r2_Poly; exact
   Owp.bif (fun e1 =>
   Owp.some (⟨[tT],[],via (retP (aI trivial e1) (.one (.dp T2)) ((2:Int):Int)) (by kernel_rfl)⟩)) (fun e1 =>
   Owp.bif (fun e2 =>
   Owp.some (⟨[fF,tT],[],via (retP (aI (aI trivial e1) e2) (.one (.dp T2)) ((3:Int):Int)) (by kernel_rfl)⟩)) (fun e2 =>
   Owp.bnd fun o9 e10 =>
   Owp.two (fun y11 e12 =>
   Owp.some (⟨[fF,fF,.cut ⟨[],[],(r2_Poly.c1p a0 (0:Int)),0,.ret,(r2_Poly.c1q a0 (.inl ())),0⟩],[],via (cutP (aI (aI trivial e1) e2) [] (r2_Poly.c1p a0 (0:Int)) (((r2_Poly.c1_ok k a0 k (0:Int)).ap (e10.trans (congrArg some e12))).triple) (retP trivial (.one (.dp T2)) ((1:Int):Int))) (by kernel_rfl)⟩)) (fun y13 e14 =>
   Owp.bnd fun o39 e40 =>
   Owp.two (fun y41 e42 =>
   Owp.some (⟨[fF,fF,.cut ⟨[],[],(r2_Poly.c1p a0 (0:Int)),0,(.exit 1),(r2_Poly.c1q a0 (.inr ())),0⟩,.cut ⟨[],[],(r2_Poly.c2p a0 (0:Int)),0,.ret,(r2_Poly.c2q (.inl ())),0⟩],[],via (cutP (aI (aI trivial e1) e2) [] (r2_Poly.c1p a0 (0:Int)) (((r2_Poly.c1_ok k a0 k (0:Int)).ap (e10.trans (congrArg some e14))).triple) (cutP trivial [] (r2_Poly.c2p a0 (0:Int)) (((r2_Poly.c2_ok k a0 k (0:Int)).ap (e40.trans (congrArg some e42))).triple) (retP trivial (.one (.dp T2)) ((3:Int):Int)))) (by kernel_rfl)⟩)) (fun y43 e44 =>
   Owp.some (⟨[fF,fF,.cut ⟨[],[],(r2_Poly.c1p a0 (0:Int)),0,(.exit 1),(r2_Poly.c1q a0 (.inr ())),0⟩,.cut ⟨[],[],(r2_Poly.c2p a0 (0:Int)),0,(.exit 3),(r2_Poly.c2q (.inr ())),0⟩],[],via (cutP (aI (aI trivial e1) e2) [] (r2_Poly.c1p a0 (0:Int)) (((r2_Poly.c1_ok k a0 k (0:Int)).ap (e10.trans (congrArg some e14))).triple) (cutP trivial [] (r2_Poly.c2p a0 (0:Int)) (((r2_Poly.c2_ok k a0 k (0:Int)).ap (e40.trans (congrArg some e44))).triple) (retP trivial (.one (.dp T2)) ((0:Int):Int)))) (by kernel_rfl)⟩)))))
theorem r2_Poly.ok (k:Nat):FnOk PR 59 (r2_Poly.sp k) :=
  fn_ok (r2_Poly.cok k) hmix Try.func59 (code:=r2_Poly.code) (by kernel_rfl) (by kernel_rfl) (by kernel_rfl) rfl rfl (by kernel_rfl) (by kernel_rfl) (by kernel_rfl) (fun x=>Nat.le_of_ble_eq_true (by kernel_rfl)) fun x y hy=>(r2_Poly.way k x.1).ap hy
noncomputable def r2_World.code:Code:=Func.cd Try.f74
def r2_World (k:Nat) (a0:V67) (a1:V27):Option V27 :=
  bnd (vec_Turn k a1 a0.2.2.1) fun y1 =>
  bnd (fix_Add k y1.1 a0.1.1) fun y3 =>
  bnd (fix_Add k y1.2.1 a0.1.2.1) fun y5 =>
  some (y3,y5,())
noncomputable def r2_World.sp (k:Nat):Go.Sx.Spec:=⟨(.pair T67 (.pair T27 .unit)),(.one (.dp T27)),fun x=>r2_World k x.1 x.2.1,false⟩
noncomputable def r2_World.cx (k:Nat):Go.Sx.Ctx:=⟨tys,[(140,vec_Turn.sp k),(120,fix_Add.sp k)],eqs,23,0,[],false⟩
theorem r2_World.cok (k:Nat):CtxOk PR (r2_World.cx k):=ctx_ok tysOk eqsOk (FnsOk.cons (vec_Turn.ok k) (FnsOk.cons (fix_Add.ok k) FnsOk.nil)) HsOk.nil
theorem r2_World.way (k:Nat) (a0:V67) (a1:V27):Owp (r2_World k a0 a1) fun y=>∃ w c0,exec PR (r2_World.cx k) r2_World.code 0 (entry (.pair T67 (.pair T27 .unit)) (a0,a1,())).st w (Ret (r2_World.cx k) Try.f74 c0 (.one (.dp T27)) y):=by
  unfold r2_World; exact
   Owp.bnd fun y1 e2 =>
   Owp.bnd fun y3 e4 =>
   Owp.bnd fun y5 e6 =>
   Owp.some (⟨[rS T27 y1,rS T2 y3,rS T2 y5],[],via (retP (aI (aI (aI trivial e2) e4) e6) (.one (.dp T27)) ((y3,y5,()):V27)) (by kernel_rfl)⟩)
theorem r2_World.ok (k:Nat):FnOk PR 74 (r2_World.sp k) :=
  fn_ok (r2_World.cok k) hmix Try.func74 (code:=r2_World.code) (by kernel_rfl) (by kernel_rfl) (by kernel_rfl) rfl rfl (by kernel_rfl) (by kernel_rfl) (by kernel_rfl) (fun x=>Nat.le_of_ble_eq_true (by kernel_rfl)) fun x y hy=>(r2_World.way k x.1 x.2.1).ap hy
noncomputable def r2_Placed.code:Code:=Func.cd Try.f61
def r2_Placed.c1 (k:Nat) (a0:V67):Nat → Int → (List V27) → Option ((List V27))
  | 0,_,_=>none
  | n+1,v2,v3 =>
   bif' (ilt v2 (len (mk0 Z27 (len a0.2.2.2.2.2.2.2.2.1))))
   (req (inL v2 a0.2.2.2.2.2.2.2.2.1) <|
   bnd (r2_World k a0 (el Z27 a0.2.2.2.2.2.2.2.2.1 v2)) fun y6 =>
   req (inL v2 v3) <|
   r2_Placed.c1 k a0 n (iadd .i64 v2 1) (st v3 v2 y6))
   (some v3)
def r2_Placed (k:Nat) (a0:V67):Option (List V27) :=
  req (mkOk 16 (len a0.2.2.2.2.2.2.2.2.1) (len a0.2.2.2.2.2.2.2.2.1)) <|
  bnd (r2_Placed.c1 k a0 k 0 (mk0 Z27 (len a0.2.2.2.2.2.2.2.2.1))) fun o9 =>
  some o9
noncomputable def r2_Placed.sp (k:Nat):Go.Sx.Spec:=⟨(.pair T67 .unit),(.one (.ow T27 28)),fun x=>r2_Placed k x.1,false⟩
noncomputable def r2_Placed.cx (k:Nat):Go.Sx.Ctx:=⟨tys,[(74,r2_World.sp k)],eqs,26,0,[],false⟩
theorem r2_Placed.cok (k:Nat):CtxOk PR (r2_Placed.cx k):=ctx_ok tysOk eqsOk (FnsOk.cons (r2_World.ok k) FnsOk.nil) HsOk.nil
noncomputable def r2_Placed.c1p (a0:V67) (v2:Int) (v3:(List V27)):SL:=⟨[(1,(.val .ptr ⟨0,0,(0:Int),0,0⟩)),(3,(.val .own (1:Nat))),(10,(.val T2 (len (mk0 Z27 (len a0.2.2.2.2.2.2.2.2.1))))),(11,(.val T2 v2))],[(0,.cells T67 a0),(1,.row T27 v3 28)]⟩
noncomputable def r2_Placed.c1q (o:(List V27)):SL:=(fun v=>⟨[(3,(.val .own (0:Nat)))],[(0,.row T27 v 28)]⟩) o
noncomputable def r2_Placed.c1x (o:(List V27)):Ex:=(fun _=>(.exit 0)) o
noncomputable def r2_Placed.c1n (o:(List V27)):Nat:=(fun _=>1) o
theorem r2_Placed.c1_ok (k:Nat) (a0:V67):∀ (n:Nat) (v2:Int) (v3:(List V27)),Owp (r2_Placed.c1 k a0 n v2 v3) fun o=>LTriple PR (r2_Placed.cx k) (sub r2_Placed.code [1,1,0,1,0,0]) 2 (r2_Placed.c1p a0 v2 v3) (r2_Placed.c1x o) (r2_Placed.c1n o) (r2_Placed.c1q o)
  | 0,_,_=>fun _ h=>nomatch h
  | n+1,v2,v3=>Owp.of (r2_Placed.c1.eq_2 ..) (
   Owp.bif (fun e4 =>
   Owp.req fun h5 =>
   Owp.bnd fun y6 e7 =>
   Owp.req fun h8 =>
   fun y hy=>loop_back (r2_Placed.cok k) hmix 2 (r2_Placed.c1p a0 (iadd .i64 v2 (1:Int)) (st v3 v2 y6)) [tT,rS T27 y6] [] [(0,0),(1,1)] (via (finP (aI (aI (aI (aI (aI trivial e4) h5) e7) h8) h8) .normal [(0,0),(1,1)] (r2_Placed.c1p a0 (iadd .i64 v2 (1:Int)) (st v3 v2 y6))) (by kernel_rfl)) ((r2_Placed.c1_ok k a0 n (iadd .i64 v2 (1:Int)) (st v3 v2 y6)).ap hy)) (fun e4 =>
   Owp.some (loop_exit (r2_Placed.cok k) hmix [fF] [] [(0,1)] (exne 0) (via (finP (aI trivial e4) (.exit 0) [(0,1)] (r2_Placed.c1q v3)) (by kernel_rfl)))))
theorem r2_Placed.way (k:Nat) (a0:V67):Owp (r2_Placed k a0) fun y=>∃ w c0,exec PR (r2_Placed.cx k) r2_Placed.code 0 (entry (.pair T67 .unit) (a0,())).st w (Ret (r2_Placed.cx k) Try.f61 c0 (.one (.ow T27 28)) y):=by
  unfold r2_Placed; exact
   Owp.req fun h1 =>
   Owp.bnd fun o9 e10 =>
   Owp.some (⟨[.cut ⟨[],[(0,0),(1,5)],(r2_Placed.c1p a0 (0:Int) (mk0 Z27 (len a0.2.2.2.2.2.2.2.2.1))),2,(.exit 0),(r2_Placed.c1q o9),1⟩],[],via (cutP (aI trivial h1) [(0,0),(1,5)] (r2_Placed.c1p a0 (0:Int) (mk0 Z27 (len a0.2.2.2.2.2.2.2.2.1))) (((r2_Placed.c1_ok k a0 k (0:Int) (mk0 Z27 (len a0.2.2.2.2.2.2.2.2.1))).ap e10).triple) (retP trivial (.one (.ow T27 28)) (o9:(List V27)))) (by kernel_rfl)⟩)
theorem r2_Placed.ok (k:Nat):FnOk PR 61 (r2_Placed.sp k) :=
  fn_ok (r2_Placed.cok k) hmix Try.func61 (code:=r2_Placed.code) (by kernel_rfl) (by kernel_rfl) (by kernel_rfl) rfl rfl (by kernel_rfl) (by kernel_rfl) (by kernel_rfl) (fun x=>Nat.le_of_ble_eq_true (by kernel_rfl)) fun x y hy=>(r2_Placed.way k x.1).ap hy
noncomputable def r2_Minus.code:Code:=Func.cd Try.f67
def r2_Minus.c2 (k:Nat) (a0 a1:(List V27)) (v1:Int):Nat → Int → (List V27) → Option ((List V27))
  | 0,_,_=>none
  | n+1,v5,v6 =>
   bif' (ilt v5 (len a1))
   (req (inL v5 a1) <|
   bnd (r2_sub k (el Z27 a0 v1) (el Z27 a1 v5)) fun y9 =>
   req (room 16 v6 [y9]) <|
   r2_Minus.c2 k a0 a1 v1 n (iadd .i64 v5 1) (v6 ++ [y9]))
   (some v6)
def r2_Minus.c1 (k:Nat) (a0 a1:(List V27)):Nat → Int → (List V27) → Option ((List V27))
  | 0,_,_=>none
  | n+1,v1,v2 =>
   bif' (ilt v1 (len a0))
   (req (inL v1 a0) <|
   bnd (r2_Minus.c2 k a0 a1 v1 k 0 v2) fun o12 =>
   r2_Minus.c1 k a0 a1 n (iadd .i64 v1 1) o12)
   (some v2)
def r2_Minus (k:Nat) (a0 a1:(List V27)):Option (List V27) :=
  bnd (r2_Minus.c1 k a0 a1 k 0 []) fun o14 =>
  bnd (r2_Wrap k o14) fun y16 =>
  some y16
noncomputable def r2_Minus.sp (k:Nat):Go.Sx.Spec:=⟨(.pair T22 (.pair T22 .unit)),(.one (.ow T27 28)),fun x=>r2_Minus k x.1 x.2.1,false⟩
noncomputable def r2_Minus.cx (k:Nat):Go.Sx.Ctx:=⟨tys,[(135,r2_sub.sp k),(95,r2_Wrap.sp k)],eqs,32,0,[],false⟩
theorem r2_Minus.cok (k:Nat):CtxOk PR (r2_Minus.cx k):=ctx_ok tysOk eqsOk (FnsOk.cons (r2_sub.ok k) (FnsOk.cons (r2_Wrap.ok k) FnsOk.nil)) HsOk.nil
noncomputable def r2_Minus.c2p (a0 a1:(List V27)) (v1 v5:Int) (v6:(List V27)):SL:=⟨[(1,(.val T22 a1)),(5,(.val .own (0:Nat))),(7,(.val .ptr ⟨1,0,(0:Int),0,0⟩)),(10,(.val T22 a0)),(11,(.val T2 (len a0))),(12,(.val T2 v1)),(16,(.val T22 a1)),(17,(.val T2 (len a1))),(18,(.val T2 v5))],[(0,.row T27 v6 28),(1,.cells T27 (el Z27 a0 v1))]⟩
noncomputable def r2_Minus.c2q (a0 a1:(List V27)) (v1:Int) (o:(List V27)):SL:=(fun v=>⟨[(1,(.val T22 a1)),(5,(.val .own (0:Nat))),(10,(.val T22 a0)),(11,(.val T2 (len a0))),(12,(.val T2 v1))],[(0,.row T27 v 28)]⟩) o
noncomputable def r2_Minus.c2x (o:(List V27)):Ex:=(fun _=>(.exit 2)) o
noncomputable def r2_Minus.c2n (o:(List V27)):Nat:=(fun _=>1) o
theorem r2_Minus.c2_ok (k:Nat) (a0 a1:(List V27)) (v1:Int):∀ (n:Nat) (v5:Int) (v6:(List V27)),Owp (r2_Minus.c2 k a0 a1 v1 n v5 v6) fun o=>LTriple PR (r2_Minus.cx k) (sub r2_Minus.code [1,1,0,1,0,0,1,1,0,0,1,1,0,0]) 2 (r2_Minus.c2p a0 a1 v1 v5 v6) (r2_Minus.c2x o) (r2_Minus.c2n o) (r2_Minus.c2q a0 a1 v1 o)
  | 0,_,_=>fun _ h=>nomatch h
  | n+1,v5,v6=>Owp.of (r2_Minus.c2.eq_2 ..) (
   Owp.bif (fun e7 =>
   Owp.req fun h8 =>
   Owp.bnd fun y9 e10 =>
   Owp.req fun h11 =>
   fun y hy=>loop_back (r2_Minus.cok k) hmix 2 (r2_Minus.c2p a0 a1 v1 (iadd .i64 v5 (1:Int)) (v6 ++ [y9])) [tT,rS T27 y9,tT] [] [(0,12),(1,1)] (via (finP (aI (aI (aI (aI trivial e7) h8) e10) h11) .normal [(0,12),(1,1)] (r2_Minus.c2p a0 a1 v1 (iadd .i64 v5 (1:Int)) (v6 ++ [y9]))) (by kernel_rfl)) ((r2_Minus.c2_ok k a0 a1 v1 n (iadd .i64 v5 (1:Int)) (v6 ++ [y9])).ap hy)) (fun e7 =>
   Owp.some (loop_exit (r2_Minus.cok k) hmix [fF] [] [(0,0)] (exne 2) (via (finP (aI trivial e7) (.exit 2) [(0,0)] (r2_Minus.c2q a0 a1 v1 v6)) (by kernel_rfl)))))
noncomputable def r2_Minus.c1p (a0 a1:(List V27)) (v1:Int) (v2:(List V27)):SL:=⟨[(1,(.val T22 a1)),(5,(.val .own (0:Nat))),(10,(.val T22 a0)),(11,(.val T2 (len a0))),(12,(.val T2 v1))],[(0,.row T27 v2 28)]⟩
noncomputable def r2_Minus.c1q (o:(List V27)):SL:=(fun v=>⟨[(5,(.val .own (0:Nat)))],[(0,.row T27 v 28)]⟩) o
noncomputable def r2_Minus.c1x (o:(List V27)):Ex:=(fun _=>(.exit 0)) o
noncomputable def r2_Minus.c1n (o:(List V27)):Nat:=(fun _=>1) o
theorem r2_Minus.c1_ok (k:Nat) (a0 a1:(List V27)):∀ (n:Nat) (v1:Int) (v2:(List V27)),Owp (r2_Minus.c1 k a0 a1 n v1 v2) fun o=>LTriple PR (r2_Minus.cx k) (sub r2_Minus.code [1,1,0,1,0,0]) 1 (r2_Minus.c1p a0 a1 v1 v2) (r2_Minus.c1x o) (r2_Minus.c1n o) (r2_Minus.c1q o)
  | 0,_,_=>fun _ h=>nomatch h
  | n+1,v1,v2=>Owp.of (r2_Minus.c1.eq_2 ..) (
   Owp.bif (fun e3 =>
   Owp.req fun h4 =>
   Owp.bnd fun o12 e13 =>
   fun y hy=>loop_back (r2_Minus.cok k) hmix 1 (r2_Minus.c1p a0 a1 (iadd .i64 v1 (1:Int)) o12) [tT,.cut ⟨[],[(0,0),(1,4)],(r2_Minus.c2p a0 a1 v1 (0:Int) v2),2,(.exit 2),(r2_Minus.c2q a0 a1 v1 o12),1⟩] [] [(0,0)] (via (cutP (aI (aI trivial e3) h4) [(0,0),(1,4)] (r2_Minus.c2p a0 a1 v1 (0:Int) v2) (((r2_Minus.c2_ok k a0 a1 v1 k (0:Int) v2).ap e13).triple) (finP trivial .normal [(0,0)] (r2_Minus.c1p a0 a1 (iadd .i64 v1 (1:Int)) o12))) (by kernel_rfl)) ((r2_Minus.c1_ok k a0 a1 n (iadd .i64 v1 (1:Int)) o12).ap hy)) (fun e3 =>
   Owp.some (loop_exit (r2_Minus.cok k) hmix [fF] [] [(0,0)] (exne 0) (via (finP (aI trivial e3) (.exit 0) [(0,0)] (r2_Minus.c1q v2)) (by kernel_rfl)))))
theorem r2_Minus.way (k:Nat) (a0 a1:(List V27)):Owp (r2_Minus k a0 a1) fun y=>∃ w c0,exec PR (r2_Minus.cx k) r2_Minus.code 0 (entry (.pair T22 (.pair T22 .unit)) (a0,a1,())).st w (Ret (r2_Minus.cx k) Try.f67 c0 (.one (.ow T27 28)) y):=by
  unfold r2_Minus; exact
   Owp.bnd fun o14 e15 =>
   Owp.bnd fun y16 e17 =>
   Owp.some (⟨[.cut ⟨[.own 5 T27 28],[(0,5)],(r2_Minus.c1p a0 a1 (0:Int) []),1,(.exit 0),(r2_Minus.c1q o14),1⟩,.res (.one (.ow T27 28)) y16],[],via (cutP trivial [(0,5)] (r2_Minus.c1p a0 a1 (0:Int) []) (((r2_Minus.c1_ok k a0 a1 k (0:Int) []).ap e15).triple) (retP (aI trivial e17) (.one (.ow T27 28)) (y16:(List V27)))) (by kernel_rfl)⟩)
theorem r2_Minus.ok (k:Nat):FnOk PR 67 (r2_Minus.sp k) :=
  fn_ok (r2_Minus.cok k) hmix Try.func67 (code:=r2_Minus.code) (by kernel_rfl) (by kernel_rfl) (by kernel_rfl) rfl rfl (by kernel_rfl) (by kernel_rfl) (by kernel_rfl) (fun x=>Nat.le_of_ble_eq_true (by kernel_rfl)) fun x y hy=>(r2_Minus.way k x.1 x.2.1).ap hy
noncomputable def r2_Inside.code:Code:=Func.cd Try.f131
def r2_Inside.c2 (k:Nat) (a0:(List V27)) (a1:V27) (v4:Int):Option (Bool) :=
  req (inL 0 a0) <|
  req (inL (isub .i64 v4 1) a0) <|
  bnd (r2_left k (el Z27 a0 0) (el Z27 a0 (isub .i64 v4 1)) a1) fun y8 =>
  bif' (ige y8 0)
  (req (inL v4 a0) <|
   bnd (r2_left k (el Z27 a0 (isub .i64 v4 1)) (el Z27 a0 v4) a1) fun y12 =>
   bif' (ige y12 0)
   (bnd (r2_left k (el Z27 a0 v4) (el Z27 a0 0) a1) fun y15 =>
   some (ige y15 0))
   (some false))
  (some false)
def r2_Inside.c1 (k:Nat) (a0:(List V27)) (a1:V27):Nat → Int → Option (Unit ⊕ Unit)
  | 0,_=>none
  | n+1,v4 =>
   bif' (ilt v4 (len a0))
   (bnd (r2_Inside.c2 k a0 a1 v4) fun o17 =>
   bif' o17
   (some (.inl ()))
   (r2_Inside.c1 k a0 a1 n (iadd .i64 v4 1)))
   (some (.inr ()))
def r2_Inside (k:Nat) (a0:(List V27)) (a1:V27):Option Bool :=
  bnd (r2_coord k a1 65536000) fun y1 =>
  bif' y1
  (bnd (r2_Inside.c1 k a0 a1 k 2) fun o20 =>
   two o20 (fun y22 =>
   some true) (fun y24 =>
   some false))
  (some false)
noncomputable def r2_Inside.sp (k:Nat):Go.Sx.Spec:=⟨(.pair T22 (.pair T27 .unit)),(.one (.dp T4)),fun x=>r2_Inside k x.1 x.2.1,false⟩
noncomputable def r2_Inside.cx (k:Nat):Go.Sx.Ctx:=⟨tys,[(94,r2_coord.sp k),(130,r2_left.sp k)],eqs,52,0,[],false⟩
theorem r2_Inside.cok (k:Nat):CtxOk PR (r2_Inside.cx k):=ctx_ok tysOk eqsOk (FnsOk.cons (r2_coord.ok k) (FnsOk.cons (r2_left.ok k) FnsOk.nil)) HsOk.nil
noncomputable def r2_Inside.c2p (a0:(List V27)) (a1:V27) (v4:Int):SL:=⟨[(0,(.val T22 a0)),(3,(.val .ptr ⟨0,0,(0:Int),0,0⟩)),(5,(.val T2 v4))],[(0,.cells T27 a1)]⟩
noncomputable def r2_Inside.c2q (a0:(List V27)) (a1:V27) (v4:Int) (o:Bool):SL:=(fun v=>⟨[(0,(.val T22 a0)),(3,(.val .ptr ⟨0,0,(0:Int),0,0⟩)),(5,(.val T2 v4)),(51,(.val T4 v))],[(0,.cells T27 a1)]⟩) o
noncomputable def r2_Inside.c2x (o:Bool):Ex:=(fun _=>.normal) o
noncomputable def r2_Inside.c2n (o:Bool):Nat:=(fun _=>1) o
theorem r2_Inside.c2_ok (k:Nat) (a0:(List V27)) (a1:V27) (v4:Int):Owp (r2_Inside.c2 k a0 a1 v4) fun o=>Triple PR (r2_Inside.cx k) (sub r2_Inside.code [1,1,0,1,0,0,1,0,0,0]) 1 (r2_Inside.c2p a0 a1 v4) (r2_Inside.c2x o) (r2_Inside.c2n o) (r2_Inside.c2q a0 a1 v4 o):=by
  unfold r2_Inside.c2; exact
   Owp.req fun h6 =>
   Owp.req fun h7 =>
   Owp.bnd fun y8 e9 =>
   Owp.bif (fun e10 =>
   Owp.req fun h11 =>
   Owp.bnd fun y12 e13 =>
   Owp.bif (fun e14 =>
   Owp.bnd fun y15 e16 =>
   Owp.some (triple_way (r2_Inside.cok k) hmix [rS T2 y8,tT,tT,tT,tT,tT,tT,tT,tT,tT,tT,tT,rS T2 y12,tT,tT,tT,tT,tT,tT,tT,tT,tT,tT,tT,rS T2 y15,tT,tT] [] [(0,0)] (via (finP (aI (aI (aI (aI (aI (aI (aI (aI (aI (aI (aI (aI (aI (aI (aI (aI (aI (aI (aI (aI (aI (aI (aI (aI (aI (aI (aI trivial h6) h7) e9) e10) e10) e10) (aI e10 h7)) e10) e10) e10) (aI e10 h11)) e10) e10) (aI e10 e13)) e10) e10) e14) e14) (aI e14 h11)) e14) e14) (aI e14 h6)) e14) e14) (aI e14 e16)) e14) e14) .normal [(0,0)] (r2_Inside.c2q a0 a1 v4 (ige y15 (0:Int)))) (by kernel_rfl)))) (fun e14 =>
   Owp.some (triple_way (r2_Inside.cok k) hmix [rS T2 y8,tT,tT,tT,tT,tT,tT,tT,tT,tT,tT,tT,rS T2 y12,tT,tT,fF,fF,fF,fF,fF,fF,fF,fF,fF,tT,fF,fF] [] [(0,0)] (via (finP (aI (aI (aI (aI (aI (aI (aI (aI (aI (aI (aI (aI (aI (aI (aI (aI (aI (aI (aI (aI (aI (aI (aI (aI (aI (aI (aI trivial h6) h7) e9) e10) e10) e10) (aI e10 h7)) e10) e10) e10) (aI e10 h11)) e10) e10) (aI e10 e13)) e10) e10) e14) e14) e14) e14) e14) e14) e14) e14) e14) e14) e14) .normal [(0,0)] (r2_Inside.c2q a0 a1 v4 false)) (by kernel_rfl))))) (fun e10 =>
   Owp.some (triple_way (r2_Inside.cok k) hmix [rS T2 y8,fF,fF,fF,fF,fF,fF,fF,fF,fF,fF,fF,tT,fF,fF,fF,fF,fF,fF,fF,fF,fF,fF,fF,tT,fF,fF] [] [(0,0)] (via (finP (aI (aI (aI (aI (aI (aI (aI (aI (aI (aI (aI (aI (aI (aI (aI (aI (aI (aI (aI (aI (aI (aI (aI (aI (aI (aI (aI trivial h6) h7) e9) e10) e10) e10) e10) e10) e10) e10) e10) e10) e10) e10) e10) e10) ff) ff) ff) ff) ff) ff) ff) ff) ff) ff) ff) .normal [(0,0)] (r2_Inside.c2q a0 a1 v4 false)) (by kernel_rfl))))
noncomputable def r2_Inside.c1p (a0:(List V27)) (a1:V27) (v4:Int):SL:=⟨[(0,(.val T22 a0)),(3,(.val .ptr ⟨0,0,(0:Int),0,0⟩)),(5,(.val T2 v4))],[(0,.cells T27 a1)]⟩
noncomputable def r2_Inside.c1q (o:Unit ⊕ Unit):SL:=(fun o=>two o (fun v=>⟨[(4,(.val T4 true))],[]⟩) (fun v=>⟨[],[]⟩)) o
noncomputable def r2_Inside.c1x (o:Unit ⊕ Unit):Ex:=(fun o=>two o (fun _=>.ret) (fun _=>(.exit 0))) o
noncomputable def r2_Inside.c1n (o:Unit ⊕ Unit):Nat:=(fun o=>two o (fun _=>0) (fun _=>0)) o
theorem r2_Inside.c1_ok (k:Nat) (a0:(List V27)) (a1:V27):∀ (n:Nat) (v4:Int),Owp (r2_Inside.c1 k a0 a1 n v4) fun o=>LTriple PR (r2_Inside.cx k) (sub r2_Inside.code [1,1,0,1,0,0]) 1 (r2_Inside.c1p a0 a1 v4) (r2_Inside.c1x o) (r2_Inside.c1n o) (r2_Inside.c1q o)
  | 0,_=>fun _ h=>nomatch h
  | n+1,v4=>Owp.of (r2_Inside.c1.eq_2 ..) (
   Owp.bif (fun e5 =>
   Owp.bnd fun o17 e18 =>
   Owp.bif (fun e19 =>
   Owp.some (loop_exit (r2_Inside.cok k) hmix [tT,.cutR 6 ⟨[],[(0,0)],(r2_Inside.c2p a0 a1 v4),1,.normal,(r2_Inside.c2q a0 a1 v4 o17),1⟩,tT] [] [] exne_ret (via (cutP (aI trivial e5) [(0,0)] (r2_Inside.c2p a0 a1 v4) (((r2_Inside.c2_ok k a0 a1 v4).ap e18)) (finP (aI trivial e19) .ret [] (r2_Inside.c1q (.inl ())))) (by kernel_rfl)))) (fun e19 =>
   fun y hy=>loop_back (r2_Inside.cok k) hmix 1 (r2_Inside.c1p a0 a1 (iadd .i64 v4 (1:Int))) [tT,.cutR 6 ⟨[],[(0,0)],(r2_Inside.c2p a0 a1 v4),1,.normal,(r2_Inside.c2q a0 a1 v4 o17),1⟩,fF] [] [(0,0)] (via (cutP (aI trivial e5) [(0,0)] (r2_Inside.c2p a0 a1 v4) (((r2_Inside.c2_ok k a0 a1 v4).ap e18)) (finP (aI trivial e19) .normal [(0,0)] (r2_Inside.c1p a0 a1 (iadd .i64 v4 (1:Int))))) (by kernel_rfl)) ((r2_Inside.c1_ok k a0 a1 n (iadd .i64 v4 (1:Int))).ap hy))) (fun e5 =>
   Owp.some (loop_exit (r2_Inside.cok k) hmix [fF] [] [] (exne 0) (via (finP (aI trivial e5) (.exit 0) [] (r2_Inside.c1q (.inr ()))) (by kernel_rfl)))))
theorem r2_Inside.way (k:Nat) (a0:(List V27)) (a1:V27):Owp (r2_Inside k a0 a1) fun y=>∃ w c0,exec PR (r2_Inside.cx k) r2_Inside.code 0 (entry (.pair T22 (.pair T27 .unit)) (a0,a1,())).st w (Ret (r2_Inside.cx k) Try.f131 c0 (.one (.dp T4)) y):=by
  unfold r2_Inside; exact
   Owp.bnd fun y1 e2 =>
   Owp.bif (fun e3 =>
   Owp.bnd fun o20 e21 =>
   Owp.two (fun y22 e23 =>
   Owp.some (⟨[rS T4 y1,fF,.cut ⟨[],[(0,0)],(r2_Inside.c1p a0 a1 (2:Int)),1,.ret,(r2_Inside.c1q (.inl ())),0⟩],[],via (cutP (aI (aI trivial e2) (congrArg not e3)) [(0,0)] (r2_Inside.c1p a0 a1 (2:Int)) (((r2_Inside.c1_ok k a0 a1 k (2:Int)).ap (e21.trans (congrArg some e23))).triple) (retP trivial (.one (.dp T4)) (true:Bool))) (by kernel_rfl)⟩)) (fun y24 e25 =>
   Owp.some (⟨[rS T4 y1,fF,.cut ⟨[],[(0,0)],(r2_Inside.c1p a0 a1 (2:Int)),1,(.exit 0),(r2_Inside.c1q (.inr ())),0⟩],[],via (cutP (aI (aI trivial e2) (congrArg not e3)) [(0,0)] (r2_Inside.c1p a0 a1 (2:Int)) (((r2_Inside.c1_ok k a0 a1 k (2:Int)).ap (e21.trans (congrArg some e25))).triple) (retP trivial (.one (.dp T4)) (false:Bool))) (by kernel_rfl)⟩))) (fun e3 =>
   Owp.some (⟨[rS T4 y1,tT],[],via (retP (aI (aI trivial e2) (congrArg not e3)) (.one (.dp T4)) (false:Bool)) (by kernel_rfl)⟩))
theorem r2_Inside.ok (k:Nat):FnOk PR 131 (r2_Inside.sp k) :=
  fn_ok (r2_Inside.cok k) hmix Try.func131 (code:=r2_Inside.code) (by kernel_rfl) (by kernel_rfl) (by kernel_rfl) rfl rfl (by kernel_rfl) (by kernel_rfl) (by kernel_rfl) (fun x=>Nat.le_of_ble_eq_true (by kernel_rfl)) fun x y hy=>(r2_Inside.way k x.1 x.2.1).ap hy
end Go.Proofs.T1
