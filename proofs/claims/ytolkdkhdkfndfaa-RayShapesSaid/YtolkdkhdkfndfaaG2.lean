import Derived.Test.YtolkdkhdkfndfaaG0
import Derived.Test.YtolkdkhdkfndfaaG1
namespace Go.Proofs.T1
open Go Go.Sx Go.Proofs
set_option maxRecDepth 100000
set_option linter.unusedVariables false
noncomputable def bits_Div64.code:Code:=Func.cd Try.f227
def bits_Div64.c2 (k:Nat) (a1 a2 v10 v11 y5:Int):Option (Bool) :=
  bif' (ige v10 4294967296)
  (some true)
  (some (igt (imul .u64 v10 (ibits .and .u64 (ishl .u64 a2 (icv .u64 y5)) 4294967295)) (iadd .u64 (imul .u64 4294967296 v11) (ishr .u64 (ishl .u64 a1 (icv .u64 y5)) 32))))
def bits_Div64.c1 (k:Nat) (a1 a2 y5:Int):Nat → Int → Int → Option (Int)
  | 0,_,_=>none
  | n+1,v10,v11 =>
   bnd (bits_Div64.c2 k a1 a2 v10 v11 y5) fun o13 =>
   bif' o13
   (bif' (ige (iadd .u64 v11 (ishr .u64 (ishl .u64 a2 (icv .u64 y5)) 32)) 4294967296)
   (some (isub .u64 v10 1))
   (bits_Div64.c1 k a1 a2 y5 n (isub .u64 v10 1) (iadd .u64 v11 (ishr .u64 (ishl .u64 a2 (icv .u64 y5)) 32))))
   (some v10)
def bits_Div64.c4 (k:Nat) (a1 a2 v19 v20 y5:Int):Option (Bool) :=
  bif' (ige v20 4294967296)
  (some true)
  (some (igt (imul .u64 v20 (ibits .and .u64 (ishl .u64 a2 (icv .u64 y5)) 4294967295)) (iadd .u64 (imul .u64 4294967296 v19) (ibits .and .u64 (ishl .u64 a1 (icv .u64 y5)) 4294967295))))
def bits_Div64.c3 (k:Nat) (a1 a2 y5:Int):Nat → Int → Int → Option (Int)
  | 0,_,_=>none
  | n+1,v19,v20 =>
   bnd (bits_Div64.c4 k a1 a2 v19 v20 y5) fun o22 =>
   bif' o22
   (bif' (ige (iadd .u64 v19 (ishr .u64 (ishl .u64 a2 (icv .u64 y5)) 32)) 4294967296)
   (some (isub .u64 v20 1))
   (bits_Div64.c3 k a1 a2 y5 n (iadd .u64 v19 (ishr .u64 (ishl .u64 a2 (icv .u64 y5)) 32)) (isub .u64 v20 1)))
   (some v20)
def bits_Div64 (k:Nat) (a0 a1 a2:Int):Option (Int × Int) :=
  bif' (ieq a2 0)
  (none)
  (bif' (ile a2 a0)
   (none)
   (bif' (ieq a0 0)
   (req (nz a2) <|
   some ((iquo .u64 a1 a2),(irem a1 a2)))
   (bnd (bits_LeadingZeros64 k a2) fun y5 =>
   req (ng (icv .u64 y5)) <|
   req (ng (isub .u64 64 (icv .u64 y5))) <|
   req (nz (ishr .u64 (ishl .u64 a2 (icv .u64 y5)) 32)) <|
   bnd (bits_Div64.c1 k a1 a2 y5 k (iquo .u64 (ibits .or .u64 (ishl .u64 a0 (icv .u64 y5)) (ishr .u64 a1 (isub .u64 64 (icv .u64 y5)))) (ishr .u64 (ishl .u64 a2 (icv .u64 y5)) 32)) (isub .u64 (ibits .or .u64 (ishl .u64 a0 (icv .u64 y5)) (ishr .u64 a1 (isub .u64 64 (icv .u64 y5)))) (imul .u64 (iquo .u64 (ibits .or .u64 (ishl .u64 a0 (icv .u64 y5)) (ishr .u64 a1 (isub .u64 64 (icv .u64 y5)))) (ishr .u64 (ishl .u64 a2 (icv .u64 y5)) 32)) (ishr .u64 (ishl .u64 a2 (icv .u64 y5)) 32)))) fun o17 =>
   bnd (bits_Div64.c3 k a1 a2 y5 k (isub .u64 (isub .u64 (iadd .u64 (imul .u64 (ibits .or .u64 (ishl .u64 a0 (icv .u64 y5)) (ishr .u64 a1 (isub .u64 64 (icv .u64 y5)))) 4294967296) (ishr .u64 (ishl .u64 a1 (icv .u64 y5)) 32)) (imul .u64 o17 (ishl .u64 a2 (icv .u64 y5)))) (imul .u64 (iquo .u64 (isub .u64 (iadd .u64 (imul .u64 (ibits .or .u64 (ishl .u64 a0 (icv .u64 y5)) (ishr .u64 a1 (isub .u64 64 (icv .u64 y5)))) 4294967296) (ishr .u64 (ishl .u64 a1 (icv .u64 y5)) 32)) (imul .u64 o17 (ishl .u64 a2 (icv .u64 y5)))) (ishr .u64 (ishl .u64 a2 (icv .u64 y5)) 32)) (ishr .u64 (ishl .u64 a2 (icv .u64 y5)) 32))) (iquo .u64 (isub .u64 (iadd .u64 (imul .u64 (ibits .or .u64 (ishl .u64 a0 (icv .u64 y5)) (ishr .u64 a1 (isub .u64 64 (icv .u64 y5)))) 4294967296) (ishr .u64 (ishl .u64 a1 (icv .u64 y5)) 32)) (imul .u64 o17 (ishl .u64 a2 (icv .u64 y5)))) (ishr .u64 (ishl .u64 a2 (icv .u64 y5)) 32))) fun o26 =>
   some ((iadd .u64 (imul .u64 o17 4294967296) o26),(ishr .u64 (isub .u64 (iadd .u64 (imul .u64 (isub .u64 (iadd .u64 (imul .u64 (ibits .or .u64 (ishl .u64 a0 (icv .u64 y5)) (ishr .u64 a1 (isub .u64 64 (icv .u64 y5)))) 4294967296) (ishr .u64 (ishl .u64 a1 (icv .u64 y5)) 32)) (imul .u64 o17 (ishl .u64 a2 (icv .u64 y5)))) 4294967296) (ibits .and .u64 (ishl .u64 a1 (icv .u64 y5)) 4294967295)) (imul .u64 o26 (ishl .u64 a2 (icv .u64 y5)))) (icv .u64 y5))))))
noncomputable def bits_Div64.sp (k:Nat):Go.Sx.Spec:=⟨(.pair T12 (.pair T12 (.pair T12 .unit))),(.more (.dp T12) (.one (.dp T12))),fun x=>bits_Div64 k x.1 x.2.1 x.2.2.1,false⟩
noncomputable def bits_Div64.cx (k:Nat):Go.Sx.Ctx:=⟨tys,[(247,bits_LeadingZeros64.sp k)],eqs,135,0,[],false⟩
theorem bits_Div64.cok (k:Nat):CtxOk PR (bits_Div64.cx k):=ctx_ok tysOk eqsOk (FnsOk.cons (bits_LeadingZeros64.ok k) FnsOk.nil) HsOk.nil
noncomputable def bits_Div64.c2p (a0 a1 a2 v10 v11 y5:Int):SL:=⟨[(2,(.val T12 (ishl .u64 a2 (icv .u64 y5)))),(8,(.val T12 (icv .u64 y5))),(9,(.val T12 (ishr .u64 (ishl .u64 a2 (icv .u64 y5)) (32:Int)))),(10,(.val T12 (ibits .and .u64 (ishl .u64 a2 (icv .u64 y5)) (4294967295:Int)))),(11,(.val T12 (ibits .or .u64 (ishl .u64 a0 (icv .u64 y5)) (ishr .u64 a1 (isub .u64 (64:Int) (icv .u64 y5)))))),(13,(.val T12 (ishr .u64 (ishl .u64 a1 (icv .u64 y5)) (32:Int)))),(14,(.val T12 (ibits .and .u64 (ishl .u64 a1 (icv .u64 y5)) (4294967295:Int)))),(15,(.val T12 v10)),(16,(.val T12 v11))],[]⟩
noncomputable def bits_Div64.c2q (a0 a1 a2 v10 v11 y5:Int) (o:Bool):SL:=(fun v=>⟨[(2,(.val T12 (ishl .u64 a2 (icv .u64 y5)))),(8,(.val T12 (icv .u64 y5))),(9,(.val T12 (ishr .u64 (ishl .u64 a2 (icv .u64 y5)) (32:Int)))),(10,(.val T12 (ibits .and .u64 (ishl .u64 a2 (icv .u64 y5)) (4294967295:Int)))),(11,(.val T12 (ibits .or .u64 (ishl .u64 a0 (icv .u64 y5)) (ishr .u64 a1 (isub .u64 (64:Int) (icv .u64 y5)))))),(13,(.val T12 (ishr .u64 (ishl .u64 a1 (icv .u64 y5)) (32:Int)))),(14,(.val T12 (ibits .and .u64 (ishl .u64 a1 (icv .u64 y5)) (4294967295:Int)))),(15,(.val T12 v10)),(16,(.val T12 v11)),(78,(.val T4 v))],[]⟩) o
noncomputable def bits_Div64.c2x (o:Bool):Ex:=(fun _=>.normal) o
noncomputable def bits_Div64.c2n (o:Bool):Nat:=(fun _=>0) o
theorem bits_Div64.c2_ok (k:Nat) (a0 a1 a2 v10 v11 y5:Int):Owp (bits_Div64.c2 k a1 a2 v10 v11 y5) fun o=>Triple PR (bits_Div64.cx k) (sub bits_Div64.code [1,1,1,1,1,1,1,1,1,1,1,1,1,1,0,0,0,0,0]) 0 (bits_Div64.c2p a0 a1 a2 v10 v11 y5) (bits_Div64.c2x o) (bits_Div64.c2n o) (bits_Div64.c2q a0 a1 a2 v10 v11 y5 o):=by
  unfold bits_Div64.c2; exact
   Owp.bif (fun e12 =>
   Owp.some (triple_way (bits_Div64.cok k) hmix [tT,tT,tT,tT,tT,tT,tT,tT,tT] [] [] (via (finP (aI (aI (aI (aI (aI (aI (aI (aI (aI trivial e12) e12) e12) e12) e12) e12) e12) e12) e12) .normal [] (bits_Div64.c2q a0 a1 a2 v10 v11 y5 true)) (by kernel_rfl)))) (fun e12 =>
   Owp.some (triple_way (bits_Div64.cok k) hmix [fF,fF,fF,fF,fF,fF,fF,fF,fF] [] [] (via (finP (aI (aI (aI (aI (aI (aI (aI (aI (aI trivial e12) e12) e12) e12) e12) e12) e12) e12) e12) .normal [] (bits_Div64.c2q a0 a1 a2 v10 v11 y5 (igt (imul .u64 v10 (ibits .and .u64 (ishl .u64 a2 (icv .u64 y5)) (4294967295:Int))) (iadd .u64 (imul .u64 (4294967296:Int) v11) (ishr .u64 (ishl .u64 a1 (icv .u64 y5)) (32:Int)))))) (by kernel_rfl))))
noncomputable def bits_Div64.c1p (a0 a1 a2 y5 v10 v11:Int):SL:=⟨[(2,(.val T12 (ishl .u64 a2 (icv .u64 y5)))),(8,(.val T12 (icv .u64 y5))),(9,(.val T12 (ishr .u64 (ishl .u64 a2 (icv .u64 y5)) (32:Int)))),(10,(.val T12 (ibits .and .u64 (ishl .u64 a2 (icv .u64 y5)) (4294967295:Int)))),(11,(.val T12 (ibits .or .u64 (ishl .u64 a0 (icv .u64 y5)) (ishr .u64 a1 (isub .u64 (64:Int) (icv .u64 y5)))))),(13,(.val T12 (ishr .u64 (ishl .u64 a1 (icv .u64 y5)) (32:Int)))),(14,(.val T12 (ibits .and .u64 (ishl .u64 a1 (icv .u64 y5)) (4294967295:Int)))),(15,(.val T12 v10)),(16,(.val T12 v11))],[]⟩
noncomputable def bits_Div64.c1q (a0 a1 a2 y5 o:Int):SL:=(fun v=>⟨[(2,(.val T12 (ishl .u64 a2 (icv .u64 y5)))),(8,(.val T12 (icv .u64 y5))),(9,(.val T12 (ishr .u64 (ishl .u64 a2 (icv .u64 y5)) (32:Int)))),(10,(.val T12 (ibits .and .u64 (ishl .u64 a2 (icv .u64 y5)) (4294967295:Int)))),(11,(.val T12 (ibits .or .u64 (ishl .u64 a0 (icv .u64 y5)) (ishr .u64 a1 (isub .u64 (64:Int) (icv .u64 y5)))))),(13,(.val T12 (ishr .u64 (ishl .u64 a1 (icv .u64 y5)) (32:Int)))),(14,(.val T12 (ibits .and .u64 (ishl .u64 a1 (icv .u64 y5)) (4294967295:Int)))),(15,(.val T12 v))],[]⟩) o
noncomputable def bits_Div64.c1x (o:Int):Ex:=(fun _=>(.exit 0)) o
noncomputable def bits_Div64.c1n (o:Int):Nat:=(fun _=>0) o
theorem bits_Div64.c1_ok (k:Nat) (a0 a1 a2 y5:Int):∀ (n:Nat) (v10 v11:Int),Owp (bits_Div64.c1 k a1 a2 y5 n v10 v11) fun o=>LTriple PR (bits_Div64.cx k) (sub bits_Div64.code [1,1,1,1,1,1,1,1,1,1,1,1,1,1,0,0,0]) 0 (bits_Div64.c1p a0 a1 a2 y5 v10 v11) (bits_Div64.c1x o) (bits_Div64.c1n o) (bits_Div64.c1q a0 a1 a2 y5 o)
  | 0,_,_=>fun _ h=>nomatch h
  | n+1,v10,v11=>Owp.of (bits_Div64.c1.eq_2 ..) (
   Owp.bnd fun o13 e14 =>
   Owp.bif (fun e15 =>
   Owp.bif (fun e16 =>
   Owp.some (loop_exit (bits_Div64.cok k) hmix [.cutR 17 ⟨[],[],(bits_Div64.c2p a0 a1 a2 v10 v11 y5),0,.normal,(bits_Div64.c2q a0 a1 a2 v10 v11 y5 o13),0⟩,tT,tT] [] [] (exne 0) (via (cutP trivial [] (bits_Div64.c2p a0 a1 a2 v10 v11 y5) (((bits_Div64.c2_ok k a0 a1 a2 v10 v11 y5).ap e14)) (finP (aI (aI trivial e15) e16) (.exit 0) [] (bits_Div64.c1q a0 a1 a2 y5 (isub .u64 v10 (1:Int))))) (by kernel_rfl)))) (fun e16 =>
   fun y hy=>loop_back (bits_Div64.cok k) hmix 0 (bits_Div64.c1p a0 a1 a2 y5 (isub .u64 v10 (1:Int)) (iadd .u64 v11 (ishr .u64 (ishl .u64 a2 (icv .u64 y5)) (32:Int)))) [.cutR 17 ⟨[],[],(bits_Div64.c2p a0 a1 a2 v10 v11 y5),0,.normal,(bits_Div64.c2q a0 a1 a2 v10 v11 y5 o13),0⟩,tT,fF] [] [] (via (cutP trivial [] (bits_Div64.c2p a0 a1 a2 v10 v11 y5) (((bits_Div64.c2_ok k a0 a1 a2 v10 v11 y5).ap e14)) (finP (aI (aI trivial e15) e16) .normal [] (bits_Div64.c1p a0 a1 a2 y5 (isub .u64 v10 (1:Int)) (iadd .u64 v11 (ishr .u64 (ishl .u64 a2 (icv .u64 y5)) (32:Int)))))) (by kernel_rfl)) ((bits_Div64.c1_ok k a0 a1 a2 y5 n (isub .u64 v10 (1:Int)) (iadd .u64 v11 (ishr .u64 (ishl .u64 a2 (icv .u64 y5)) (32:Int)))).ap hy))) (fun e15 =>
   Owp.some (loop_exit (bits_Div64.cok k) hmix [.cutR 17 ⟨[],[],(bits_Div64.c2p a0 a1 a2 v10 v11 y5),0,.normal,(bits_Div64.c2q a0 a1 a2 v10 v11 y5 o13),0⟩,fF] [] [] (exne 0) (via (cutP trivial [] (bits_Div64.c2p a0 a1 a2 v10 v11 y5) (((bits_Div64.c2_ok k a0 a1 a2 v10 v11 y5).ap e14)) (finP (aI trivial e15) (.exit 0) [] (bits_Div64.c1q a0 a1 a2 y5 v10))) (by kernel_rfl)))))
noncomputable def bits_Div64.c4p (a0 a1 a2 o17 v19 v20 y5:Int):SL:=⟨[(2,(.val T12 (ishl .u64 a2 (icv .u64 y5)))),(8,(.val T12 (icv .u64 y5))),(9,(.val T12 (ishr .u64 (ishl .u64 a2 (icv .u64 y5)) (32:Int)))),(10,(.val T12 (ibits .and .u64 (ishl .u64 a2 (icv .u64 y5)) (4294967295:Int)))),(14,(.val T12 (ibits .and .u64 (ishl .u64 a1 (icv .u64 y5)) (4294967295:Int)))),(15,(.val T12 o17)),(16,(.val T12 v19)),(17,(.val T12 (isub .u64 (iadd .u64 (imul .u64 (ibits .or .u64 (ishl .u64 a0 (icv .u64 y5)) (ishr .u64 a1 (isub .u64 (64:Int) (icv .u64 y5)))) (4294967296:Int)) (ishr .u64 (ishl .u64 a1 (icv .u64 y5)) (32:Int))) (imul .u64 o17 (ishl .u64 a2 (icv .u64 y5)))))),(18,(.val T12 v20))],[]⟩
noncomputable def bits_Div64.c4q (a0 a1 a2 o17 v19 v20 y5:Int) (o:Bool):SL:=(fun v=>⟨[(2,(.val T12 (ishl .u64 a2 (icv .u64 y5)))),(8,(.val T12 (icv .u64 y5))),(9,(.val T12 (ishr .u64 (ishl .u64 a2 (icv .u64 y5)) (32:Int)))),(10,(.val T12 (ibits .and .u64 (ishl .u64 a2 (icv .u64 y5)) (4294967295:Int)))),(14,(.val T12 (ibits .and .u64 (ishl .u64 a1 (icv .u64 y5)) (4294967295:Int)))),(15,(.val T12 o17)),(16,(.val T12 v19)),(17,(.val T12 (isub .u64 (iadd .u64 (imul .u64 (ibits .or .u64 (ishl .u64 a0 (icv .u64 y5)) (ishr .u64 a1 (isub .u64 (64:Int) (icv .u64 y5)))) (4294967296:Int)) (ishr .u64 (ishl .u64 a1 (icv .u64 y5)) (32:Int))) (imul .u64 o17 (ishl .u64 a2 (icv .u64 y5)))))),(18,(.val T12 v20)),(113,(.val T4 v))],[]⟩) o
noncomputable def bits_Div64.c4x (o:Bool):Ex:=(fun _=>.normal) o
noncomputable def bits_Div64.c4n (o:Bool):Nat:=(fun _=>0) o
theorem bits_Div64.c4_ok (k:Nat) (a0 a1 a2 o17 v19 v20 y5:Int):Owp (bits_Div64.c4 k a1 a2 v19 v20 y5) fun o=>Triple PR (bits_Div64.cx k) (sub bits_Div64.code [1,1,1,1,1,1,1,1,1,1,1,1,1,1,1,1,1,1,0,0,0,0,0]) 0 (bits_Div64.c4p a0 a1 a2 o17 v19 v20 y5) (bits_Div64.c4x o) (bits_Div64.c4n o) (bits_Div64.c4q a0 a1 a2 o17 v19 v20 y5 o):=by
  unfold bits_Div64.c4; exact
   Owp.bif (fun e21 =>
   Owp.some (triple_way (bits_Div64.cok k) hmix [tT,tT,tT,tT,tT,tT,tT,tT,tT] [] [] (via (finP (aI (aI (aI (aI (aI (aI (aI (aI (aI trivial e21) e21) e21) e21) e21) e21) e21) e21) e21) .normal [] (bits_Div64.c4q a0 a1 a2 o17 v19 v20 y5 true)) (by kernel_rfl)))) (fun e21 =>
   Owp.some (triple_way (bits_Div64.cok k) hmix [fF,fF,fF,fF,fF,fF,fF,fF,fF] [] [] (via (finP (aI (aI (aI (aI (aI (aI (aI (aI (aI trivial e21) e21) e21) e21) e21) e21) e21) e21) e21) .normal [] (bits_Div64.c4q a0 a1 a2 o17 v19 v20 y5 (igt (imul .u64 v20 (ibits .and .u64 (ishl .u64 a2 (icv .u64 y5)) (4294967295:Int))) (iadd .u64 (imul .u64 (4294967296:Int) v19) (ibits .and .u64 (ishl .u64 a1 (icv .u64 y5)) (4294967295:Int)))))) (by kernel_rfl))))
noncomputable def bits_Div64.c3p (a0 a1 a2 o17 y5 v19 v20:Int):SL:=⟨[(2,(.val T12 (ishl .u64 a2 (icv .u64 y5)))),(8,(.val T12 (icv .u64 y5))),(9,(.val T12 (ishr .u64 (ishl .u64 a2 (icv .u64 y5)) (32:Int)))),(10,(.val T12 (ibits .and .u64 (ishl .u64 a2 (icv .u64 y5)) (4294967295:Int)))),(14,(.val T12 (ibits .and .u64 (ishl .u64 a1 (icv .u64 y5)) (4294967295:Int)))),(15,(.val T12 o17)),(16,(.val T12 v19)),(17,(.val T12 (isub .u64 (iadd .u64 (imul .u64 (ibits .or .u64 (ishl .u64 a0 (icv .u64 y5)) (ishr .u64 a1 (isub .u64 (64:Int) (icv .u64 y5)))) (4294967296:Int)) (ishr .u64 (ishl .u64 a1 (icv .u64 y5)) (32:Int))) (imul .u64 o17 (ishl .u64 a2 (icv .u64 y5)))))),(18,(.val T12 v20))],[]⟩
noncomputable def bits_Div64.c3q (a0 a1 a2 o17 y5 o:Int):SL:=(fun v=>⟨[(2,(.val T12 (ishl .u64 a2 (icv .u64 y5)))),(8,(.val T12 (icv .u64 y5))),(14,(.val T12 (ibits .and .u64 (ishl .u64 a1 (icv .u64 y5)) (4294967295:Int)))),(15,(.val T12 o17)),(17,(.val T12 (isub .u64 (iadd .u64 (imul .u64 (ibits .or .u64 (ishl .u64 a0 (icv .u64 y5)) (ishr .u64 a1 (isub .u64 (64:Int) (icv .u64 y5)))) (4294967296:Int)) (ishr .u64 (ishl .u64 a1 (icv .u64 y5)) (32:Int))) (imul .u64 o17 (ishl .u64 a2 (icv .u64 y5)))))),(18,(.val T12 v))],[]⟩) o
noncomputable def bits_Div64.c3x (o:Int):Ex:=(fun _=>(.exit 2)) o
noncomputable def bits_Div64.c3n (o:Int):Nat:=(fun _=>0) o
theorem bits_Div64.c3_ok (k:Nat) (a0 a1 a2 o17 y5:Int):∀ (n:Nat) (v19 v20:Int),Owp (bits_Div64.c3 k a1 a2 y5 n v19 v20) fun o=>LTriple PR (bits_Div64.cx k) (sub bits_Div64.code [1,1,1,1,1,1,1,1,1,1,1,1,1,1,1,1,1,1,0,0,0]) 0 (bits_Div64.c3p a0 a1 a2 o17 y5 v19 v20) (bits_Div64.c3x o) (bits_Div64.c3n o) (bits_Div64.c3q a0 a1 a2 o17 y5 o)
  | 0,_,_=>fun _ h=>nomatch h
  | n+1,v19,v20=>Owp.of (bits_Div64.c3.eq_2 ..) (
   Owp.bnd fun o22 e23 =>
   Owp.bif (fun e24 =>
   Owp.bif (fun e25 =>
   Owp.some (loop_exit (bits_Div64.cok k) hmix [.cutR 24 ⟨[],[],(bits_Div64.c4p a0 a1 a2 o17 v19 v20 y5),0,.normal,(bits_Div64.c4q a0 a1 a2 o17 v19 v20 y5 o22),0⟩,tT,tT] [] [] (exne 2) (via (cutP trivial [] (bits_Div64.c4p a0 a1 a2 o17 v19 v20 y5) (((bits_Div64.c4_ok k a0 a1 a2 o17 v19 v20 y5).ap e23)) (finP (aI (aI trivial e24) e25) (.exit 2) [] (bits_Div64.c3q a0 a1 a2 o17 y5 (isub .u64 v20 (1:Int))))) (by kernel_rfl)))) (fun e25 =>
   fun y hy=>loop_back (bits_Div64.cok k) hmix 0 (bits_Div64.c3p a0 a1 a2 o17 y5 (iadd .u64 v19 (ishr .u64 (ishl .u64 a2 (icv .u64 y5)) (32:Int))) (isub .u64 v20 (1:Int))) [.cutR 24 ⟨[],[],(bits_Div64.c4p a0 a1 a2 o17 v19 v20 y5),0,.normal,(bits_Div64.c4q a0 a1 a2 o17 v19 v20 y5 o22),0⟩,tT,fF] [] [] (via (cutP trivial [] (bits_Div64.c4p a0 a1 a2 o17 v19 v20 y5) (((bits_Div64.c4_ok k a0 a1 a2 o17 v19 v20 y5).ap e23)) (finP (aI (aI trivial e24) e25) .normal [] (bits_Div64.c3p a0 a1 a2 o17 y5 (iadd .u64 v19 (ishr .u64 (ishl .u64 a2 (icv .u64 y5)) (32:Int))) (isub .u64 v20 (1:Int))))) (by kernel_rfl)) ((bits_Div64.c3_ok k a0 a1 a2 o17 y5 n (iadd .u64 v19 (ishr .u64 (ishl .u64 a2 (icv .u64 y5)) (32:Int))) (isub .u64 v20 (1:Int))).ap hy))) (fun e24 =>
   Owp.some (loop_exit (bits_Div64.cok k) hmix [.cutR 24 ⟨[],[],(bits_Div64.c4p a0 a1 a2 o17 v19 v20 y5),0,.normal,(bits_Div64.c4q a0 a1 a2 o17 v19 v20 y5 o22),0⟩,fF] [] [] (exne 2) (via (cutP trivial [] (bits_Div64.c4p a0 a1 a2 o17 v19 v20 y5) (((bits_Div64.c4_ok k a0 a1 a2 o17 v19 v20 y5).ap e23)) (finP (aI trivial e24) (.exit 2) [] (bits_Div64.c3q a0 a1 a2 o17 y5 v20))) (by kernel_rfl)))))
theorem bits_Div64.way (k:Nat) (a0 a1 a2:Int):Owp (bits_Div64 k a0 a1 a2) fun y=>∃ w c0,exec PR (bits_Div64.cx k) bits_Div64.code 0 (entry (.pair T12 (.pair T12 (.pair T12 .unit))) (a0,a1,a2,())).st w (Ret (bits_Div64.cx k) Try.f227 c0 (.more (.dp T12) (.one (.dp T12))) y):=by
  unfold bits_Div64; exact
   Owp.bif (fun e1 =>
   Owp.none) (fun e1 =>
   Owp.bif (fun e2 =>
   Owp.none) (fun e2 =>
   Owp.bif (fun e3 =>
   Owp.req fun h4 =>
   Owp.some (⟨[fF,fF,tT],[],via (retP (aI (aI (aI (aI (aI trivial e1) e2) e3) h4) h4) (.more (.dp T12) (.one (.dp T12))) (((iquo .u64 a1 a2),(irem a1 a2)):(Int × Int))) (by kernel_rfl)⟩)) (fun e3 =>
   Owp.bnd fun y5 e6 =>
   Owp.req fun h7 =>
   Owp.req fun h8 =>
   Owp.req fun h9 =>
   Owp.bnd fun o17 e18 =>
   Owp.bnd fun o26 e27 =>
   Owp.some (⟨[fF,fF,fF,rS T2 y5,.cut ⟨[],[],(bits_Div64.c1p a0 a1 a2 y5 (iquo .u64 (ibits .or .u64 (ishl .u64 a0 (icv .u64 y5)) (ishr .u64 a1 (isub .u64 (64:Int) (icv .u64 y5)))) (ishr .u64 (ishl .u64 a2 (icv .u64 y5)) (32:Int))) (isub .u64 (ibits .or .u64 (ishl .u64 a0 (icv .u64 y5)) (ishr .u64 a1 (isub .u64 (64:Int) (icv .u64 y5)))) (imul .u64 (iquo .u64 (ibits .or .u64 (ishl .u64 a0 (icv .u64 y5)) (ishr .u64 a1 (isub .u64 (64:Int) (icv .u64 y5)))) (ishr .u64 (ishl .u64 a2 (icv .u64 y5)) (32:Int))) (ishr .u64 (ishl .u64 a2 (icv .u64 y5)) (32:Int))))),0,(.exit 0),(bits_Div64.c1q a0 a1 a2 y5 o17),0⟩,.cut ⟨[],[],(bits_Div64.c3p a0 a1 a2 o17 y5 (isub .u64 (isub .u64 (iadd .u64 (imul .u64 (ibits .or .u64 (ishl .u64 a0 (icv .u64 y5)) (ishr .u64 a1 (isub .u64 (64:Int) (icv .u64 y5)))) (4294967296:Int)) (ishr .u64 (ishl .u64 a1 (icv .u64 y5)) (32:Int))) (imul .u64 o17 (ishl .u64 a2 (icv .u64 y5)))) (imul .u64 (iquo .u64 (isub .u64 (iadd .u64 (imul .u64 (ibits .or .u64 (ishl .u64 a0 (icv .u64 y5)) (ishr .u64 a1 (isub .u64 (64:Int) (icv .u64 y5)))) (4294967296:Int)) (ishr .u64 (ishl .u64 a1 (icv .u64 y5)) (32:Int))) (imul .u64 o17 (ishl .u64 a2 (icv .u64 y5)))) (ishr .u64 (ishl .u64 a2 (icv .u64 y5)) (32:Int))) (ishr .u64 (ishl .u64 a2 (icv .u64 y5)) (32:Int)))) (iquo .u64 (isub .u64 (iadd .u64 (imul .u64 (ibits .or .u64 (ishl .u64 a0 (icv .u64 y5)) (ishr .u64 a1 (isub .u64 (64:Int) (icv .u64 y5)))) (4294967296:Int)) (ishr .u64 (ishl .u64 a1 (icv .u64 y5)) (32:Int))) (imul .u64 o17 (ishl .u64 a2 (icv .u64 y5)))) (ishr .u64 (ishl .u64 a2 (icv .u64 y5)) (32:Int)))),0,(.exit 2),(bits_Div64.c3q a0 a1 a2 o17 y5 o26),0⟩],[],via (cutP (aI (aI (aI (aI (aI (aI (aI (aI (aI (aI (aI trivial e1) e2) e3) e6) h7) (by decide:ng (32:Int))) h7) h8) h7) (by decide:ng (32:Int))) h9) [] (bits_Div64.c1p a0 a1 a2 y5 (iquo .u64 (ibits .or .u64 (ishl .u64 a0 (icv .u64 y5)) (ishr .u64 a1 (isub .u64 (64:Int) (icv .u64 y5)))) (ishr .u64 (ishl .u64 a2 (icv .u64 y5)) (32:Int))) (isub .u64 (ibits .or .u64 (ishl .u64 a0 (icv .u64 y5)) (ishr .u64 a1 (isub .u64 (64:Int) (icv .u64 y5)))) (imul .u64 (iquo .u64 (ibits .or .u64 (ishl .u64 a0 (icv .u64 y5)) (ishr .u64 a1 (isub .u64 (64:Int) (icv .u64 y5)))) (ishr .u64 (ishl .u64 a2 (icv .u64 y5)) (32:Int))) (ishr .u64 (ishl .u64 a2 (icv .u64 y5)) (32:Int))))) (((bits_Div64.c1_ok k a0 a1 a2 y5 k (iquo .u64 (ibits .or .u64 (ishl .u64 a0 (icv .u64 y5)) (ishr .u64 a1 (isub .u64 (64:Int) (icv .u64 y5)))) (ishr .u64 (ishl .u64 a2 (icv .u64 y5)) (32:Int))) (isub .u64 (ibits .or .u64 (ishl .u64 a0 (icv .u64 y5)) (ishr .u64 a1 (isub .u64 (64:Int) (icv .u64 y5)))) (imul .u64 (iquo .u64 (ibits .or .u64 (ishl .u64 a0 (icv .u64 y5)) (ishr .u64 a1 (isub .u64 (64:Int) (icv .u64 y5)))) (ishr .u64 (ishl .u64 a2 (icv .u64 y5)) (32:Int))) (ishr .u64 (ishl .u64 a2 (icv .u64 y5)) (32:Int))))).ap e18).triple) (cutP (aI trivial h9) [] (bits_Div64.c3p a0 a1 a2 o17 y5 (isub .u64 (isub .u64 (iadd .u64 (imul .u64 (ibits .or .u64 (ishl .u64 a0 (icv .u64 y5)) (ishr .u64 a1 (isub .u64 (64:Int) (icv .u64 y5)))) (4294967296:Int)) (ishr .u64 (ishl .u64 a1 (icv .u64 y5)) (32:Int))) (imul .u64 o17 (ishl .u64 a2 (icv .u64 y5)))) (imul .u64 (iquo .u64 (isub .u64 (iadd .u64 (imul .u64 (ibits .or .u64 (ishl .u64 a0 (icv .u64 y5)) (ishr .u64 a1 (isub .u64 (64:Int) (icv .u64 y5)))) (4294967296:Int)) (ishr .u64 (ishl .u64 a1 (icv .u64 y5)) (32:Int))) (imul .u64 o17 (ishl .u64 a2 (icv .u64 y5)))) (ishr .u64 (ishl .u64 a2 (icv .u64 y5)) (32:Int))) (ishr .u64 (ishl .u64 a2 (icv .u64 y5)) (32:Int)))) (iquo .u64 (isub .u64 (iadd .u64 (imul .u64 (ibits .or .u64 (ishl .u64 a0 (icv .u64 y5)) (ishr .u64 a1 (isub .u64 (64:Int) (icv .u64 y5)))) (4294967296:Int)) (ishr .u64 (ishl .u64 a1 (icv .u64 y5)) (32:Int))) (imul .u64 o17 (ishl .u64 a2 (icv .u64 y5)))) (ishr .u64 (ishl .u64 a2 (icv .u64 y5)) (32:Int)))) (((bits_Div64.c3_ok k a0 a1 a2 o17 y5 k (isub .u64 (isub .u64 (iadd .u64 (imul .u64 (ibits .or .u64 (ishl .u64 a0 (icv .u64 y5)) (ishr .u64 a1 (isub .u64 (64:Int) (icv .u64 y5)))) (4294967296:Int)) (ishr .u64 (ishl .u64 a1 (icv .u64 y5)) (32:Int))) (imul .u64 o17 (ishl .u64 a2 (icv .u64 y5)))) (imul .u64 (iquo .u64 (isub .u64 (iadd .u64 (imul .u64 (ibits .or .u64 (ishl .u64 a0 (icv .u64 y5)) (ishr .u64 a1 (isub .u64 (64:Int) (icv .u64 y5)))) (4294967296:Int)) (ishr .u64 (ishl .u64 a1 (icv .u64 y5)) (32:Int))) (imul .u64 o17 (ishl .u64 a2 (icv .u64 y5)))) (ishr .u64 (ishl .u64 a2 (icv .u64 y5)) (32:Int))) (ishr .u64 (ishl .u64 a2 (icv .u64 y5)) (32:Int)))) (iquo .u64 (isub .u64 (iadd .u64 (imul .u64 (ibits .or .u64 (ishl .u64 a0 (icv .u64 y5)) (ishr .u64 a1 (isub .u64 (64:Int) (icv .u64 y5)))) (4294967296:Int)) (ishr .u64 (ishl .u64 a1 (icv .u64 y5)) (32:Int))) (imul .u64 o17 (ishl .u64 a2 (icv .u64 y5)))) (ishr .u64 (ishl .u64 a2 (icv .u64 y5)) (32:Int)))).ap e27).triple) (retP (aI trivial h7) (.more (.dp T12) (.one (.dp T12))) (((iadd .u64 (imul .u64 o17 (4294967296:Int)) o26),(ishr .u64 (isub .u64 (iadd .u64 (imul .u64 (isub .u64 (iadd .u64 (imul .u64 (ibits .or .u64 (ishl .u64 a0 (icv .u64 y5)) (ishr .u64 a1 (isub .u64 (64:Int) (icv .u64 y5)))) (4294967296:Int)) (ishr .u64 (ishl .u64 a1 (icv .u64 y5)) (32:Int))) (imul .u64 o17 (ishl .u64 a2 (icv .u64 y5)))) (4294967296:Int)) (ibits .and .u64 (ishl .u64 a1 (icv .u64 y5)) (4294967295:Int))) (imul .u64 o26 (ishl .u64 a2 (icv .u64 y5)))) (icv .u64 y5))):(Int × Int))))) (by kernel_rfl)⟩))))
theorem bits_Div64.ok (k:Nat):FnOk PR 227 (bits_Div64.sp k) :=
  fn_ok (bits_Div64.cok k) hmix Try.func227 (code:=bits_Div64.code) (by kernel_rfl) (by kernel_rfl) (by kernel_rfl) rfl rfl (by kernel_rfl) (by kernel_rfl) (by kernel_rfl) (fun x=>Nat.le_of_ble_eq_true (by kernel_rfl)) fun x y hy=>(bits_Div64.way k x.1 x.2.1 x.2.2.1).ap hy
noncomputable def fix_MulDiv.code:Code:=Func.cd Try.f171
def fix_MulDiv.c1 (k:Nat) (y1 y3:Int):Option (Bool) :=
  bif' (ilt y3 0)
  (some (!(ilt y1 0)))
  (some (ilt y1 0))
def fix_MulDiv.c2 (k:Nat) (o9:Bool) (y5:Int):Option (Bool) :=
  bif' (ilt y5 0)
  (some (!o9))
  (some o9)
def fix_MulDiv.c3 (k:Nat) (y24:(Int × Int)):Option ((Int × Int)) :=
  bif' (igt y24.1 1099511627776)
  (some (1099511627777,0))
  (some (y24.1,y24.2))
def fix_MulDiv.c4 (k:Nat) (o27:(Int × Int)) (y14:Int):Option (Int) :=
  bif' (igt o27.2 (isub .u64 y14 o27.2))
  (some (iadd .i64 (icv .i64 o27.1) 1))
  (some (icv .i64 o27.1))
def fix_MulDiv.c5 (k:Nat) (o27:(Int × Int)) (y14:Int):Option (Int) :=
  bif' (ige o27.2 (isub .u64 y14 o27.2))
  (some (iadd .i64 (icv .i64 o27.1) 1))
  (some (icv .i64 o27.1))
def fix_MulDiv (k:Nat) (a0 a1 a2:Int):Option Int :=
  bnd (fix_Clamp k a0) fun y1 =>
  bnd (fix_Clamp k a1) fun y3 =>
  bnd (fix_Clamp k a2) fun y5 =>
  bif' (ieq y5 0)
  (some 0)
  (bnd (fix_MulDiv.c1 k y1 y3) fun o9 =>
   bnd (fix_MulDiv.c2 k o9 y5) fun o12 =>
   bnd (fix_mag k y5) fun y14 =>
   bnd (fix_mag k y1) fun y16 =>
   bnd (fix_mag k y3) fun y18 =>
   bnd (bits_Mul64 k y16 y18) fun y20 =>
   bif' (ige y20.1 y14)
   (bif' o12
   (some (-1099511627776))
   (some 1099511627776))
   (bnd (bits_Div64 k y20.1 y20.2 y14) fun y24 =>
   bnd (fix_MulDiv.c3 k y24) fun o27 =>
   bif' o12
   (bnd (fix_MulDiv.c4 k o27 y14) fun o31 =>
   bnd (fix_Clamp k (ineg .i64 o31)) fun y33 =>
   some y33)
   (bnd (fix_MulDiv.c5 k o27 y14) fun o36 =>
   bnd (fix_Clamp k o36) fun y38 =>
   some y38)))
noncomputable def fix_MulDiv.sp (k:Nat):Go.Sx.Spec:=⟨(.pair T2 T27),(.one (.dp T2)),fun x=>fix_MulDiv k x.1 x.2.1 x.2.2.1,false⟩
noncomputable def fix_MulDiv.cx (k:Nat):Go.Sx.Ctx:=⟨tys,[(141,fix_Clamp.sp k),(226,fix_mag.sp k),(186,bits_Mul64.sp k),(227,bits_Div64.sp k)],eqs,78,0,[],false⟩
theorem fix_MulDiv.cok (k:Nat):CtxOk PR (fix_MulDiv.cx k):=ctx_ok tysOk eqsOk (FnsOk.cons (fix_Clamp.ok k) (FnsOk.cons (fix_mag.ok k) (FnsOk.cons (bits_Mul64.ok k) (FnsOk.cons (bits_Div64.ok k) FnsOk.nil)))) HsOk.nil
noncomputable def fix_MulDiv.c1p (y1 y3 y5:Int):SL:=⟨[(0,(.val T2 y1)),(1,(.val T2 y3)),(2,(.val T2 y5)),(7,(.val T4 (ilt y1 (0:Int)))),(25,(.val T4 (ilt y3 (0:Int))))],[]⟩
noncomputable def fix_MulDiv.c1q (y1 y3 y5:Int) (o:Bool):SL:=(fun v=>⟨[(0,(.val T2 y1)),(1,(.val T2 y3)),(2,(.val T2 y5)),(7,(.val T4 v))],[]⟩) o
noncomputable def fix_MulDiv.c1x (o:Bool):Ex:=(fun _=>.normal) o
noncomputable def fix_MulDiv.c1n (o:Bool):Nat:=(fun _=>0) o
theorem fix_MulDiv.c1_ok (k:Nat) (y1 y3 y5:Int):Owp (fix_MulDiv.c1 k y1 y3) fun o=>Triple PR (fix_MulDiv.cx k) (sub fix_MulDiv.code [1,1,1,1,0,1]) 0 (fix_MulDiv.c1p y1 y3 y5) (fix_MulDiv.c1x o) (fix_MulDiv.c1n o) (fix_MulDiv.c1q y1 y3 y5 o):=by
  unfold fix_MulDiv.c1; exact
   Owp.bif (fun e8 =>
   Owp.some (triple_way (fix_MulDiv.cok k) hmix [tT] [] [] (via (finP (aI trivial e8) .normal [] (fix_MulDiv.c1q y1 y3 y5 (!(ilt y1 (0:Int))))) (by kernel_rfl)))) (fun e8 =>
   Owp.some (triple_way (fix_MulDiv.cok k) hmix [fF] [] [] (via (finP (aI trivial e8) .normal [] (fix_MulDiv.c1q y1 y3 y5 (ilt y1 (0:Int)))) (by kernel_rfl))))
noncomputable def fix_MulDiv.c2p (o9:Bool) (y1 y3 y5:Int):SL:=⟨[(0,(.val T2 y1)),(1,(.val T2 y3)),(2,(.val T2 y5)),(7,(.val T4 o9)),(29,(.val T4 (ilt y5 (0:Int))))],[]⟩
noncomputable def fix_MulDiv.c2q (y1 y3 y5:Int) (o:Bool):SL:=(fun v=>⟨[(0,(.val T2 y1)),(1,(.val T2 y3)),(2,(.val T2 y5)),(7,(.val T4 v))],[]⟩) o
noncomputable def fix_MulDiv.c2x (o:Bool):Ex:=(fun _=>.normal) o
noncomputable def fix_MulDiv.c2n (o:Bool):Nat:=(fun _=>0) o
theorem fix_MulDiv.c2_ok (k:Nat) (o9:Bool) (y1 y3 y5:Int):Owp (fix_MulDiv.c2 k o9 y5) fun o=>Triple PR (fix_MulDiv.cx k) (sub fix_MulDiv.code [1,1,1,1,1,0,1]) 0 (fix_MulDiv.c2p o9 y1 y3 y5) (fix_MulDiv.c2x o) (fix_MulDiv.c2n o) (fix_MulDiv.c2q y1 y3 y5 o):=by
  unfold fix_MulDiv.c2; exact
   Owp.bif (fun e11 =>
   Owp.some (triple_way (fix_MulDiv.cok k) hmix [tT] [] [] (via (finP (aI trivial e11) .normal [] (fix_MulDiv.c2q y1 y3 y5 (!o9))) (by kernel_rfl)))) (fun e11 =>
   Owp.some (triple_way (fix_MulDiv.cok k) hmix [fF] [] [] (via (finP (aI trivial e11) .normal [] (fix_MulDiv.c2q y1 y3 y5 o9)) (by kernel_rfl))))
noncomputable def fix_MulDiv.c3p (o12:Bool) (y14:Int) (y24:(Int × Int)):SL:=⟨[(7,(.val T4 o12)),(8,(.val T12 y14)),(11,(.val T12 y24.1)),(12,(.val T12 y24.2)),(54,(.val T4 (igt y24.1 (1099511627776:Int))))],[]⟩
noncomputable def fix_MulDiv.c3q (o12:Bool) (y14:Int) (o:(Int × Int)):SL:=(fun v=>⟨[(7,(.val T4 o12)),(8,(.val T12 y14)),(11,(.val T12 v.1)),(12,(.val T12 v.2))],[]⟩) o
noncomputable def fix_MulDiv.c3x (o:(Int × Int)):Ex:=(fun _=>.normal) o
noncomputable def fix_MulDiv.c3n (o:(Int × Int)):Nat:=(fun _=>0) o
theorem fix_MulDiv.c3_ok (k:Nat) (o12:Bool) (y14:Int) (y24:(Int × Int)):Owp (fix_MulDiv.c3 k y24) fun o=>Triple PR (fix_MulDiv.cx k) (sub fix_MulDiv.code [1,1,1,1,1,1,1,1,1,1,0,1]) 0 (fix_MulDiv.c3p o12 y14 y24) (fix_MulDiv.c3x o) (fix_MulDiv.c3n o) (fix_MulDiv.c3q o12 y14 o):=by
  unfold fix_MulDiv.c3; exact
   Owp.bif (fun e26 =>
   Owp.some (triple_way (fix_MulDiv.cok k) hmix [tT] [] [] (via (finP (aI trivial e26) .normal [] (fix_MulDiv.c3q o12 y14 ((1099511627777:Int),(0:Int)))) (by kernel_rfl)))) (fun e26 =>
   Owp.some (triple_way (fix_MulDiv.cok k) hmix [fF] [] [] (via (finP (aI trivial e26) .normal [] (fix_MulDiv.c3q o12 y14 (y24.1,y24.2))) (by kernel_rfl))))
noncomputable def fix_MulDiv.c4p (o27:(Int × Int)) (y14:Int):SL:=⟨[(13,(.val T2 (icv .i64 o27.1))),(72,(.val T4 (igt o27.2 (isub .u64 y14 o27.2))))],[]⟩
noncomputable def fix_MulDiv.c4q (o:Int):SL:=(fun v=>⟨[(13,(.val T2 v))],[]⟩) o
noncomputable def fix_MulDiv.c4x (o:Int):Ex:=(fun _=>.normal) o
noncomputable def fix_MulDiv.c4n (o:Int):Nat:=(fun _=>0) o
theorem fix_MulDiv.c4_ok (k:Nat) (o27:(Int × Int)) (y14:Int):Owp (fix_MulDiv.c4 k o27 y14) fun o=>Triple PR (fix_MulDiv.cx k) (sub fix_MulDiv.code [1,1,1,1,1,1,1,1,1,1,1,1,1,0,1]) 0 (fix_MulDiv.c4p o27 y14) (fix_MulDiv.c4x o) (fix_MulDiv.c4n o) (fix_MulDiv.c4q o):=by
  unfold fix_MulDiv.c4; exact
   Owp.bif (fun e30 =>
   Owp.some (triple_way (fix_MulDiv.cok k) hmix [tT] [] [] (via (finP (aI trivial e30) .normal [] (fix_MulDiv.c4q (iadd .i64 (icv .i64 o27.1) (1:Int)))) (by kernel_rfl)))) (fun e30 =>
   Owp.some (triple_way (fix_MulDiv.cok k) hmix [fF] [] [] (via (finP (aI trivial e30) .normal [] (fix_MulDiv.c4q (icv .i64 o27.1))) (by kernel_rfl))))
noncomputable def fix_MulDiv.c5p (o27:(Int × Int)) (y14:Int):SL:=⟨[(13,(.val T2 (icv .i64 o27.1))),(63,(.val T4 (ige o27.2 (isub .u64 y14 o27.2))))],[]⟩
noncomputable def fix_MulDiv.c5q (o:Int):SL:=(fun v=>⟨[(13,(.val T2 v))],[]⟩) o
noncomputable def fix_MulDiv.c5x (o:Int):Ex:=(fun _=>.normal) o
noncomputable def fix_MulDiv.c5n (o:Int):Nat:=(fun _=>0) o
theorem fix_MulDiv.c5_ok (k:Nat) (o27:(Int × Int)) (y14:Int):Owp (fix_MulDiv.c5 k o27 y14) fun o=>Triple PR (fix_MulDiv.cx k) (sub fix_MulDiv.code [1,1,1,1,1,1,1,1,1,1,1,1,0,1,0,0,1]) 0 (fix_MulDiv.c5p o27 y14) (fix_MulDiv.c5x o) (fix_MulDiv.c5n o) (fix_MulDiv.c5q o):=by
  unfold fix_MulDiv.c5; exact
   Owp.bif (fun e35 =>
   Owp.some (triple_way (fix_MulDiv.cok k) hmix [tT] [] [] (via (finP (aI trivial e35) .normal [] (fix_MulDiv.c5q (iadd .i64 (icv .i64 o27.1) (1:Int)))) (by kernel_rfl)))) (fun e35 =>
   Owp.some (triple_way (fix_MulDiv.cok k) hmix [fF] [] [] (via (finP (aI trivial e35) .normal [] (fix_MulDiv.c5q (icv .i64 o27.1))) (by kernel_rfl))))
theorem fix_MulDiv.way (k:Nat) (a0 a1 a2:Int):Owp (fix_MulDiv k a0 a1 a2) fun y=>∃ w c0,exec PR (fix_MulDiv.cx k) fix_MulDiv.code 0 (entry (.pair T2 T27) (a0,a1,a2,())).st w (Ret (fix_MulDiv.cx k) Try.f171 c0 (.one (.dp T2)) y):=by
  unfold fix_MulDiv; exact
   Owp.bnd fun y1 e2 =>
   Owp.bnd fun y3 e4 =>
   Owp.bnd fun y5 e6 =>
   Owp.bif (fun e7 =>
   Owp.some (⟨[rS T2 y1,rS T2 y3,rS T2 y5,tT],[],via (retP (aI (aI (aI (aI trivial e2) e4) e6) e7) (.one (.dp T2)) ((0:Int):Int)) (by kernel_rfl)⟩)) (fun e7 =>
   Owp.bnd fun o9 e10 =>
   Owp.bnd fun o12 e13 =>
   Owp.bnd fun y14 e15 =>
   Owp.bnd fun y16 e17 =>
   Owp.bnd fun y18 e19 =>
   Owp.bnd fun y20 e21 =>
   Owp.bif (fun e22 =>
   Owp.bif (fun e23 =>
   Owp.some (⟨[rS T2 y1,rS T2 y3,rS T2 y5,fF,.cut ⟨[],[],(fix_MulDiv.c1p y1 y3 y5),0,.normal,(fix_MulDiv.c1q y1 y3 y5 o9),0⟩,.cut ⟨[],[],(fix_MulDiv.c2p o9 y1 y3 y5),0,.normal,(fix_MulDiv.c2q y1 y3 y5 o12),0⟩,rS T12 y14,rS T12 y16,rS T12 y18,.res (.more (.dp T12) (.one (.dp T12))) y20,tT,tT],[],via (cutP (aI (aI (aI (aI trivial e2) e4) e6) e7) [] (fix_MulDiv.c1p y1 y3 y5) (((fix_MulDiv.c1_ok k y1 y3 y5).ap e10)) (cutP trivial [] (fix_MulDiv.c2p o9 y1 y3 y5) (((fix_MulDiv.c2_ok k o9 y1 y3 y5).ap e13)) (retP (aI (aI (aI (aI (aI (aI trivial e15) e17) e19) e21) e22) e23) (.one (.dp T2)) ((-1099511627776:Int):Int)))) (by kernel_rfl)⟩)) (fun e23 =>
   Owp.some (⟨[rS T2 y1,rS T2 y3,rS T2 y5,fF,.cut ⟨[],[],(fix_MulDiv.c1p y1 y3 y5),0,.normal,(fix_MulDiv.c1q y1 y3 y5 o9),0⟩,.cut ⟨[],[],(fix_MulDiv.c2p o9 y1 y3 y5),0,.normal,(fix_MulDiv.c2q y1 y3 y5 o12),0⟩,rS T12 y14,rS T12 y16,rS T12 y18,.res (.more (.dp T12) (.one (.dp T12))) y20,tT,fF],[],via (cutP (aI (aI (aI (aI trivial e2) e4) e6) e7) [] (fix_MulDiv.c1p y1 y3 y5) (((fix_MulDiv.c1_ok k y1 y3 y5).ap e10)) (cutP trivial [] (fix_MulDiv.c2p o9 y1 y3 y5) (((fix_MulDiv.c2_ok k o9 y1 y3 y5).ap e13)) (retP (aI (aI (aI (aI (aI (aI trivial e15) e17) e19) e21) e22) e23) (.one (.dp T2)) ((1099511627776:Int):Int)))) (by kernel_rfl)⟩))) (fun e22 =>
   Owp.bnd fun y24 e25 =>
   Owp.bnd fun o27 e28 =>
   Owp.bif (fun e29 =>
   Owp.bnd fun o31 e32 =>
   Owp.bnd fun y33 e34 =>
   Owp.some (⟨[rS T2 y1,rS T2 y3,rS T2 y5,fF,.cut ⟨[],[],(fix_MulDiv.c1p y1 y3 y5),0,.normal,(fix_MulDiv.c1q y1 y3 y5 o9),0⟩,.cut ⟨[],[],(fix_MulDiv.c2p o9 y1 y3 y5),0,.normal,(fix_MulDiv.c2q y1 y3 y5 o12),0⟩,rS T12 y14,rS T12 y16,rS T12 y18,.res (.more (.dp T12) (.one (.dp T12))) y20,fF,.res (.more (.dp T12) (.one (.dp T12))) y24,.cut ⟨[],[],(fix_MulDiv.c3p o12 y14 y24),0,.normal,(fix_MulDiv.c3q o12 y14 o27),0⟩,fF,.cut ⟨[],[],(fix_MulDiv.c4p o27 y14),0,.normal,(fix_MulDiv.c4q o31),0⟩,rS T2 y33],[],via (cutP (aI (aI (aI (aI trivial e2) e4) e6) e7) [] (fix_MulDiv.c1p y1 y3 y5) (((fix_MulDiv.c1_ok k y1 y3 y5).ap e10)) (cutP trivial [] (fix_MulDiv.c2p o9 y1 y3 y5) (((fix_MulDiv.c2_ok k o9 y1 y3 y5).ap e13)) (cutP (aI (aI (aI (aI (aI (aI trivial e15) e17) e19) e21) e22) e25) [] (fix_MulDiv.c3p o12 y14 y24) (((fix_MulDiv.c3_ok k o12 y14 y24).ap e28)) (cutP (aI trivial (congrArg not e29)) [] (fix_MulDiv.c4p o27 y14) (((fix_MulDiv.c4_ok k o27 y14).ap e32)) (retP (aI trivial e34) (.one (.dp T2)) (y33:Int)))))) (by kernel_rfl)⟩)) (fun e29 =>
   Owp.bnd fun o36 e37 =>
   Owp.bnd fun y38 e39 =>
   Owp.some (⟨[rS T2 y1,rS T2 y3,rS T2 y5,fF,.cut ⟨[],[],(fix_MulDiv.c1p y1 y3 y5),0,.normal,(fix_MulDiv.c1q y1 y3 y5 o9),0⟩,.cut ⟨[],[],(fix_MulDiv.c2p o9 y1 y3 y5),0,.normal,(fix_MulDiv.c2q y1 y3 y5 o12),0⟩,rS T12 y14,rS T12 y16,rS T12 y18,.res (.more (.dp T12) (.one (.dp T12))) y20,fF,.res (.more (.dp T12) (.one (.dp T12))) y24,.cut ⟨[],[],(fix_MulDiv.c3p o12 y14 y24),0,.normal,(fix_MulDiv.c3q o12 y14 o27),0⟩,tT,.cut ⟨[],[],(fix_MulDiv.c5p o27 y14),0,.normal,(fix_MulDiv.c5q o36),0⟩,rS T2 y38],[],via (cutP (aI (aI (aI (aI trivial e2) e4) e6) e7) [] (fix_MulDiv.c1p y1 y3 y5) (((fix_MulDiv.c1_ok k y1 y3 y5).ap e10)) (cutP trivial [] (fix_MulDiv.c2p o9 y1 y3 y5) (((fix_MulDiv.c2_ok k o9 y1 y3 y5).ap e13)) (cutP (aI (aI (aI (aI (aI (aI trivial e15) e17) e19) e21) e22) e25) [] (fix_MulDiv.c3p o12 y14 y24) (((fix_MulDiv.c3_ok k o12 y14 y24).ap e28)) (cutP (aI trivial (congrArg not e29)) [] (fix_MulDiv.c5p o27 y14) (((fix_MulDiv.c5_ok k o27 y14).ap e37)) (retP (aI trivial e39) (.one (.dp T2)) (y38:Int)))))) (by kernel_rfl)⟩))))
theorem fix_MulDiv.ok (k:Nat):FnOk PR 171 (fix_MulDiv.sp k) :=
  fn_ok (fix_MulDiv.cok k) hmix Try.func171 (code:=fix_MulDiv.code) (by kernel_rfl) (by kernel_rfl) (by kernel_rfl) rfl rfl (by kernel_rfl) (by kernel_rfl) (by kernel_rfl) (fun x=>Nat.le_of_ble_eq_true (by kernel_rfl)) fun x y hy=>(fix_MulDiv.way k x.1 x.2.1 x.2.2.1).ap hy
noncomputable def fix_Mul.code:Code:=Func.cd Try.f121
def fix_Mul (k:Nat) (a0 a1:Int):Option Int :=
  bnd (fix_MulDiv k a0 a1 65536) fun y1 =>
  some y1
noncomputable def fix_Mul.sp (k:Nat):Go.Sx.Spec:=⟨T27,(.one (.dp T2)),fun x=>fix_Mul k x.1 x.2.1,false⟩
noncomputable def fix_Mul.cx (k:Nat):Go.Sx.Ctx:=⟨tys,[(171,fix_MulDiv.sp k)],eqs,8,0,[],false⟩
theorem fix_Mul.cok (k:Nat):CtxOk PR (fix_Mul.cx k):=ctx_ok tysOk eqsOk (FnsOk.cons (fix_MulDiv.ok k) FnsOk.nil) HsOk.nil
theorem fix_Mul.way (k:Nat) (a0 a1:Int):Owp (fix_Mul k a0 a1) fun y=>∃ w c0,exec PR (fix_Mul.cx k) fix_Mul.code 0 (entry T27 (a0,a1,())).st w (Ret (fix_Mul.cx k) Try.f121 c0 (.one (.dp T2)) y):=by
  unfold fix_Mul; exact
   Owp.bnd fun y1 e2 =>
   Owp.some (⟨[rS T2 y1],[],via (retP (aI trivial e2) (.one (.dp T2)) (y1:Int)) (by kernel_rfl)⟩)
theorem fix_Mul.ok (k:Nat):FnOk PR 121 (fix_Mul.sp k) :=
  fn_ok (fix_Mul.cok k) hmix Try.func121 (code:=fix_Mul.code) (by kernel_rfl) (by kernel_rfl) (by kernel_rfl) rfl rfl (by kernel_rfl) (by kernel_rfl) (by kernel_rfl) (fun x=>Nat.le_of_ble_eq_true (by kernel_rfl)) fun x y hy=>(fix_Mul.way k x.1 x.2.1).ap hy
noncomputable def fix_Sub.code:Code:=Func.cd Try.f143
def fix_Sub (k:Nat) (a0 a1:Int):Option Int :=
  bnd (fix_Clamp k a0) fun y1 =>
  bnd (fix_Clamp k a1) fun y3 =>
  bnd (fix_Clamp k (isub .i64 y1 y3)) fun y5 =>
  some y5
noncomputable def fix_Sub.sp (k:Nat):Go.Sx.Spec:=⟨T27,(.one (.dp T2)),fun x=>fix_Sub k x.1 x.2.1,false⟩
noncomputable def fix_Sub.cx (k:Nat):Go.Sx.Ctx:=⟨tys,[(141,fix_Clamp.sp k)],eqs,11,0,[],false⟩
theorem fix_Sub.cok (k:Nat):CtxOk PR (fix_Sub.cx k):=ctx_ok tysOk eqsOk (FnsOk.cons (fix_Clamp.ok k) FnsOk.nil) HsOk.nil
theorem fix_Sub.way (k:Nat) (a0 a1:Int):Owp (fix_Sub k a0 a1) fun y=>∃ w c0,exec PR (fix_Sub.cx k) fix_Sub.code 0 (entry T27 (a0,a1,())).st w (Ret (fix_Sub.cx k) Try.f143 c0 (.one (.dp T2)) y):=by
  unfold fix_Sub; exact
   Owp.bnd fun y1 e2 =>
   Owp.bnd fun y3 e4 =>
   Owp.bnd fun y5 e6 =>
   Owp.some (⟨[rS T2 y1,rS T2 y3,rS T2 y5],[],via (retP (aI (aI (aI trivial e2) e4) e6) (.one (.dp T2)) (y5:Int)) (by kernel_rfl)⟩)
theorem fix_Sub.ok (k:Nat):FnOk PR 143 (fix_Sub.sp k) :=
  fn_ok (fix_Sub.cok k) hmix Try.func143 (code:=fix_Sub.code) (by kernel_rfl) (by kernel_rfl) (by kernel_rfl) rfl rfl (by kernel_rfl) (by kernel_rfl) (by kernel_rfl) (fun x=>Nat.le_of_ble_eq_true (by kernel_rfl)) fun x y hy=>(fix_Sub.way k x.1 x.2.1).ap hy
noncomputable def vec_Add.code:Code:=Func.cd Try.f47
def vec_Add (k:Nat) (a0 a1:V27):Option V27 :=
  bnd (fix_Add k a0.1 a1.1) fun y1 =>
  bnd (fix_Add k a0.2.1 a1.2.1) fun y3 =>
  some (y1,y3,())
noncomputable def vec_Add.sp (k:Nat):Go.Sx.Spec:=⟨T41,(.one (.dp T27)),fun x=>vec_Add k x.1 x.2.1,false⟩
noncomputable def vec_Add.cx (k:Nat):Go.Sx.Ctx:=⟨tys,[(120,fix_Add.sp k)],eqs,16,0,[],false⟩
theorem vec_Add.cok (k:Nat):CtxOk PR (vec_Add.cx k):=ctx_ok tysOk eqsOk (FnsOk.cons (fix_Add.ok k) FnsOk.nil) HsOk.nil
theorem vec_Add.way (k:Nat) (a0 a1:V27):Owp (vec_Add k a0 a1) fun y=>∃ w c0,exec PR (vec_Add.cx k) vec_Add.code 0 (entry T41 (a0,a1,())).st w (Ret (vec_Add.cx k) Try.f47 c0 (.one (.dp T27)) y):=by
  unfold vec_Add; exact
   Owp.bnd fun y1 e2 =>
   Owp.bnd fun y3 e4 =>
   Owp.some (⟨[rS T2 y1,rS T2 y3],[],via (retP (aI (aI trivial e2) e4) (.one (.dp T27)) ((y1,y3,()):V27)) (by kernel_rfl)⟩)
theorem vec_Add.ok (k:Nat):FnOk PR 47 (vec_Add.sp k) :=
  fn_ok (vec_Add.cok k) hmix Try.func47 (code:=vec_Add.code) (by kernel_rfl) (by kernel_rfl) (by kernel_rfl) rfl rfl (by kernel_rfl) (by kernel_rfl) (by kernel_rfl) (fun x=>Nat.le_of_ble_eq_true (by kernel_rfl)) fun x y hy=>(vec_Add.way k x.1 x.2.1).ap hy
noncomputable def trig_table.code:Code:=Func.cd Try.f248
def trig_table (k:Nat):Option (List Int) :=
  some [0,1608,3216,4821,6424,8022,9616,11204,12785,14359,15924,17479,19024,20557,22078,23586,25080,26558,28020,29466,30893,32303,33692,35062,36410,37736,39040,40320,41576,42806,44011,45190,46341,47464,48559,49624,50660,51665,52639,53581,54491,55368,56212,57022,57798,58538,59244,59914,60547,61145,61705,62228,62714,63162,63572,63944,64277,64571,64827,65043,65220,65358,65457,65516,65536]
noncomputable def trig_table.sp (k:Nat):Go.Sx.Spec:=⟨.unit,(.one (.dp (.arr 65 T2))),fun x=>trig_table k,false⟩
noncomputable def trig_table.cx (k:Nat):Go.Sx.Ctx:=⟨tys,[],eqs,2,0,[],false⟩
theorem trig_table.cok (k:Nat):CtxOk PR (trig_table.cx k):=ctx_ok tysOk eqsOk FnsOk.nil HsOk.nil
theorem trig_table.way (k:Nat):Owp (trig_table k) fun y=>∃ w c0,exec PR (trig_table.cx k) trig_table.code 0 (entry .unit ()).st w (Ret (trig_table.cx k) Try.f248 c0 (.one (.dp (.arr 65 T2))) y):=by
  unfold trig_table; exact
   Owp.some (⟨[],[],via (retP trivial (.one (.dp (.arr 65 T2))) ([(0:Int),(1608:Int),(3216:Int),(4821:Int),(6424:Int),(8022:Int),(9616:Int),(11204:Int),(12785:Int),(14359:Int),(15924:Int),(17479:Int),(19024:Int),(20557:Int),(22078:Int),(23586:Int),(25080:Int),(26558:Int),(28020:Int),(29466:Int),(30893:Int),(32303:Int),(33692:Int),(35062:Int),(36410:Int),(37736:Int),(39040:Int),(40320:Int),(41576:Int),(42806:Int),(44011:Int),(45190:Int),(46341:Int),(47464:Int),(48559:Int),(49624:Int),(50660:Int),(51665:Int),(52639:Int),(53581:Int),(54491:Int),(55368:Int),(56212:Int),(57022:Int),(57798:Int),(58538:Int),(59244:Int),(59914:Int),(60547:Int),(61145:Int),(61705:Int),(62228:Int),(62714:Int),(63162:Int),(63572:Int),(63944:Int),(64277:Int),(64571:Int),(64827:Int),(65043:Int),(65220:Int),(65358:Int),(65457:Int),(65516:Int),(65536:Int)]:(List Int))) (by kernel_rfl)⟩)
theorem trig_table.ok (k:Nat):FnOk PR 248 (trig_table.sp k) :=
  fn_ok (trig_table.cok k) hmix Try.func248 (code:=trig_table.code) (by kernel_rfl) (by kernel_rfl) (by kernel_rfl) rfl rfl (by kernel_rfl) (by kernel_rfl) (by kernel_rfl) (fun x=>Nat.le_of_ble_eq_true (by kernel_rfl)) fun x y hy=>(trig_table.way k).ap hy
noncomputable def trig_first.code:Code:=Func.cd Try.f229
def trig_first (k:Nat) (a0:Int):Option Int :=
  bnd (trig_table k) fun y1 =>
  bif' (ieq (irem a0 256) 0)
  (req (inR (iquo .i64 a0 256) 65) <|
   some (el 0 y1 (iquo .i64 a0 256)))
  (req (inR (iquo .i64 a0 256) 65) <|
   req (inR (iadd .i64 (iquo .i64 a0 256) 1) 65) <|
   some (iadd .i64 (el 0 y1 (iquo .i64 a0 256)) (iquo .i64 (iadd .i64 (imul .i64 (isub .i64 (el 0 y1 (iadd .i64 (iquo .i64 a0 256) 1)) (el 0 y1 (iquo .i64 a0 256))) (irem a0 256)) 128) 256)))
noncomputable def trig_first.sp (k:Nat):Go.Sx.Spec:=⟨(.pair T2 .unit),(.one (.dp T2)),fun x=>trig_first k x.1,false⟩
noncomputable def trig_first.cx (k:Nat):Go.Sx.Ctx:=⟨tys,[(248,trig_table.sp k)],eqs,32,0,[],false⟩
theorem trig_first.cok (k:Nat):CtxOk PR (trig_first.cx k):=ctx_ok tysOk eqsOk (FnsOk.cons (trig_table.ok k) FnsOk.nil) HsOk.nil
theorem trig_first.way (k:Nat) (a0:Int):Owp (trig_first k a0) fun y=>∃ w c0,exec PR (trig_first.cx k) trig_first.code 0 (entry (.pair T2 .unit) (a0,())).st w (Ret (trig_first.cx k) Try.f229 c0 (.one (.dp T2)) y):=by
  unfold trig_first; exact
   Owp.bnd fun y1 e2 =>
   Owp.bif (fun e3 =>
   Owp.req fun h4 =>
   Owp.some (⟨[.res (.one (.dp (.arr 65 T2))) y1,tT],[],via (retP (aI (aI (aI (aI (aI (aI trivial e2) (by decide:nz (256:Int))) (by decide:nz (256:Int))) e3) h4) h4) (.one (.dp T2)) ((el (0:Int) y1 (iquo .i64 a0 (256:Int))):Int)) (by kernel_rfl)⟩)) (fun e3 =>
   Owp.req fun h5 =>
   Owp.req fun h6 =>
   Owp.some (⟨[.res (.one (.dp (.arr 65 T2))) y1,fF],[],via (retP (aI (aI (aI (aI (aI (aI (aI (aI (aI (aI (aI trivial e2) (by decide:nz (256:Int))) (by decide:nz (256:Int))) e3) h5) h5) h6) h6) h5) h5) (by decide:nz (256:Int))) (.one (.dp T2)) ((iadd .i64 (el (0:Int) y1 (iquo .i64 a0 (256:Int))) (iquo .i64 (iadd .i64 (imul .i64 (isub .i64 (el (0:Int) y1 (iadd .i64 (iquo .i64 a0 (256:Int)) (1:Int))) (el (0:Int) y1 (iquo .i64 a0 (256:Int)))) (irem a0 (256:Int))) (128:Int)) (256:Int))):Int)) (by kernel_rfl)⟩))
theorem trig_first.ok (k:Nat):FnOk PR 229 (trig_first.sp k) :=
  fn_ok (trig_first.cok k) hmix Try.func229 (code:=trig_first.code) (by kernel_rfl) (by kernel_rfl) (by kernel_rfl) rfl rfl (by kernel_rfl) (by kernel_rfl) (by kernel_rfl) (fun x=>Nat.le_of_ble_eq_true (by kernel_rfl)) fun x y hy=>(trig_first.way k x.1).ap hy
noncomputable def trig_Sin.code:Code:=Func.cd Try.f185
def trig_Sin (k:Nat) (a0:Int):Option Int :=
  bif' (ieq (iquo .i64 (ibits .and .i64 a0 65535) 16384) 0)
  (bnd (trig_first k (irem (ibits .and .i64 a0 65535) 16384)) fun y2 =>
   some y2)
  (bif' (ieq (iquo .i64 (ibits .and .i64 a0 65535) 16384) 1)
   (bnd (trig_first k (isub .i64 16384 (irem (ibits .and .i64 a0 65535) 16384))) fun y5 =>
   some y5)
   (bif' (ieq (iquo .i64 (ibits .and .i64 a0 65535) 16384) 2)
   (bnd (trig_first k (irem (ibits .and .i64 a0 65535) 16384)) fun y8 =>
   some (ineg .i64 y8))
   (bnd (trig_first k (isub .i64 16384 (irem (ibits .and .i64 a0 65535) 16384))) fun y10 =>
   some (ineg .i64 y10))))
noncomputable def trig_Sin.sp (k:Nat):Go.Sx.Spec:=⟨(.pair T2 .unit),(.one (.dp T2)),fun x=>trig_Sin k x.1,false⟩
noncomputable def trig_Sin.cx (k:Nat):Go.Sx.Ctx:=⟨tys,[(229,trig_first.sp k)],eqs,28,0,[],false⟩
theorem trig_Sin.cok (k:Nat):CtxOk PR (trig_Sin.cx k):=ctx_ok tysOk eqsOk (FnsOk.cons (trig_first.ok k) FnsOk.nil) HsOk.nil
theorem trig_Sin.way (k:Nat) (a0:Int):Owp (trig_Sin k a0) fun y=>∃ w c0,exec PR (trig_Sin.cx k) trig_Sin.code 0 (entry (.pair T2 .unit) (a0,())).st w (Ret (trig_Sin.cx k) Try.f185 c0 (.one (.dp T2)) y):=by
  unfold trig_Sin; exact
   Owp.bif (fun e1 =>
   Owp.bnd fun y2 e3 =>
   Owp.some (⟨[tT,rS T2 y2],[],via (retP (aI (aI (aI (aI trivial (by decide:nz (16384:Int))) (by decide:nz (16384:Int))) e1) e3) (.one (.dp T2)) (y2:Int)) (by kernel_rfl)⟩)) (fun e1 =>
   Owp.bif (fun e4 =>
   Owp.bnd fun y5 e6 =>
   Owp.some (⟨[fF,tT,rS T2 y5],[],via (retP (aI (aI (aI (aI (aI trivial (by decide:nz (16384:Int))) (by decide:nz (16384:Int))) e1) e4) e6) (.one (.dp T2)) (y5:Int)) (by kernel_rfl)⟩)) (fun e4 =>
   Owp.bif (fun e7 =>
   Owp.bnd fun y8 e9 =>
   Owp.some (⟨[fF,fF,tT,rS T2 y8],[],via (retP (aI (aI (aI (aI (aI (aI trivial (by decide:nz (16384:Int))) (by decide:nz (16384:Int))) e1) e4) e7) e9) (.one (.dp T2)) ((ineg .i64 y8):Int)) (by kernel_rfl)⟩)) (fun e7 =>
   Owp.bnd fun y10 e11 =>
   Owp.some (⟨[fF,fF,fF,rS T2 y10],[],via (retP (aI (aI (aI (aI (aI (aI trivial (by decide:nz (16384:Int))) (by decide:nz (16384:Int))) e1) e4) e7) e11) (.one (.dp T2)) ((ineg .i64 y10):Int)) (by kernel_rfl)⟩))))
theorem trig_Sin.ok (k:Nat):FnOk PR 185 (trig_Sin.sp k) :=
  fn_ok (trig_Sin.cok k) hmix Try.func185 (code:=trig_Sin.code) (by kernel_rfl) (by kernel_rfl) (by kernel_rfl) rfl rfl (by kernel_rfl) (by kernel_rfl) (by kernel_rfl) (fun x=>Nat.le_of_ble_eq_true (by kernel_rfl)) fun x y hy=>(trig_Sin.way k x.1).ap hy
noncomputable def trig_Cos.code:Code:=Func.cd Try.f184
def trig_Cos (k:Nat) (a0:Int):Option Int :=
  bnd (trig_Sin k (iadd .i64 (ibits .and .i64 a0 65535) 16384)) fun y1 =>
  some y1
noncomputable def trig_Cos.sp (k:Nat):Go.Sx.Spec:=⟨(.pair T2 .unit),(.one (.dp T2)),fun x=>trig_Cos k x.1,false⟩
noncomputable def trig_Cos.cx (k:Nat):Go.Sx.Ctx:=⟨tys,[(185,trig_Sin.sp k)],eqs,7,0,[],false⟩
theorem trig_Cos.cok (k:Nat):CtxOk PR (trig_Cos.cx k):=ctx_ok tysOk eqsOk (FnsOk.cons (trig_Sin.ok k) FnsOk.nil) HsOk.nil
theorem trig_Cos.way (k:Nat) (a0:Int):Owp (trig_Cos k a0) fun y=>∃ w c0,exec PR (trig_Cos.cx k) trig_Cos.code 0 (entry (.pair T2 .unit) (a0,())).st w (Ret (trig_Cos.cx k) Try.f184 c0 (.one (.dp T2)) y):=by
  unfold trig_Cos; exact
   Owp.bnd fun y1 e2 =>
   Owp.some (⟨[rS T2 y1],[],via (retP (aI trivial e2) (.one (.dp T2)) (y1:Int)) (by kernel_rfl)⟩)
theorem trig_Cos.ok (k:Nat):FnOk PR 184 (trig_Cos.sp k) :=
  fn_ok (trig_Cos.cok k) hmix Try.func184 (code:=trig_Cos.code) (by kernel_rfl) (by kernel_rfl) (by kernel_rfl) rfl rfl (by kernel_rfl) (by kernel_rfl) (by kernel_rfl) (fun x=>Nat.le_of_ble_eq_true (by kernel_rfl)) fun x y hy=>(trig_Cos.way k x.1).ap hy
noncomputable def vec_Turn.code:Code:=Func.cd Try.f140
def vec_Turn (k:Nat) (a0:V27) (a1:Int):Option V27 :=
  bnd (trig_Cos k a1) fun y1 =>
  bnd (trig_Sin k a1) fun y3 =>
  bnd (fix_Mul k a0.1 y1) fun y5 =>
  bnd (fix_Mul k a0.2.1 y3) fun y7 =>
  bnd (fix_Sub k y5 y7) fun y9 =>
  bnd (fix_Mul k a0.1 y3) fun y11 =>
  bnd (fix_Mul k a0.2.1 y1) fun y13 =>
  bnd (fix_Add k y11 y13) fun y15 =>
  some (y9,y15,())
noncomputable def vec_Turn.sp (k:Nat):Go.Sx.Spec:=⟨(.pair T27 (.pair T2 .unit)),(.one (.dp T27)),fun x=>vec_Turn k x.1 x.2.1,false⟩
noncomputable def vec_Turn.cx (k:Nat):Go.Sx.Ctx:=⟨tys,[(184,trig_Cos.sp k),(185,trig_Sin.sp k),(121,fix_Mul.sp k),(143,fix_Sub.sp k),(120,fix_Add.sp k)],eqs,30,0,[],false⟩
theorem vec_Turn.cok (k:Nat):CtxOk PR (vec_Turn.cx k):=ctx_ok tysOk eqsOk (FnsOk.cons (trig_Cos.ok k) (FnsOk.cons (trig_Sin.ok k) (FnsOk.cons (fix_Mul.ok k) (FnsOk.cons (fix_Sub.ok k) (FnsOk.cons (fix_Add.ok k) FnsOk.nil))))) HsOk.nil
theorem vec_Turn.way (k:Nat) (a0:V27) (a1:Int):Owp (vec_Turn k a0 a1) fun y=>∃ w c0,exec PR (vec_Turn.cx k) vec_Turn.code 0 (entry (.pair T27 (.pair T2 .unit)) (a0,a1,())).st w (Ret (vec_Turn.cx k) Try.f140 c0 (.one (.dp T27)) y):=by
  unfold vec_Turn; exact
   Owp.bnd fun y1 e2 =>
   Owp.bnd fun y3 e4 =>
   Owp.bnd fun y5 e6 =>
   Owp.bnd fun y7 e8 =>
   Owp.bnd fun y9 e10 =>
   Owp.bnd fun y11 e12 =>
   Owp.bnd fun y13 e14 =>
   Owp.bnd fun y15 e16 =>
   Owp.some (⟨[rS T2 y1,rS T2 y3,rS T2 y5,rS T2 y7,rS T2 y9,rS T2 y11,rS T2 y13,rS T2 y15],[],via (retP (aI (aI (aI (aI (aI (aI (aI (aI trivial e2) e4) e6) e8) e10) e12) e14) e16) (.one (.dp T27)) ((y9,y15,()):V27)) (by kernel_rfl)⟩)
theorem vec_Turn.ok (k:Nat):FnOk PR 140 (vec_Turn.sp k) :=
  fn_ok (vec_Turn.cok k) hmix Try.func140 (code:=vec_Turn.code) (by kernel_rfl) (by kernel_rfl) (by kernel_rfl) rfl rfl (by kernel_rfl) (by kernel_rfl) (by kernel_rfl) (fun x=>Nat.le_of_ble_eq_true (by kernel_rfl)) fun x y hy=>(vec_Turn.way k x.1 x.2.1).ap hy
noncomputable def tourlaw2_square.code:Code:=Func.cd Try.f15
def tourlaw2_square (k:Nat) (a0 a1 a2:Int):Option (List V27) :=
  some [((imul .i64 a0 65536),(imul .i64 a1 65536),()),((iadd .i64 (imul .i64 a0 65536) (imul .i64 a2 65536)),(imul .i64 a1 65536),()),((iadd .i64 (imul .i64 a0 65536) (imul .i64 a2 65536)),(iadd .i64 (imul .i64 a1 65536) (imul .i64 a2 65536)),()),((imul .i64 a0 65536),(iadd .i64 (imul .i64 a1 65536) (imul .i64 a2 65536)),())]
noncomputable def tourlaw2_square.sp (k:Nat):Go.Sx.Spec:=⟨(.pair T2 T27),(.one (.ow T27 28)),fun x=>tourlaw2_square k x.1 x.2.1 x.2.2.1,false⟩
noncomputable def tourlaw2_square.cx (k:Nat):Go.Sx.Ctx:=⟨tys,[],eqs,34,0,[],false⟩
theorem tourlaw2_square.cok (k:Nat):CtxOk PR (tourlaw2_square.cx k):=ctx_ok tysOk eqsOk FnsOk.nil HsOk.nil
theorem tourlaw2_square.way (k:Nat) (a0 a1 a2:Int):Owp (tourlaw2_square k a0 a1 a2) fun y=>∃ w c0,exec PR (tourlaw2_square.cx k) tourlaw2_square.code 0 (entry (.pair T2 T27) (a0,a1,a2,())).st w (Ret (tourlaw2_square.cx k) Try.f15 c0 (.one (.ow T27 28)) y):=by
  unfold tourlaw2_square; exact
   Owp.some (⟨[tT],[],via (retP trivial (.one (.ow T27 28)) ([((imul .i64 a0 (65536:Int)),(imul .i64 a1 (65536:Int)),()),((iadd .i64 (imul .i64 a0 (65536:Int)) (imul .i64 a2 (65536:Int))),(imul .i64 a1 (65536:Int)),()),((iadd .i64 (imul .i64 a0 (65536:Int)) (imul .i64 a2 (65536:Int))),(iadd .i64 (imul .i64 a1 (65536:Int)) (imul .i64 a2 (65536:Int))),()),((imul .i64 a0 (65536:Int)),(iadd .i64 (imul .i64 a1 (65536:Int)) (imul .i64 a2 (65536:Int))),())]:(List V27))) (by kernel_rfl)⟩)
theorem tourlaw2_square.ok (k:Nat):FnOk PR 15 (tourlaw2_square.sp k) :=
  fn_ok (tourlaw2_square.cok k) hmix Try.func15 (code:=tourlaw2_square.code) (by kernel_rfl) (by kernel_rfl) (by kernel_rfl) rfl rfl (by kernel_rfl) (by kernel_rfl) (by kernel_rfl) (fun x=>Nat.le_of_ble_eq_true (by kernel_rfl)) fun x y hy=>(tourlaw2_square.way k x.1 x.2.1 x.2.2.1).ap hy
noncomputable def r2_coord.code:Code:=Func.cd Try.f94
def r2_coord (k:Nat) (a0:V27) (a1:Int):Option Bool :=
  bif' (ige a0.1 (ineg .i64 a1))
  (bif' (ile a0.1 a1)
   (bif' (ige a0.2.1 (ineg .i64 a1))
   (some (ile a0.2.1 a1))
   (some false))
   (some false))
  (some false)
noncomputable def r2_coord.sp (k:Nat):Go.Sx.Spec:=⟨(.pair T27 (.pair T2 .unit)),(.one (.dp T4)),fun x=>r2_coord k x.1 x.2.1,false⟩
noncomputable def r2_coord.cx (k:Nat):Go.Sx.Ctx:=⟨tys,[],eqs,29,0,[],false⟩
theorem r2_coord.cok (k:Nat):CtxOk PR (r2_coord.cx k):=ctx_ok tysOk eqsOk FnsOk.nil HsOk.nil
theorem r2_coord.way (k:Nat) (a0:V27) (a1:Int):Owp (r2_coord k a0 a1) fun y=>∃ w c0,exec PR (r2_coord.cx k) r2_coord.code 0 (entry (.pair T27 (.pair T2 .unit)) (a0,a1,())).st w (Ret (r2_coord.cx k) Try.f94 c0 (.one (.dp T4)) y):=by
  unfold r2_coord; exact
   Owp.bif (fun e1 =>
   Owp.bif (fun e2 =>
   Owp.bif (fun e3 =>
   Owp.some (⟨[tT,tT,tT,tT,tT,tT,tT,tT,tT,tT,tT,tT,tT,tT,tT,tT],[],via (retP (aI (aI (aI (aI (aI (aI (aI (aI (aI (aI (aI (aI (aI (aI (aI (aI trivial e1) e1) e1) e1) e1) e2) e2) e2) e2) e2) e2) e3) e3) e3) e3) e3) (.one (.dp T4)) ((ile a0.2.1 a1):Bool)) (by kernel_rfl)⟩)) (fun e3 =>
   Owp.some (⟨[tT,tT,tT,tT,tT,tT,tT,tT,tT,tT,tT,fF,fF,fF,fF,fF],[],via (retP (aI (aI (aI (aI (aI (aI (aI (aI (aI (aI (aI (aI (aI (aI (aI (aI trivial e1) e1) e1) e1) e1) e2) e2) e2) e2) e2) e2) e3) e3) e3) e3) e3) (.one (.dp T4)) (false:Bool)) (by kernel_rfl)⟩))) (fun e2 =>
   Owp.some (⟨[tT,tT,tT,tT,tT,fF,fF,fF,fF,fF,fF,fF,fF,fF,fF,fF],[],via (retP (aI (aI (aI (aI (aI (aI (aI (aI (aI (aI (aI (aI (aI (aI (aI (aI trivial e1) e1) e1) e1) e1) e2) e2) e2) e2) e2) e2) ff) ff) ff) ff) ff) (.one (.dp T4)) (false:Bool)) (by kernel_rfl)⟩))) (fun e1 =>
   Owp.some (⟨[fF,fF,fF,fF,fF,fF,fF,fF,fF,fF,fF,fF,fF,fF,fF,fF],[],via (retP (aI (aI (aI (aI (aI (aI (aI (aI (aI (aI (aI (aI (aI (aI (aI (aI trivial e1) e1) e1) e1) e1) ff) ff) ff) ff) ff) ff) ff) ff) ff) ff) ff) (.one (.dp T4)) (false:Bool)) (by kernel_rfl)⟩))
theorem r2_coord.ok (k:Nat):FnOk PR 94 (r2_coord.sp k) :=
  fn_ok (r2_coord.cok k) hmix Try.func94 (code:=r2_coord.code) (by kernel_rfl) (by kernel_rfl) (by kernel_rfl) rfl rfl (by kernel_rfl) (by kernel_rfl) (by kernel_rfl) (fun x=>Nat.le_of_ble_eq_true (by kernel_rfl)) fun x y hy=>(r2_coord.way k x.1 x.2.1).ap hy
noncomputable def r2_sub.code:Code:=Func.cd Try.f135
def r2_sub (k:Nat) (a0 a1:V27):Option V27 :=
  some ((isub .i64 a0.1 a1.1),(isub .i64 a0.2.1 a1.2.1),())
noncomputable def r2_sub.sp (k:Nat):Go.Sx.Spec:=⟨T41,(.one (.dp T27)),fun x=>r2_sub k x.1 x.2.1,false⟩
noncomputable def r2_sub.cx (k:Nat):Go.Sx.Ctx:=⟨tys,[],eqs,16,0,[],false⟩
theorem r2_sub.cok (k:Nat):CtxOk PR (r2_sub.cx k):=ctx_ok tysOk eqsOk FnsOk.nil HsOk.nil
theorem r2_sub.way (k:Nat) (a0 a1:V27):Owp (r2_sub k a0 a1) fun y=>∃ w c0,exec PR (r2_sub.cx k) r2_sub.code 0 (entry T41 (a0,a1,())).st w (Ret (r2_sub.cx k) Try.f135 c0 (.one (.dp T27)) y):=by
  unfold r2_sub; exact
   Owp.some (⟨[],[],via (retP trivial (.one (.dp T27)) (((isub .i64 a0.1 a1.1),(isub .i64 a0.2.1 a1.2.1),()):V27)) (by kernel_rfl)⟩)
theorem r2_sub.ok (k:Nat):FnOk PR 135 (r2_sub.sp k) :=
  fn_ok (r2_sub.cok k) hmix Try.func135 (code:=r2_sub.code) (by kernel_rfl) (by kernel_rfl) (by kernel_rfl) rfl rfl (by kernel_rfl) (by kernel_rfl) (by kernel_rfl) (fun x=>Nat.le_of_ble_eq_true (by kernel_rfl)) fun x y hy=>(r2_sub.way k x.1 x.2.1).ap hy
noncomputable def r2_Cross.code:Code:=Func.cd Try.f177
def r2_Cross (k:Nat) (a0 a1:V27):Option (List Int) :=
  bnd (r2_Of k a0.1) fun y1 =>
  bnd (r2_Of k a1.2.1) fun y3 =>
  bnd (r2_Big_Mul k y1 y3) fun y5 =>
  bnd (r2_Of k a0.2.1) fun y7 =>
  bnd (r2_Of k a1.1) fun y9 =>
  bnd (r2_Big_Mul k y7 y9) fun y11 =>
  bnd (r2_Big_Sub k y5 y11) fun y13 =>
  some y13
noncomputable def r2_Cross.sp (k:Nat):Go.Sx.Spec:=⟨T41,(.one (.dp T141)),fun x=>r2_Cross k x.1 x.2.1,false⟩
noncomputable def r2_Cross.cx (k:Nat):Go.Sx.Ctx:=⟨tys,[(179,r2_Of.sp k),(180,r2_Big_Mul.sp k),(228,r2_Big_Sub.sp k)],eqs,20,0,[],false⟩
theorem r2_Cross.cok (k:Nat):CtxOk PR (r2_Cross.cx k):=ctx_ok tysOk eqsOk (FnsOk.cons (r2_Of.ok k) (FnsOk.cons (r2_Big_Mul.ok k) (FnsOk.cons (r2_Big_Sub.ok k) FnsOk.nil))) HsOk.nil
theorem r2_Cross.way (k:Nat) (a0 a1:V27):Owp (r2_Cross k a0 a1) fun y=>∃ w c0,exec PR (r2_Cross.cx k) r2_Cross.code 0 (entry T41 (a0,a1,())).st w (Ret (r2_Cross.cx k) Try.f177 c0 (.one (.dp T141)) y):=by
  unfold r2_Cross; exact
   Owp.bnd fun y1 e2 =>
   Owp.bnd fun y3 e4 =>
   Owp.bnd fun y5 e6 =>
   Owp.bnd fun y7 e8 =>
   Owp.bnd fun y9 e10 =>
   Owp.bnd fun y11 e12 =>
   Owp.bnd fun y13 e14 =>
   Owp.some (⟨[rS T141 y1,rS T141 y3,rS T141 y5,rS T141 y7,rS T141 y9,rS T141 y11,rS T141 y13],[],via (retP (aI (aI (aI (aI (aI (aI (aI trivial e2) e4) e6) e8) e10) e12) e14) (.one (.dp T141)) (y13:(List Int))) (by kernel_rfl)⟩)
theorem r2_Cross.ok (k:Nat):FnOk PR 177 (r2_Cross.sp k) :=
  fn_ok (r2_Cross.cok k) hmix Try.func177 (code:=r2_Cross.code) (by kernel_rfl) (by kernel_rfl) (by kernel_rfl) rfl rfl (by kernel_rfl) (by kernel_rfl) (by kernel_rfl) (fun x=>Nat.le_of_ble_eq_true (by kernel_rfl)) fun x y hy=>(r2_Cross.way k x.1 x.2.1).ap hy
noncomputable def r2_left.code:Code:=Func.cd Try.f130
def r2_left (k:Nat) (a0 a1 a2:V27):Option Int :=
  bnd (r2_sub k a1 a0) fun y1 =>
  bnd (r2_sub k a2 a0) fun y3 =>
  bnd (r2_Cross k y1 y3) fun y5 =>
  bnd (r2_Big_Cmp k y5 (List.replicate 8 0)) fun y7 =>
  some y7
noncomputable def r2_left.sp (k:Nat):Go.Sx.Spec:=⟨(.pair T27 T41),(.one (.dp T2)),fun x=>r2_left k x.1 x.2.1 x.2.2.1,false⟩
noncomputable def r2_left.cx (k:Nat):Go.Sx.Ctx:=⟨tys,[(135,r2_sub.sp k),(177,r2_Cross.sp k),(136,r2_Big_Cmp.sp k)],eqs,16,0,[],false⟩
theorem r2_left.cok (k:Nat):CtxOk PR (r2_left.cx k):=ctx_ok tysOk eqsOk (FnsOk.cons (r2_sub.ok k) (FnsOk.cons (r2_Cross.ok k) (FnsOk.cons (r2_Big_Cmp.ok k) FnsOk.nil))) HsOk.nil
theorem r2_left.way (k:Nat) (a0 a1 a2:V27):Owp (r2_left k a0 a1 a2) fun y=>∃ w c0,exec PR (r2_left.cx k) r2_left.code 0 (entry (.pair T27 T41) (a0,a1,a2,())).st w (Ret (r2_left.cx k) Try.f130 c0 (.one (.dp T2)) y):=by
  unfold r2_left; exact
   Owp.bnd fun y1 e2 =>
   Owp.bnd fun y3 e4 =>
   Owp.bnd fun y5 e6 =>
   Owp.bnd fun y7 e8 =>
   Owp.some (⟨[rS T27 y1,rS T27 y3,rS T141 y5,rS T2 y7],[],via (retP (aI (aI (aI (aI trivial e2) e4) e6) e8) (.one (.dp T2)) (y7:Int)) (by kernel_rfl)⟩)
theorem r2_left.ok (k:Nat):FnOk PR 130 (r2_left.sp k) :=
  fn_ok (r2_left.cok k) hmix Try.func130 (code:=r2_left.code) (by kernel_rfl) (by kernel_rfl) (by kernel_rfl) rfl rfl (by kernel_rfl) (by kernel_rfl) (by kernel_rfl) (fun x=>Nat.le_of_ble_eq_true (by kernel_rfl)) fun x y hy=>(r2_left.way k x.1 x.2.1 x.2.2.1).ap hy
noncomputable def r2_Dot.code:Code:=Func.cd Try.f134
def r2_Dot (k:Nat) (a0 a1:V27):Option (List Int) :=
  bnd (r2_Of k a0.1) fun y1 =>
  bnd (r2_Of k a1.1) fun y3 =>
  bnd (r2_Big_Mul k y1 y3) fun y5 =>
  bnd (r2_Of k a0.2.1) fun y7 =>
  bnd (r2_Of k a1.2.1) fun y9 =>
  bnd (r2_Big_Mul k y7 y9) fun y11 =>
  bnd (r2_Big_Add k y5 y11) fun y13 =>
  some y13
noncomputable def r2_Dot.sp (k:Nat):Go.Sx.Spec:=⟨T41,(.one (.dp T141)),fun x=>r2_Dot k x.1 x.2.1,false⟩
noncomputable def r2_Dot.cx (k:Nat):Go.Sx.Ctx:=⟨tys,[(179,r2_Of.sp k),(180,r2_Big_Mul.sp k),(181,r2_Big_Add.sp k)],eqs,20,0,[],false⟩
theorem r2_Dot.cok (k:Nat):CtxOk PR (r2_Dot.cx k):=ctx_ok tysOk eqsOk (FnsOk.cons (r2_Of.ok k) (FnsOk.cons (r2_Big_Mul.ok k) (FnsOk.cons (r2_Big_Add.ok k) FnsOk.nil))) HsOk.nil
theorem r2_Dot.way (k:Nat) (a0 a1:V27):Owp (r2_Dot k a0 a1) fun y=>∃ w c0,exec PR (r2_Dot.cx k) r2_Dot.code 0 (entry T41 (a0,a1,())).st w (Ret (r2_Dot.cx k) Try.f134 c0 (.one (.dp T141)) y):=by
  unfold r2_Dot; exact
   Owp.bnd fun y1 e2 =>
   Owp.bnd fun y3 e4 =>
   Owp.bnd fun y5 e6 =>
   Owp.bnd fun y7 e8 =>
   Owp.bnd fun y9 e10 =>
   Owp.bnd fun y11 e12 =>
   Owp.bnd fun y13 e14 =>
   Owp.some (⟨[rS T141 y1,rS T141 y3,rS T141 y5,rS T141 y7,rS T141 y9,rS T141 y11,rS T141 y13],[],via (retP (aI (aI (aI (aI (aI (aI (aI trivial e2) e4) e6) e8) e10) e12) e14) (.one (.dp T141)) (y13:(List Int))) (by kernel_rfl)⟩)
theorem r2_Dot.ok (k:Nat):FnOk PR 134 (r2_Dot.sp k) :=
  fn_ok (r2_Dot.cok k) hmix Try.func134 (code:=r2_Dot.code) (by kernel_rfl) (by kernel_rfl) (by kernel_rfl) rfl rfl (by kernel_rfl) (by kernel_rfl) (by kernel_rfl) (fun x=>Nat.le_of_ble_eq_true (by kernel_rfl)) fun x y hy=>(r2_Dot.way k x.1 x.2.1).ap hy
end Go.Proofs.T1
