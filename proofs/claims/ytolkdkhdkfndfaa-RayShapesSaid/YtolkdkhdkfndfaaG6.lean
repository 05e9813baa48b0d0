import Derived.Test.YtolkdkhdkfndfaaG0
import Derived.Test.YtolkdkhdkfndfaaG2
import Derived.Test.YtolkdkhdkfndfaaG5
namespace Go.Proofs.T1
open Go Go.Sx Go.Proofs
set_option maxRecDepth 100000
set_option linter.unusedVariables false
noncomputable def keep_Check.code:Code:=Func.cd Try.f114
def keep_Check.c1 (k:Nat) (a0:(List V67)):Nat → Int → Option (Int ⊕ Unit)
  | 0,_=>none
  | n+1,v2 =>
   bif' (ilt v2 (len a0))
   (req (inL v2 a0) <|
   bnd (body_Check k (el Z67 a0 v2)) fun y5 =>
   bif' (ine y5 0)
   (some (.inl y5))
   (keep_Check.c1 k a0 n (iadd .i64 v2 1)))
   (some (.inr ()))
def keep_Check (k:Nat) (a0:(List V67)):Option Int :=
  bif' (igt (len a0) 64)
  (some 2)
  (bnd (keep_Check.c1 k a0 k 0) fun o8 =>
   two o8 (fun y10 =>
   some y10) (fun y12 =>
   some 0))
noncomputable def keep_Check.sp (k:Nat):Go.Sx.Spec:=⟨(.pair (.slice T67) .unit),(.one (.dp T2)),fun x=>keep_Check k x.1,false⟩
noncomputable def keep_Check.cx (k:Nat):Go.Sx.Ctx:=⟨tys,[(168,body_Check.sp k)],eqs,21,0,[],false⟩
theorem keep_Check.cok (k:Nat):CtxOk PR (keep_Check.cx k):=ctx_ok tysOk eqsOk (FnsOk.cons (body_Check.ok k) FnsOk.nil) HsOk.nil
noncomputable def keep_Check.c1p (a0:(List V67)) (v2:Int):SL:=⟨[(9,(.val (.slice T67) a0)),(10,(.val T2 (len a0))),(11,(.val T2 v2))],[]⟩
noncomputable def keep_Check.c1q (o:Int ⊕ Unit):SL:=(fun o=>two o (fun v=>⟨[(2,(.val T2 v))],[]⟩) (fun v=>⟨[],[]⟩)) o
noncomputable def keep_Check.c1x (o:Int ⊕ Unit):Ex:=(fun o=>two o (fun _=>.ret) (fun _=>(.exit 0))) o
noncomputable def keep_Check.c1n (o:Int ⊕ Unit):Nat:=(fun o=>two o (fun _=>0) (fun _=>0)) o
theorem keep_Check.c1_ok (k:Nat) (a0:(List V67)):∀ (n:Nat) (v2:Int),Owp (keep_Check.c1 k a0 n v2) fun o=>LTriple PR (keep_Check.cx k) (sub keep_Check.code [1,1,0,1,0,0]) 0 (keep_Check.c1p a0 v2) (keep_Check.c1x o) (keep_Check.c1n o) (keep_Check.c1q o)
  | 0,_=>fun _ h=>nomatch h
  | n+1,v2=>Owp.of (keep_Check.c1.eq_2 ..) (
   Owp.bif (fun e3 =>
   Owp.req fun h4 =>
   Owp.bnd fun y5 e6 =>
   Owp.bif (fun e7 =>
   Owp.some (loop_exit (keep_Check.cok k) hmix [tT,rS T2 y5,tT] [] [] exne_ret (via (finP (aI (aI (aI (aI trivial e3) h4) e6) e7) .ret [] (keep_Check.c1q (.inl y5))) (by kernel_rfl)))) (fun e7 =>
   fun y hy=>loop_back (keep_Check.cok k) hmix 0 (keep_Check.c1p a0 (iadd .i64 v2 (1:Int))) [tT,rS T2 y5,fF] [] [] (via (finP (aI (aI (aI (aI trivial e3) h4) e6) e7) .normal [] (keep_Check.c1p a0 (iadd .i64 v2 (1:Int)))) (by kernel_rfl)) ((keep_Check.c1_ok k a0 n (iadd .i64 v2 (1:Int))).ap hy))) (fun e3 =>
   Owp.some (loop_exit (keep_Check.cok k) hmix [fF] [] [] (exne 0) (via (finP (aI trivial e3) (.exit 0) [] (keep_Check.c1q (.inr ()))) (by kernel_rfl)))))
theorem keep_Check.way (k:Nat) (a0:(List V67)):Owp (keep_Check k a0) fun y=>∃ w c0,exec PR (keep_Check.cx k) keep_Check.code 0 (entry (.pair (.slice T67) .unit) (a0,())).st w (Ret (keep_Check.cx k) Try.f114 c0 (.one (.dp T2)) y):=by
  unfold keep_Check; exact
   Owp.bif (fun e1 =>
   Owp.some (⟨[tT],[],via (retP (aI trivial e1) (.one (.dp T2)) ((2:Int):Int)) (by kernel_rfl)⟩)) (fun e1 =>
   Owp.bnd fun o8 e9 =>
   Owp.two (fun y10 e11 =>
   Owp.some (⟨[fF,.cut ⟨[],[],(keep_Check.c1p a0 (0:Int)),0,.ret,(keep_Check.c1q (.inl y10)),0⟩],[],via (cutP (aI trivial e1) [] (keep_Check.c1p a0 (0:Int)) (((keep_Check.c1_ok k a0 k (0:Int)).ap (e9.trans (congrArg some e11))).triple) (retP trivial (.one (.dp T2)) (y10:Int))) (by kernel_rfl)⟩)) (fun y12 e13 =>
   Owp.some (⟨[fF,.cut ⟨[],[],(keep_Check.c1p a0 (0:Int)),0,(.exit 0),(keep_Check.c1q (.inr ())),0⟩],[],via (cutP (aI trivial e1) [] (keep_Check.c1p a0 (0:Int)) (((keep_Check.c1_ok k a0 k (0:Int)).ap (e9.trans (congrArg some e13))).triple) (retP trivial (.one (.dp T2)) ((0:Int):Int))) (by kernel_rfl)⟩)))
theorem keep_Check.ok (k:Nat):FnOk PR 114 (keep_Check.sp k) :=
  fn_ok (keep_Check.cok k) hmix Try.func114 (code:=keep_Check.code) (by kernel_rfl) (by kernel_rfl) (by kernel_rfl) rfl rfl (by kernel_rfl) (by kernel_rfl) (by kernel_rfl) (fun x=>Nat.le_of_ble_eq_true (by kernel_rfl)) fun x y hy=>(keep_Check.way k x.1).ap hy
noncomputable def tourlaw2_block.code:Code:=Func.cd Try.f126
def tourlaw2_block (k:Nat) (a0 a1:Int) (a2:Bool):Option V67 :=
  bnd (tourlaw2_square k (-1) (-1) 2) fun y1 =>
  bif' a2
  (some (((imul .i64 a0 65536),(imul .i64 a1 65536),()),(0,0,()),0,0,65536,65536,0,0,y1,false,0,()))
  (some (((imul .i64 a0 65536),(imul .i64 a1 65536),()),(0,0,()),0,0,0,0,0,0,y1,false,0,()))
noncomputable def tourlaw2_block.sp (k:Nat):Go.Sx.Spec:=⟨(.pair T2 (.pair T2 (.pair T4 .unit))),(.one (.dp T67)),fun x=>tourlaw2_block k x.1 x.2.1 x.2.2.1,false⟩
noncomputable def tourlaw2_block.cx (k:Nat):Go.Sx.Ctx:=⟨tys,[(15,(tourlaw2_square.sp k).frz)],eqs,19,0,[],false⟩
theorem tourlaw2_block.cok (k:Nat):CtxOk PR (tourlaw2_block.cx k):=ctx_ok tysOk eqsOk (FnsOk.cons (FnOk.frz rfl (tourlaw2_square.ok k)) FnsOk.nil) HsOk.nil
theorem tourlaw2_block.way (k:Nat) (a0 a1:Int) (a2:Bool):Owp (tourlaw2_block k a0 a1 a2) fun y=>∃ w c0,exec PR (tourlaw2_block.cx k) tourlaw2_block.code 0 (entry (.pair T2 (.pair T2 (.pair T4 .unit))) (a0,a1,a2,())).st w (Ret (tourlaw2_block.cx k) Try.f126 c0 (.one (.dp T67)) y):=by
  unfold tourlaw2_block; exact
   Owp.bnd fun y1 e2 =>
   Owp.bif (fun e3 =>
   Owp.some (⟨[rS T22 y1,tT],[],via (retP (aI (aI trivial e2) e3) (.one (.dp T67)) ((((imul .i64 a0 (65536:Int)),(imul .i64 a1 (65536:Int)),()),((0:Int),(0:Int),()),(0:Int),(0:Int),(65536:Int),(65536:Int),(0:Int),(0:Int),y1,false,(0:Int),()):V67)) (by kernel_rfl)⟩)) (fun e3 =>
   Owp.some (⟨[rS T22 y1,fF],[],via (retP (aI (aI trivial e2) e3) (.one (.dp T67)) ((((imul .i64 a0 (65536:Int)),(imul .i64 a1 (65536:Int)),()),((0:Int),(0:Int),()),(0:Int),(0:Int),(0:Int),(0:Int),(0:Int),(0:Int),y1,false,(0:Int),()):V67)) (by kernel_rfl)⟩))
theorem tourlaw2_block.ok (k:Nat):FnOk PR 126 (tourlaw2_block.sp k) :=
  fn_ok (tourlaw2_block.cok k) hmix Try.func126 (code:=tourlaw2_block.code) (by kernel_rfl) (by kernel_rfl) (by kernel_rfl) rfl rfl (by kernel_rfl) (by kernel_rfl) (by kernel_rfl) (fun x=>Nat.le_of_ble_eq_true (by kernel_rfl)) fun x y hy=>(tourlaw2_block.way k x.1 x.2.1 x.2.2.1).ap hy
end Go.Proofs.T1
