import Derived.Test.YthpbadopmihmpaaGreatG0
import Derived.Test.YthpbadopmihmpaaGreatG8
namespace Go.Proofs.T1
open Go Go.Sx Go.Proofs
set_option maxRecDepth 100000
set_option linter.unusedVariables false
noncomputable def joint_Check.code:Code:=Func.cd Tryz.f59
noncomputable def joint_Check.c2 (k:Nat) (a0:(List V45)) (a1:(List V48)):Option (Unit) :=
 bif' (ilt (el Z48 a1 0).1 0)
 (some ())
 (bif' (ige (el Z48 a1 0).2.1 (len a0))
  (some ())
  (bif' (ige (el Z48 a1 0).1 (el Z48 a1 0).2.1)
  (some ())
  (none)))
noncomputable def joint_Check.c1 (k:Nat) (a0:(List V45)) (a1:(List V48)):Nat→Option (Unit ⊕ Unit)
 | 0=>none
 | n+1 =>
  bif' (ilt 0 (len a1))
  (req (inL 0 a1) <|bnd (joint_Check.c2 k a0 a1) fun o10 =>
  some (.inl ()))
  (some (.inr ()))
noncomputable def joint_Check (k:Nat) (a0:(List V45)) (a1:(List V48)):Option Int :=
 bnd (keep_Check k a0) fun y1 =>
 bif' (ine y1 0)
 (some y1)
 (bif' (igt (len a1) 32)
  (some 2)
  (bnd (joint_Check.c1 k a0 a1 k) fun o12 =>
  two o12 (fun y14 =>
  some 1) (fun y16 =>
  some 0)))
noncomputable def joint_Check.sp (k:Nat):Go.Sx.Spec:=⟨(.pair (.slice T45) (.pair (.slice T48) .unit)),(.one (.dp T2)),fun x=>joint_Check k x.1 x.2.1,false⟩
noncomputable def joint_Check.cx (k:Nat):Go.Sx.Ctx:=⟨tys,[(13,keep_Check.sp k)],eqs,81,0,[],false⟩
theorem joint_Check.cok (k:Nat):CtxOk PR (joint_Check.cx k):=ctx_ok tysOk eqsOk (fC (keep_Check.ok k) FnsOk.nil) HsOk.nil
noncomputable def joint_Check.c2p (a0:(List V45)) (a1:(List V48)):SL:=⟨[(0,(.val (.slice T45) a0)),(6,(.val .clo (101,[]))),(8,(.val .ptr ⟨0,0,(0:Int),0,0⟩)),(17,(.val (.slice T48) a1)),(18,(.val T2 (len a1))),(19,(.val T2 (0:Int)))],[(0,.cells T48 (el Z48 a1 (0:Int)))]⟩
noncomputable def joint_Check.c2q (a0:(List V45)) (a1:(List V48)) (o:Unit):SL:=(fun v=>⟨[(0,(.val (.slice T45) a0)),(6,(.val .clo (101,[]))),(8,(.val .ptr ⟨0,0,(0:Int),0,0⟩)),(17,(.val (.slice T48) a1)),(18,(.val T2 (len a1))),(19,(.val T2 (0:Int))),(41,(.tup [])),(42,(.tup [])),(43,(.tup [])),(44,(.tup [])),(45,(.tup [])),(48,(.tup [])),(49,(.tup [])),(50,(.tup [])),(51,(.tup [])),(52,(.tup [])),(55,(.tup [])),(56,(.tup [])),(57,(.tup [])),(60,(.tup [])),(61,(.tup [])),(62,(.tup [])),(63,(.val T4 true))],[(0,.cells T48 (el Z48 a1 (0:Int)))]⟩) o
noncomputable def joint_Check.c2x (o:Unit):Ex:=(fun _=>.normal) o
noncomputable def joint_Check.c2n (o:Unit):Nat:=(fun _=>1) o
theorem joint_Check.c2_ok (k:Nat) (a0:(List V45)) (a1:(List V48)):Owp (joint_Check.c2 k a0 a1) fun o=>Triple PR (joint_Check.cx k) (sub joint_Check.code [1,1,1,1,0,1,0,0,1,1,0,0,1,0,0]) 1 (joint_Check.c2p a0 a1) (joint_Check.c2x o) (joint_Check.c2n o) (joint_Check.c2q a0 a1 o):=by
 unfold joint_Check.c2; exact
  oF (fun e7 =>
  oS (tW (joint_Check.cok k) hmix [tT,tT,tT,tT,tT,tT,tT,tT,tT,tT,tT,tT,tT,tT,tT,tT,tT,tT,tT,tT,tT,tT,tT,tT,tT,tT,tT,tT,tT,tT,tT,tT,tT,tT] [] [(0,0)] (via (finP (aI (aI (aI (aI (aI (aI (aI (aI (aI (aI (aI (aI (aI (aI (aI (aI (aI (aI (aI (aI (aI (aI (aI (aI (aI (aI (aI (aI (aI (aI (aI (aI tv0 e7) e7) e7) e7) e7) e7) tt) tt) tt) tt) tt) tt) tt) tt) tt) tt) tt) tt) tt) tt) tt) tt) tt) tt) tt) tt) tt) tt) tt) tt) tt) tt) .normal [(0,0)] (joint_Check.c2q a0 a1 ())) (by kernel_rfl)))) (fun e7 =>
  oF (fun e8 =>
  oS (tW (joint_Check.cok k) hmix [fF,fF,fF,fF,fF,fF,tT,tT,tT,tT,tT,tT,tT,tT,tT,tT,tT,tT,tT,tT,tT,tT,tT,tT,tT,tT,tT,tT,tT,tT,tT,tT,tT,tT] [] [(0,0)] (via (finP (aI (aI (aI (aI (aI (aI (aI (aI (aI (aI (aI (aI (aI (aI (aI (aI (aI (aI (aI (aI (aI (aI (aI (aI (aI (aI (aI (aI (aI (aI (aI (aI tv0 e7) e7) e7) e7) e7) e7) e8) e8) e8) e8) e8) e8) tt) tt) tt) tt) tt) tt) tt) tt) tt) tt) tt) tt) tt) tt) tt) tt) tt) tt) tt) tt) .normal [(0,0)] (joint_Check.c2q a0 a1 ())) (by kernel_rfl)))) (fun e8 =>
  oF (fun e9 =>
  oS (tW (joint_Check.cok k) hmix [fF,fF,fF,fF,fF,fF,fF,fF,fF,fF,fF,fF,tT,tT,tT,tT,tT,tT,tT,tT,tT,tT,tT,tT,tT,tT,tT,tT,tT,tT,tT,tT,tT,tT] [] [(0,0)] (via (finP (aI (aI (aI (aI (aI (aI (aI (aI (aI (aI (aI (aI (aI (aI (aI (aI (aI (aI (aI (aI (aI (aI (aI (aI (aI (aI (aI (aI (aI (aI (aI (aI tv0 e7) e7) e7) e7) e7) e7) e8) e8) e8) e8) e8) e8) e9) e9) e9) e9) e9) e9) tt) tt) tt) tt) tt) tt) tt) tt) tt) tt) tt) tt) tt) tt) .normal [(0,0)] (joint_Check.c2q a0 a1 ())) (by kernel_rfl)))) (fun e9 =>
  Owp.none)))
noncomputable def joint_Check.c1p (a0:(List V45)) (a1:(List V48)):SL:=⟨[(0,(.val (.slice T45) a0)),(6,(.val .clo (101,[]))),(17,(.val (.slice T48) a1)),(18,(.val T2 (len a1))),(19,(.val T2 (0:Int)))],[]⟩
noncomputable def joint_Check.c1q (o:Unit ⊕ Unit):SL:=(fun o=>two o (fun v=>⟨[(4,(.val T2 (1:Int)))],[]⟩) (fun v=>⟨[],[]⟩)) o
noncomputable def joint_Check.c1x (o:Unit ⊕ Unit):Ex:=(fun o=>two o (fun _=>.ret) (fun _=>(.exit 0))) o
noncomputable def joint_Check.c1n (o:Unit ⊕ Unit):Nat:=(fun o=>two o (fun _=>0) (fun _=>0)) o
theorem joint_Check.c1_ok (k:Nat) (a0:(List V45)) (a1:(List V48)):∀ (n:Nat),Owp (joint_Check.c1 k a0 a1 n) fun o=>LTriple PR (joint_Check.cx k) (sub joint_Check.code [1,1,1,1,0,1,0,0]) 0 (joint_Check.c1p a0 a1) (joint_Check.c1x o) (joint_Check.c1n o) (joint_Check.c1q o)
 | 0=>fun _ h=>nomatch h
 | n+1=>Owp.of (joint_Check.c1.eq_2 ..) (
  oF (fun e5 =>
  oR fun h6 =>
  oB fun o10 e11 =>
  oS (loop_exit (joint_Check.cok k) hmix [tT,.cutR 10 ⟨[],[(0,3)],(joint_Check.c2p a0 a1),1,.normal,(joint_Check.c2q a0 a1 ()),1⟩,tT] [] [] exne_ret (via (cutP (aI (aI tv0 e5) h6) [(0,3)] (joint_Check.c2p a0 a1) (((joint_Check.c2_ok k a0 a1).ap e11)) (finP (aI tv0 tt) .ret [] (joint_Check.c1q (.inl ())))) (by kernel_rfl)))) (fun e5 =>
  oS (loop_exit (joint_Check.cok k) hmix [fF] [] [] (exne 0) (via (finP (aI tv0 e5) (.exit 0) [] (joint_Check.c1q (.inr ()))) (by kernel_rfl)))))
theorem joint_Check.way (k:Nat) (a0:(List V45)) (a1:(List V48)):Owp (joint_Check k a0 a1) fun y=>∃ w c0,exec PR (joint_Check.cx k) joint_Check.code 0 (entry (.pair (.slice T45) (.pair (.slice T48) .unit)) (a0,a1,())).st w (Ret (joint_Check.cx k) Tryz.f59 c0 (.one (.dp T2)) y):=by
 unfold joint_Check; exact
  oB fun y1 e2 =>
  oF (fun e3 =>
  oS (⟨[rS T2 y1,tT],[],via (retP (aI (aI tv0 e2) e3) (.one (.dp T2)) (y1:Int)) (by kernel_rfl)⟩)) (fun e3 =>
  oF (fun e4 =>
  oS (⟨[rS T2 y1,fF,tT],[],via (retP (aI (aI (aI tv0 e2) e3) e4) (.one (.dp T2)) ((2:Int):Int)) (by kernel_rfl)⟩)) (fun e4 =>
  oB fun o12 e13 =>
  Owp.two (fun y14 e15 =>
  oS (⟨[rS T2 y1,fF,fF,.cut ⟨[],[],(joint_Check.c1p a0 a1),0,.ret,(joint_Check.c1q (.inl ())),0⟩],[],via (cutP (aI (aI (aI tv0 e2) e3) e4) [] (joint_Check.c1p a0 a1) (((joint_Check.c1_ok k a0 a1 k).ap (e13.trans (congrArg some e15))).triple) (retP tv0 (.one (.dp T2)) ((1:Int):Int))) (by kernel_rfl)⟩)) (fun y16 e17 =>
  oS (⟨[rS T2 y1,fF,fF,.cut ⟨[],[],(joint_Check.c1p a0 a1),0,(.exit 0),(joint_Check.c1q (.inr ())),0⟩],[],via (cutP (aI (aI (aI tv0 e2) e3) e4) [] (joint_Check.c1p a0 a1) (((joint_Check.c1_ok k a0 a1 k).ap (e13.trans (congrArg some e17))).triple) (retP tv0 (.one (.dp T2)) ((0:Int):Int))) (by kernel_rfl)⟩))))
theorem joint_Check.ok (k:Nat):FnOk PR 59 (joint_Check.sp k) :=
 fn_ok (joint_Check.cok k) hmix Tryz.func59 (code:=joint_Check.code) (by kernel_rfl) (by kernel_rfl) (by kernel_rfl) rfl rfl (by kernel_rfl) (by kernel_rfl) (by kernel_rfl) (fun x=>Nat.le_of_ble_eq_true (by kernel_rfl)) fun x y hy=>(joint_Check.way k x.1 x.2.1).ap hy
noncomputable def solve_Check.code:Code:=Func.cd Tryz.f58
noncomputable def solve_Check.c1 (k:Nat) (a1:(List V102)):Nat→Option (Unit)
 | 0=>none
 | n+1 =>
  bif' (ilt 0 (len a1))
  (req (inL 0 a1) <|none)
  (some ())
noncomputable def solve_Check (k:Nat) (a0:(List V45)) (a1:(List V102)):Option Int :=
 bnd (keep_Check k a0) fun y1 =>
 bif' (ine y1 0)
 (some y1)
 (bif' (igt (len a1) 4096)
  (some 2)
  (bnd (solve_Check.c1 k a1 k) fun o7 =>
  some 0))
noncomputable def solve_Check.sp (k:Nat):Go.Sx.Spec:=⟨(.pair (.slice T45) (.pair (.slice T102) .unit)),(.one (.dp T2)),fun x=>solve_Check k x.1 x.2.1,false⟩
noncomputable def solve_Check.cx (k:Nat):Go.Sx.Ctx:=⟨tys,[(13,keep_Check.sp k)],eqs,106,0,[],false⟩
theorem solve_Check.cok (k:Nat):CtxOk PR (solve_Check.cx k):=ctx_ok tysOk eqsOk (fC (keep_Check.ok k) FnsOk.nil) HsOk.nil
noncomputable def solve_Check.c1p (a0:(List V45)) (a1:(List V102)):SL:=⟨[(0,(.val (.slice T45) a0)),(6,(.val .clo (100,[]))),(17,(.val (.slice T102) a1)),(18,(.val T2 (len a1))),(19,(.val T2 (0:Int)))],[]⟩
noncomputable def solve_Check.c1q (o:Unit):SL:=(fun v=>⟨[],[]⟩) o
noncomputable def solve_Check.c1x (o:Unit):Ex:=(fun _=>(.exit 0)) o
noncomputable def solve_Check.c1n (o:Unit):Nat:=(fun _=>0) o
theorem solve_Check.c1_ok (k:Nat) (a0:(List V45)) (a1:(List V102)):∀ (n:Nat),Owp (solve_Check.c1 k a1 n) fun o=>LTriple PR (solve_Check.cx k) (sub solve_Check.code [1,1,1,1,0,1,0,0]) 0 (solve_Check.c1p a0 a1) (solve_Check.c1x o) (solve_Check.c1n o) (solve_Check.c1q o)
 | 0=>fun _ h=>nomatch h
 | n+1=>Owp.of (solve_Check.c1.eq_2 ..) (
  oF (fun e5 =>
  oR fun h6 =>
  Owp.none) (fun e5 =>
  oS (loop_exit (solve_Check.cok k) hmix [fF] [] [] (exne 0) (via (finP (aI tv0 e5) (.exit 0) [] (solve_Check.c1q ())) (by kernel_rfl)))))
theorem solve_Check.way (k:Nat) (a0:(List V45)) (a1:(List V102)):Owp (solve_Check k a0 a1) fun y=>∃ w c0,exec PR (solve_Check.cx k) solve_Check.code 0 (entry (.pair (.slice T45) (.pair (.slice T102) .unit)) (a0,a1,())).st w (Ret (solve_Check.cx k) Tryz.f58 c0 (.one (.dp T2)) y):=by
 unfold solve_Check; exact
  oB fun y1 e2 =>
  oF (fun e3 =>
  oS (⟨[rS T2 y1,tT],[],via (retP (aI (aI tv0 e2) e3) (.one (.dp T2)) (y1:Int)) (by kernel_rfl)⟩)) (fun e3 =>
  oF (fun e4 =>
  oS (⟨[rS T2 y1,fF,tT],[],via (retP (aI (aI (aI tv0 e2) e3) e4) (.one (.dp T2)) ((2:Int):Int)) (by kernel_rfl)⟩)) (fun e4 =>
  oB fun o7 e8 =>
  oS (⟨[rS T2 y1,fF,fF,.cut ⟨[],[],(solve_Check.c1p a0 a1),0,(.exit 0),(solve_Check.c1q ()),0⟩],[],via (cutP (aI (aI (aI tv0 e2) e3) e4) [] (solve_Check.c1p a0 a1) (((solve_Check.c1_ok k a0 a1 k).ap e8).triple) (retP tv0 (.one (.dp T2)) ((0:Int):Int))) (by kernel_rfl)⟩)))
theorem solve_Check.ok (k:Nat):FnOk PR 58 (solve_Check.sp k) :=
 fn_ok (solve_Check.cok k) hmix Tryz.func58 (code:=solve_Check.code) (by kernel_rfl) (by kernel_rfl) (by kernel_rfl) rfl rfl (by kernel_rfl) (by kernel_rfl) (by kernel_rfl) (fun x=>Nat.le_of_ble_eq_true (by kernel_rfl)) fun x y hy=>(solve_Check.way k x.1 x.2.1).ap hy
end Go.Proofs.T1
