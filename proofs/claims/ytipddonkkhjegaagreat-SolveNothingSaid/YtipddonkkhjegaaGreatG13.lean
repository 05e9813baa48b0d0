import Derived.Test.YtipddonkkhjegaaGreatG0
import Derived.Test.YtipddonkkhjegaaGreatG2
import Derived.Test.YtipddonkkhjegaaGreatG3
import Derived.Test.YtipddonkkhjegaaGreatG6
import Derived.Test.YtipddonkkhjegaaGreatG9
namespace Go.Proofs.T1
open Go Go.Sx Go.Proofs
set_option maxRecDepth 100000
set_option linter.unusedVariables false
noncomputable def solve_Check_1.code:Code:=Func.cd Tryz.f104
noncomputable def solve_Check_1 (k:Nat) (a0 a1 a2:Int):Option Bool :=
 bif' (ige a0 a1)
 (some (ile a0 a2))
 (some false)
noncomputable def solve_Check_1.sp (k:Nat):Go.Sx.Spec:=⟨(.pair T2 T26),(.one (.dp T4)),fun x=>solve_Check_1 k x.1 x.2.1 x.2.2.1,false⟩
noncomputable def solve_Check_1.cx (k:Nat):Go.Sx.Ctx:=⟨tys,[],eqs,15,0,[],false⟩
theorem solve_Check_1.cok (k:Nat):CtxOk PR (solve_Check_1.cx k):=ctx_ok tysOk eqsOk FnsOk.nil HsOk.nil
theorem solve_Check_1.way (k:Nat) (a0 a1 a2:Int):Owp (solve_Check_1 k a0 a1 a2) fun y=>∃ w c0,exec PR (solve_Check_1.cx k) solve_Check_1.code 0 (entry (.pair T2 T26) (a0,a1,a2,())).st w (Ret (solve_Check_1.cx k) Tryz.f104 c0 (.one (.dp T4)) y):=by
 unfold solve_Check_1; exact
  oF (fun e1 =>
  oS (⟨[tT,tT,tT,tT],[],via (retP (aI (aI (aI (aI tv0 e1) e1) e1) e1) (.one (.dp T4)) ((ile a0 a2):Bool)) (by kernel_rfl)⟩)) (fun e1 =>
  oS (⟨[fF,fF,fF,fF],[],via (retP (aI (aI (aI (aI tv0 e1) e1) e1) e1) (.one (.dp T4)) (false:Bool)) (by kernel_rfl)⟩))
theorem solve_Check_1.ok (k:Nat):FnOk PR 104 (solve_Check_1.sp k) :=
 fn_ok (solve_Check_1.cok k) hmix Tryz.func104 (code:=solve_Check_1.code) (by kernel_rfl) (by kernel_rfl) (by kernel_rfl) rfl rfl (by kernel_rfl) (by kernel_rfl) (by kernel_rfl) (fun x=>Nat.le_of_ble_eq_true (by kernel_rfl)) fun x y hy=>(solve_Check_1.way k x.1 x.2.1 x.2.2.1).ap hy
noncomputable def solve_Check.code:Code:=Func.cd Tryz.f51
noncomputable def solve_Check.c2 (k:Nat) (a0:(List V57)) (a1:(List V39)) (v5:Int):Option (Bool) :=
 bnd (solve_Check_1 k (el Z39 a1 v5).1 0 (isub .i64 (len a0) 1)) fun y8 =>
 bif' y8
 (bnd (solve_Check_1 k (el Z39 a1 v5).2.1 0 (isub .i64 (len a0) 1)) fun y11 =>
  bif' y11
  (bif' (ige (el Z39 a1 v5).1 (el Z39 a1 v5).2.1)
  (some true)
  (some (ilt (el Z39 a1 v5).2.2.1 0)))
  (some true))
 (some true)
noncomputable def solve_Check.c3 (k:Nat) (a1:(List V39)) (v5:Int):Option (Bool) :=
 bnd (solve_Check_1 k (el Z39 a1 v5).2.2.2.1.1 (-65536000) 65536000) fun y18 =>
 bif' y18
 (bnd (solve_Check_1 k (el Z39 a1 v5).2.2.2.1.2.1 (-65536000) 65536000) fun y21 =>
  bif' y21
  (bnd (solve_Check_1 k (el Z39 a1 v5).2.2.2.2.1.1 (-65536) 65536) fun y24 =>
  bif' y24
  (bnd (solve_Check_1 k (el Z39 a1 v5).2.2.2.2.1.2.1 (-65536) 65536) fun y27 =>
  some (!y27))
  (some true))
  (some true))
 (some true)
noncomputable def solve_Check.c4 (k:Nat) (a1:(List V39)) (v5:Int):Option (Bool) :=
 bnd (solve_Check_1 k (el Z39 a1 v5).2.2.2.2.2.1 0 65536000) fun y32 =>
 bif' y32
 (bnd (solve_Check_1 k (el Z39 a1 v5).2.2.2.2.2.2.1 0 1099511627776) fun y35 =>
  bif' y35
  (bnd (solve_Check_1 k (el Z39 a1 v5).2.2.2.2.2.2.2.1 (-1099511627776) 1099511627776) fun y38 =>
  some (!y38))
  (some true))
 (some true)
noncomputable def solve_Check.c1 (k:Nat) (a0:(List V57)) (a1:(List V39)):Nat→Int→Option (Unit ⊕ Unit)
 | 0,_=>none
 | n+1,v5 =>
  bif' (ilt v5 (len a1))
  (req (inL v5 a1) <|bnd (solve_Check.c2 k a0 a1 v5) fun o15 =>
  bif' o15
  (some (.inl ()))
  (bnd (solve_Check.c3 k a1 v5) fun o29 =>
  bif' o29
  (some (.inl ()))
  (bnd (solve_Check.c4 k a1 v5) fun o40 =>
  bif' o40
  (some (.inl ()))
  (solve_Check.c1 k a0 a1 n (iadd .i64 v5 1)))))
  (some (.inr ()))
noncomputable def solve_Check (k:Nat) (a0:(List V57)) (a1:(List V39)):Option Int :=
 bnd (keep_Check k a0) fun y1 =>
 bif' (ine y1 0)
 (some y1)
 (bif' (igt (len a1) 4096)
  (some 2)
  (bnd (solve_Check.c1 k a0 a1 k 0) fun o43 =>
  two o43 (fun y45 =>
  some 1) (fun y47 =>
  some 0)))
noncomputable def solve_Check.sp (k:Nat):Go.Sx.Spec:=⟨(.pair (.slice T57) (.pair (.slice T39) .unit)),(.one (.dp T2)),fun x=>solve_Check k x.1 x.2.1,false⟩
noncomputable def solve_Check.cx (k:Nat):Go.Sx.Ctx:=⟨tys,[(21,keep_Check.sp k),(104,solve_Check_1.sp k)],eqs,106,0,[],false⟩
theorem solve_Check.cok (k:Nat):CtxOk PR (solve_Check.cx k):=ctx_ok tysOk eqsOk (fC (keep_Check.ok k) (fC (solve_Check_1.ok k) FnsOk.nil)) HsOk.nil
noncomputable def solve_Check.c2p (a0:(List V57)) (a1:(List V39)) (v5:Int):SL:=⟨[(0,(.val (.slice T57) a0)),(6,(.val .clo (104,[]))),(8,(.val .ptr ⟨0,0,(0:Int),0,0⟩)),(17,(.val (.slice T39) a1)),(18,(.val T2 (len a1))),(19,(.val T2 v5))],[(0,.cells T39 (el Z39 a1 v5))]⟩
noncomputable def solve_Check.c2q (a0:(List V57)) (a1:(List V39)) (v5:Int) (o:Bool):SL:=(fun v=>⟨[(0,(.val (.slice T57) a0)),(6,(.val .clo (104,[]))),(8,(.val .ptr ⟨0,0,(0:Int),0,0⟩)),(17,(.val (.slice T39) a1)),(18,(.val T2 (len a1))),(19,(.val T2 v5)),(23,(.val T4 v))],[(0,.cells T39 (el Z39 a1 v5))]⟩) o
noncomputable def solve_Check.c2x (o:Bool):Ex:=(fun _=>.normal) o
noncomputable def solve_Check.c2n (o:Bool):Nat:=(fun _=>1) o
theorem solve_Check.c2_ok (k:Nat) (a0:(List V57)) (a1:(List V39)) (v5:Int):Owp (solve_Check.c2 k a0 a1 v5) fun o=>Triple PR (solve_Check.cx k) (sub solve_Check.code [1,1,1,1,0,1,0,0,1,1,0,0,1,0,0]) 1 (solve_Check.c2p a0 a1 v5) (solve_Check.c2x o) (solve_Check.c2n o) (solve_Check.c2q a0 a1 v5 o):=by
 unfold solve_Check.c2; exact
  oB fun y8 e9 =>
  oF (fun e10 =>
  oB fun y11 e12 =>
  oF (fun e13 =>
  oF (fun e14 =>
  oS (tW (solve_Check.cok k) hmix [rS T4 y8,fF,fF,fF,fF,fF,fF,fF,rS T4 y11,fF,fF,fF,fF,fF,fF,fF,fF,tT,tT,tT,tT] [] [(0,0)] (via (finP (aI (aI (aI (aI (aI (aI (aI (aI (aI (aI (aI (aI (aI (aI (aI (aI (aI (aI (aI (aI tv0 e9) (congrArg not e10)) (congrArg not e10)) (congrArg not e10)) (congrArg not e10)) (congrArg not e10)) (congrArg not e10)) (aI (congrArg not e10) e12)) (congrArg not e10)) (congrArg not e10)) (congrArg not e13)) (congrArg not e13)) (congrArg not e13)) (congrArg not e13)) (congrArg not e13)) (congrArg not e13)) e14) e14) e14) e14) .normal [(0,0)] (solve_Check.c2q a0 a1 v5 true)) (by kernel_rfl)))) (fun e14 =>
  oS (tW (solve_Check.cok k) hmix [rS T4 y8,fF,fF,fF,fF,fF,fF,fF,rS T4 y11,fF,fF,fF,fF,fF,fF,fF,fF,fF,fF,fF,fF] [] [(0,0)] (via (finP (aI (aI (aI (aI (aI (aI (aI (aI (aI (aI (aI (aI (aI (aI (aI (aI (aI (aI (aI (aI tv0 e9) (congrArg not e10)) (congrArg not e10)) (congrArg not e10)) (congrArg not e10)) (congrArg not e10)) (congrArg not e10)) (aI (congrArg not e10) e12)) (congrArg not e10)) (congrArg not e10)) (congrArg not e13)) (congrArg not e13)) (congrArg not e13)) (congrArg not e13)) (congrArg not e13)) (congrArg not e13)) e14) e14) e14) e14) .normal [(0,0)] (solve_Check.c2q a0 a1 v5 (ilt (el Z39 a1 v5).2.2.1 (0:Int)))) (by kernel_rfl))))) (fun e13 =>
  oS (tW (solve_Check.cok k) hmix [rS T4 y8,fF,fF,fF,fF,fF,fF,fF,rS T4 y11,fF,fF,tT,tT,tT,tT,tT,tT,tT,tT,tT,tT] [] [(0,0)] (via (finP (aI (aI (aI (aI (aI (aI (aI (aI (aI (aI (aI (aI (aI (aI (aI (aI (aI (aI (aI (aI tv0 e9) (congrArg not e10)) (congrArg not e10)) (congrArg not e10)) (congrArg not e10)) (congrArg not e10)) (congrArg not e10)) (aI (congrArg not e10) e12)) (congrArg not e10)) (congrArg not e10)) (congrArg not e13)) (congrArg not e13)) (congrArg not e13)) (congrArg not e13)) (congrArg not e13)) (congrArg not e13)) tt) tt) tt) tt) .normal [(0,0)] (solve_Check.c2q a0 a1 v5 true)) (by kernel_rfl))))) (fun e10 =>
  oS (tW (solve_Check.cok k) hmix [rS T4 y8,tT,tT,tT,tT,tT,tT,tT,tT,tT,tT,tT,tT,tT,tT,tT,tT,tT,tT,tT,tT] [] [(0,0)] (via (finP (aI (aI (aI (aI (aI (aI (aI (aI (aI (aI (aI (aI (aI (aI (aI (aI (aI (aI (aI (aI tv0 e9) (congrArg not e10)) (congrArg not e10)) (congrArg not e10)) (congrArg not e10)) (congrArg not e10)) (congrArg not e10)) (congrArg not e10)) (congrArg not e10)) (congrArg not e10)) tt) tt) tt) tt) tt) tt) tt) tt) tt) tt) .normal [(0,0)] (solve_Check.c2q a0 a1 v5 true)) (by kernel_rfl))))
noncomputable def solve_Check.c3p (a0:(List V57)) (a1:(List V39)) (v5:Int):SL:=⟨[(0,(.val (.slice T57) a0)),(6,(.val .clo (104,[]))),(8,(.val .ptr ⟨0,0,(0:Int),0,0⟩)),(17,(.val (.slice T39) a1)),(18,(.val T2 (len a1))),(19,(.val T2 v5))],[(0,.cells T39 (el Z39 a1 v5))]⟩
noncomputable def solve_Check.c3q (a0:(List V57)) (a1:(List V39)) (v5:Int) (o:Bool):SL:=(fun v=>⟨[(0,(.val (.slice T57) a0)),(6,(.val .clo (104,[]))),(8,(.val .ptr ⟨0,0,(0:Int),0,0⟩)),(17,(.val (.slice T39) a1)),(18,(.val T2 (len a1))),(19,(.val T2 v5)),(54,(.val T4 v))],[(0,.cells T39 (el Z39 a1 v5))]⟩) o
noncomputable def solve_Check.c3x (o:Bool):Ex:=(fun _=>.normal) o
noncomputable def solve_Check.c3n (o:Bool):Nat:=(fun _=>1) o
theorem solve_Check.c3_ok (k:Nat) (a0:(List V57)) (a1:(List V39)) (v5:Int):Owp (solve_Check.c3 k a1 v5) fun o=>Triple PR (solve_Check.cx k) (sub solve_Check.code [1,1,1,1,0,1,0,0,1,1,0,0,1,0,1,1,0]) 1 (solve_Check.c3p a0 a1 v5) (solve_Check.c3x o) (solve_Check.c3n o) (solve_Check.c3q a0 a1 v5 o):=by
 unfold solve_Check.c3; exact
  oB fun y18 e19 =>
  oF (fun e20 =>
  oB fun y21 e22 =>
  oF (fun e23 =>
  oB fun y24 e25 =>
  oF (fun e26 =>
  oB fun y27 e28 =>
  oS (tW (solve_Check.cok k) hmix [rS T4 y18,fF,fF,fF,fF,fF,rS T4 y21,fF,fF,fF,fF,fF,fF,fF,rS T4 y24,fF,fF,fF,fF,fF,fF,fF,rS T4 y27,fF,fF] [] [(0,0)] (via (finP (aI (aI (aI (aI (aI (aI (aI (aI (aI (aI (aI (aI (aI (aI (aI (aI (aI (aI (aI (aI (aI (aI tv0 e19) (congrArg not e20)) (congrArg not e20)) (congrArg not e20)) (congrArg not e20)) (aI (congrArg not e20) e22)) (congrArg not e20)) (congrArg not e20)) (congrArg not e23)) (congrArg not e23)) (congrArg not e23)) (congrArg not e23)) (aI (congrArg not e23) e25)) (congrArg not e23)) (congrArg not e23)) (congrArg not e26)) (congrArg not e26)) (congrArg not e26)) (congrArg not e26)) (aI (congrArg not e26) e28)) (congrArg not e26)) (congrArg not e26)) .normal [(0,0)] (solve_Check.c3q a0 a1 v5 (!y27))) (by kernel_rfl)))) (fun e26 =>
  oS (tW (solve_Check.cok k) hmix [rS T4 y18,fF,fF,fF,fF,fF,rS T4 y21,fF,fF,fF,fF,fF,fF,fF,rS T4 y24,fF,fF,tT,tT,tT,tT,tT,tT,tT,tT] [] [(0,0)] (via (finP (aI (aI (aI (aI (aI (aI (aI (aI (aI (aI (aI (aI (aI (aI (aI (aI (aI (aI (aI (aI (aI (aI tv0 e19) (congrArg not e20)) (congrArg not e20)) (congrArg not e20)) (congrArg not e20)) (aI (congrArg not e20) e22)) (congrArg not e20)) (congrArg not e20)) (congrArg not e23)) (congrArg not e23)) (congrArg not e23)) (congrArg not e23)) (aI (congrArg not e23) e25)) (congrArg not e23)) (congrArg not e23)) (congrArg not e26)) (congrArg not e26)) (congrArg not e26)) (congrArg not e26)) (congrArg not e26)) (congrArg not e26)) (congrArg not e26)) .normal [(0,0)] (solve_Check.c3q a0 a1 v5 true)) (by kernel_rfl))))) (fun e23 =>
  oS (tW (solve_Check.cok k) hmix [rS T4 y18,fF,fF,fF,fF,fF,rS T4 y21,fF,fF,tT,tT,tT,tT,tT,tT,tT,tT,tT,tT,tT,tT,tT,tT,tT,tT] [] [(0,0)] (via (finP (aI (aI (aI (aI (aI (aI (aI (aI (aI (aI (aI (aI (aI (aI (aI (aI (aI (aI (aI (aI (aI (aI tv0 e19) (congrArg not e20)) (congrArg not e20)) (congrArg not e20)) (congrArg not e20)) (aI (congrArg not e20) e22)) (congrArg not e20)) (congrArg not e20)) (congrArg not e23)) (congrArg not e23)) (congrArg not e23)) (congrArg not e23)) (congrArg not e23)) (congrArg not e23)) (congrArg not e23)) tt) tt) tt) tt) tt) tt) tt) .normal [(0,0)] (solve_Check.c3q a0 a1 v5 true)) (by kernel_rfl))))) (fun e20 =>
  oS (tW (solve_Check.cok k) hmix [rS T4 y18,tT,tT,tT,tT,tT,tT,tT,tT,tT,tT,tT,tT,tT,tT,tT,tT,tT,tT,tT,tT,tT,tT,tT,tT] [] [(0,0)] (via (finP (aI (aI (aI (aI (aI (aI (aI (aI (aI (aI (aI (aI (aI (aI (aI (aI (aI (aI (aI (aI (aI (aI tv0 e19) (congrArg not e20)) (congrArg not e20)) (congrArg not e20)) (congrArg not e20)) (congrArg not e20)) (congrArg not e20)) (congrArg not e20)) tt) tt) tt) tt) tt) tt) tt) tt) tt) tt) tt) tt) tt) tt) .normal [(0,0)] (solve_Check.c3q a0 a1 v5 true)) (by kernel_rfl))))
noncomputable def solve_Check.c4p (a0:(List V57)) (a1:(List V39)) (v5:Int):SL:=⟨[(0,(.val (.slice T57) a0)),(6,(.val .clo (104,[]))),(8,(.val .ptr ⟨0,0,(0:Int),0,0⟩)),(17,(.val (.slice T39) a1)),(18,(.val T2 (len a1))),(19,(.val T2 v5))],[(0,.cells T39 (el Z39 a1 v5))]⟩
noncomputable def solve_Check.c4q (a0:(List V57)) (a1:(List V39)) (v5:Int) (o:Bool):SL:=(fun v=>⟨[(0,(.val (.slice T57) a0)),(6,(.val .clo (104,[]))),(17,(.val (.slice T39) a1)),(18,(.val T2 (len a1))),(19,(.val T2 v5)),(85,(.val T4 v))],[]⟩) o
noncomputable def solve_Check.c4x (o:Bool):Ex:=(fun _=>.normal) o
noncomputable def solve_Check.c4n (o:Bool):Nat:=(fun _=>0) o
theorem solve_Check.c4_ok (k:Nat) (a0:(List V57)) (a1:(List V39)) (v5:Int):Owp (solve_Check.c4 k a1 v5) fun o=>Triple PR (solve_Check.cx k) (sub solve_Check.code [1,1,1,1,0,1,0,0,1,1,0,0,1,0,1,1,1,1,0]) 1 (solve_Check.c4p a0 a1 v5) (solve_Check.c4x o) (solve_Check.c4n o) (solve_Check.c4q a0 a1 v5 o):=by
 unfold solve_Check.c4; exact
  oB fun y32 e33 =>
  oF (fun e34 =>
  oB fun y35 e36 =>
  oF (fun e37 =>
  oB fun y38 e39 =>
  oS (tW (solve_Check.cok k) hmix [rS T4 y32,fF,fF,fF,fF,rS T4 y35,fF,fF,fF,fF,fF,fF,rS T4 y38,fF,fF] [] [] (via (finP (aI (aI (aI (aI (aI (aI (aI (aI (aI (aI (aI (aI (aI tv0 e33) (congrArg not e34)) (congrArg not e34)) (congrArg not e34)) (aI (congrArg not e34) e36)) (congrArg not e34)) (congrArg not e34)) (congrArg not e37)) (congrArg not e37)) (congrArg not e37)) (aI (congrArg not e37) e39)) (congrArg not e37)) (congrArg not e37)) .normal [] (solve_Check.c4q a0 a1 v5 (!y38))) (by kernel_rfl)))) (fun e37 =>
  oS (tW (solve_Check.cok k) hmix [rS T4 y32,fF,fF,fF,fF,rS T4 y35,fF,fF,tT,tT,tT,tT,tT,tT,tT] [] [] (via (finP (aI (aI (aI (aI (aI (aI (aI (aI (aI (aI (aI (aI (aI tv0 e33) (congrArg not e34)) (congrArg not e34)) (congrArg not e34)) (aI (congrArg not e34) e36)) (congrArg not e34)) (congrArg not e34)) (congrArg not e37)) (congrArg not e37)) (congrArg not e37)) (congrArg not e37)) (congrArg not e37)) (congrArg not e37)) .normal [] (solve_Check.c4q a0 a1 v5 true)) (by kernel_rfl))))) (fun e34 =>
  oS (tW (solve_Check.cok k) hmix [rS T4 y32,tT,tT,tT,tT,tT,tT,tT,tT,tT,tT,tT,tT,tT,tT] [] [] (via (finP (aI (aI (aI (aI (aI (aI (aI (aI (aI (aI (aI (aI (aI tv0 e33) (congrArg not e34)) (congrArg not e34)) (congrArg not e34)) (congrArg not e34)) (congrArg not e34)) (congrArg not e34)) tt) tt) tt) tt) tt) tt) .normal [] (solve_Check.c4q a0 a1 v5 true)) (by kernel_rfl))))
noncomputable def solve_Check.c1p (a0:(List V57)) (a1:(List V39)) (v5:Int):SL:=⟨[(0,(.val (.slice T57) a0)),(6,(.val .clo (104,[]))),(17,(.val (.slice T39) a1)),(18,(.val T2 (len a1))),(19,(.val T2 v5))],[]⟩
noncomputable def solve_Check.c1q (o:Unit ⊕ Unit):SL:=(fun o=>two o (fun v=>⟨[(4,(.val T2 (1:Int)))],[]⟩) (fun v=>⟨[],[]⟩)) o
noncomputable def solve_Check.c1x (o:Unit ⊕ Unit):Ex:=(fun o=>two o (fun _=>.ret) (fun _=>(.exit 0))) o
noncomputable def solve_Check.c1n (o:Unit ⊕ Unit):Nat:=(fun o=>two o (fun _=>0) (fun _=>0)) o
theorem solve_Check.c1_ok (k:Nat) (a0:(List V57)) (a1:(List V39)):∀ (n:Nat) (v5:Int),Owp (solve_Check.c1 k a0 a1 n v5) fun o=>LTriple PR (solve_Check.cx k) (sub solve_Check.code [1,1,1,1,0,1,0,0]) 0 (solve_Check.c1p a0 a1 v5) (solve_Check.c1x o) (solve_Check.c1n o) (solve_Check.c1q o)
 | 0,_=>fun _ h=>nomatch h
 | n+1,v5=>Owp.of (solve_Check.c1.eq_2 ..) (
  oF (fun e6 =>
  oR fun h7 =>
  oB fun o15 e16 =>
  oF (fun e17 =>
  oS (loop_exit (solve_Check.cok k) hmix [tT,.cutR 10 ⟨[],[(0,3)],(solve_Check.c2p a0 a1 v5),1,.normal,(solve_Check.c2q a0 a1 v5 o15),1⟩,tT] [] [] exne_ret (via (cutP (aI (aI tv0 e6) h7) [(0,3)] (solve_Check.c2p a0 a1 v5) (((solve_Check.c2_ok k a0 a1 v5).ap e16)) (finP (aI tv0 e17) .ret [] (solve_Check.c1q (.inl ())))) (by kernel_rfl)))) (fun e17 =>
  oB fun o29 e30 =>
  oF (fun e31 =>
  oS (loop_exit (solve_Check.cok k) hmix [tT,.cutR 10 ⟨[],[(0,3)],(solve_Check.c2p a0 a1 v5),1,.normal,(solve_Check.c2q a0 a1 v5 o15),1⟩,fF,.cutR 12 ⟨[],[(0,0)],(solve_Check.c3p a0 a1 v5),1,.normal,(solve_Check.c3q a0 a1 v5 o29),1⟩,tT] [] [] exne_ret (via (cutP (aI (aI tv0 e6) h7) [(0,3)] (solve_Check.c2p a0 a1 v5) (((solve_Check.c2_ok k a0 a1 v5).ap e16)) (cutP (aI tv0 e17) [(0,0)] (solve_Check.c3p a0 a1 v5) (((solve_Check.c3_ok k a0 a1 v5).ap e30)) (finP (aI tv0 e31) .ret [] (solve_Check.c1q (.inl ()))))) (by kernel_rfl)))) (fun e31 =>
  oB fun o40 e41 =>
  oF (fun e42 =>
  oS (loop_exit (solve_Check.cok k) hmix [tT,.cutR 10 ⟨[],[(0,3)],(solve_Check.c2p a0 a1 v5),1,.normal,(solve_Check.c2q a0 a1 v5 o15),1⟩,fF,.cutR 12 ⟨[],[(0,0)],(solve_Check.c3p a0 a1 v5),1,.normal,(solve_Check.c3q a0 a1 v5 o29),1⟩,fF,.cutR 14 ⟨[],[(0,0)],(solve_Check.c4p a0 a1 v5),1,.normal,(solve_Check.c4q a0 a1 v5 o40),0⟩,tT] [] [] exne_ret (via (cutP (aI (aI tv0 e6) h7) [(0,3)] (solve_Check.c2p a0 a1 v5) (((solve_Check.c2_ok k a0 a1 v5).ap e16)) (cutP (aI tv0 e17) [(0,0)] (solve_Check.c3p a0 a1 v5) (((solve_Check.c3_ok k a0 a1 v5).ap e30)) (cutP (aI tv0 e31) [(0,0)] (solve_Check.c4p a0 a1 v5) (((solve_Check.c4_ok k a0 a1 v5).ap e41)) (finP (aI tv0 e42) .ret [] (solve_Check.c1q (.inl ())))))) (by kernel_rfl)))) (fun e42 =>
  fun y hy=>loop_back (solve_Check.cok k) hmix 0 (solve_Check.c1p a0 a1 (iadd .i64 v5 (1:Int))) [tT,.cutR 10 ⟨[],[(0,3)],(solve_Check.c2p a0 a1 v5),1,.normal,(solve_Check.c2q a0 a1 v5 o15),1⟩,fF,.cutR 12 ⟨[],[(0,0)],(solve_Check.c3p a0 a1 v5),1,.normal,(solve_Check.c3q a0 a1 v5 o29),1⟩,fF,.cutR 14 ⟨[],[(0,0)],(solve_Check.c4p a0 a1 v5),1,.normal,(solve_Check.c4q a0 a1 v5 o40),0⟩,fF] [] [] (via (cutP (aI (aI tv0 e6) h7) [(0,3)] (solve_Check.c2p a0 a1 v5) (((solve_Check.c2_ok k a0 a1 v5).ap e16)) (cutP (aI tv0 e17) [(0,0)] (solve_Check.c3p a0 a1 v5) (((solve_Check.c3_ok k a0 a1 v5).ap e30)) (cutP (aI tv0 e31) [(0,0)] (solve_Check.c4p a0 a1 v5) (((solve_Check.c4_ok k a0 a1 v5).ap e41)) (finP (aI tv0 e42) .normal [] (solve_Check.c1p a0 a1 (iadd .i64 v5 (1:Int))))))) (by kernel_rfl)) ((solve_Check.c1_ok k a0 a1 n (iadd .i64 v5 (1:Int))).ap hy))))) (fun e6 =>
  oS (loop_exit (solve_Check.cok k) hmix [fF] [] [] (exne 0) (via (finP (aI tv0 e6) (.exit 0) [] (solve_Check.c1q (.inr ()))) (by kernel_rfl)))))
theorem solve_Check.way (k:Nat) (a0:(List V57)) (a1:(List V39)):Owp (solve_Check k a0 a1) fun y=>∃ w c0,exec PR (solve_Check.cx k) solve_Check.code 0 (entry (.pair (.slice T57) (.pair (.slice T39) .unit)) (a0,a1,())).st w (Ret (solve_Check.cx k) Tryz.f51 c0 (.one (.dp T2)) y):=by
 unfold solve_Check; exact
  oB fun y1 e2 =>
  oF (fun e3 =>
  oS (⟨[rS T2 y1,tT],[],via (retP (aI (aI tv0 e2) e3) (.one (.dp T2)) (y1:Int)) (by kernel_rfl)⟩)) (fun e3 =>
  oF (fun e4 =>
  oS (⟨[rS T2 y1,fF,tT],[],via (retP (aI (aI (aI tv0 e2) e3) e4) (.one (.dp T2)) ((2:Int):Int)) (by kernel_rfl)⟩)) (fun e4 =>
  oB fun o43 e44 =>
  Owp.two (fun y45 e46 =>
  oS (⟨[rS T2 y1,fF,fF,.cut ⟨[],[],(solve_Check.c1p a0 a1 (0:Int)),0,.ret,(solve_Check.c1q (.inl ())),0⟩],[],via (cutP (aI (aI (aI tv0 e2) e3) e4) [] (solve_Check.c1p a0 a1 (0:Int)) (((solve_Check.c1_ok k a0 a1 k (0:Int)).ap (e44.trans (congrArg some e46))).triple) (retP tv0 (.one (.dp T2)) ((1:Int):Int))) (by kernel_rfl)⟩)) (fun y47 e48 =>
  oS (⟨[rS T2 y1,fF,fF,.cut ⟨[],[],(solve_Check.c1p a0 a1 (0:Int)),0,(.exit 0),(solve_Check.c1q (.inr ())),0⟩],[],via (cutP (aI (aI (aI tv0 e2) e3) e4) [] (solve_Check.c1p a0 a1 (0:Int)) (((solve_Check.c1_ok k a0 a1 k (0:Int)).ap (e44.trans (congrArg some e48))).triple) (retP tv0 (.one (.dp T2)) ((0:Int):Int))) (by kernel_rfl)⟩))))
theorem solve_Check.ok (k:Nat):FnOk PR 51 (solve_Check.sp k) :=
 fn_ok (solve_Check.cok k) hmix Tryz.func51 (code:=solve_Check.code) (by kernel_rfl) (by kernel_rfl) (by kernel_rfl) rfl rfl (by kernel_rfl) (by kernel_rfl) (by kernel_rfl) (fun x=>Nat.le_of_ble_eq_true (by kernel_rfl)) fun x y hy=>(solve_Check.way k x.1 x.2.1).ap hy
noncomputable def solve_over.code:Code:=Func.cd Tryz.f107
noncomputable def solve_over (k:Nat) (a0 a1:Int):Option Int :=
 bnd (fix_Div k a0 a1) fun y1 =>
 some y1.1
noncomputable def solve_over.sp (k:Nat):Go.Sx.Spec:=⟨T26,(.one (.dp T2)),fun x=>solve_over k x.1 x.2.1,false⟩
noncomputable def solve_over.cx (k:Nat):Go.Sx.Ctx:=⟨tys,[(151,fix_Div.sp k)],eqs,14,0,[],false⟩
theorem solve_over.cok (k:Nat):CtxOk PR (solve_over.cx k):=ctx_ok tysOk eqsOk (fC (fix_Div.ok k) FnsOk.nil) HsOk.nil
theorem solve_over.way (k:Nat) (a0 a1:Int):Owp (solve_over k a0 a1) fun y=>∃ w c0,exec PR (solve_over.cx k) solve_over.code 0 (entry T26 (a0,a1,())).st w (Ret (solve_over.cx k) Tryz.f107 c0 (.one (.dp T2)) y):=by
 unfold solve_over; exact
  oB fun y1 e2 =>
  oS (⟨[.res (.more (.dp T2) (.one (.dp T2))) y1],[],via (retP (aI tv0 e2) (.one (.dp T2)) (y1.1:Int)) (by kernel_rfl)⟩)
theorem solve_over.ok (k:Nat):FnOk PR 107 (solve_over.sp k) :=
 fn_ok (solve_over.cok k) hmix Tryz.func107 (code:=solve_over.code) (by kernel_rfl) (by kernel_rfl) (by kernel_rfl) rfl rfl (by kernel_rfl) (by kernel_rfl) (by kernel_rfl) (fun x=>Nat.le_of_ble_eq_true (by kernel_rfl)) fun x y hy=>(solve_over.way k x.1 x.2.1).ap hy
noncomputable def solve_solver_speed_h_2.code:Code:=Func.cd Tryz.f110
noncomputable def solve_solver_speed_h_2 (k:Nat) (a1:V39) (r1:(List V57)) (r2:(List V39)) (r3:(List V96)):Option V26 :=
 req (inL a1.2.1 r1) <|bnd (body_At k (el Z57 r1 a1.2.1) a1.2.2.2.1) fun y2 =>
 req (inL a1.1 r1) <|bnd (body_At k (el Z57 r1 a1.1) a1.2.2.2.1) fun y5 =>
 bnd (vec_Sub k y2 y5) fun y7 =>
 some y7
noncomputable def solve_solver_speed_h_2.h (k:Nat):Go.Sx.HSp:=⟨(.pair T39 (.pair (.slice T57) (.pair (.slice T39) (.pair (.slice T96) .unit)))),T26,4,fun x=>[.lent (.val .ptr ⟨0,0,(0:Int),0,0⟩),.dat T39 x.1],fun x=>[(0,.cells (.pair .own (.pair .own (.pair .own .unit))) ((1:Nat),(2:Nat),(3:Nat),())),(1,.row T57 x.2.1 58),(2,.row T39 x.2.2.1 40),(3,.row T96 x.2.2.2.1 97)],fun x=>solve_solver_speed_h_2 k x.1 x.2.1 x.2.2.1 x.2.2.2.1,fun x y=>[(0,.cells (.pair .own (.pair .own (.pair .own .unit))) ((1:Nat),(2:Nat),(3:Nat),())),(1,.row T57 x.2.1 58),(2,.row T39 x.2.2.1 40),(3,.row T96 x.2.2.2.1 97)],(.one (.dp T26)),fun y=>y,true,false⟩
noncomputable def solve_solver_speed_h_2.cx (k:Nat):Go.Sx.Ctx:=⟨tys,[(153,body_At.sp k),(149,vec_Sub.sp k)],eqs,28,4,[],true⟩
theorem solve_solver_speed_h_2.cok (k:Nat):CtxOk PR (solve_solver_speed_h_2.cx k):=ctx_ok tysOk eqsOk (fC (body_At.ok k) (fC (vec_Sub.ok k) FnsOk.nil)) HsOk.nil
@[irreducible] noncomputable def solve_solver_speed_h_2.P (k:Nat) (a1:V39) (r1:(List V57)) (r2:(List V39)) (r3:(List V96)) (y:V26) (w:List Ans) (c0:List Cmd):Prop:=exec PR (solve_solver_speed_h_2.cx k) solve_solver_speed_h_2.code 4 (entryH (solve_solver_speed_h_2.h k) (a1,r1,r2,r3,())).st w (RetH (solve_solver_speed_h_2.cx k) Tryz.f110 c0 (solve_solver_speed_h_2.h k) (a1,r1,r2,r3,()) y)
theorem solve_solver_speed_h_2.way (k:Nat) (a1:V39) (r1:(List V57)) (r2:(List V39)) (r3:(List V96)):Owp (solve_solver_speed_h_2 k a1 r1 r2 r3) fun y=>∃ w c0,solve_solver_speed_h_2.P k a1 r1 r2 r3 y w c0:=by
 unfold solve_solver_speed_h_2; exact
  oR fun h1 =>
  oB fun y2 e3 =>
  oR fun h4 =>
  oB fun y5 e6 =>
  oB fun y7 e8 =>
  oS (⟨[rS T26 y2,rS T26 y5,rS T26 y7],[],via (rethP (aI (aI (aI (aI (aI (aI (aI tv0 h1) h1) e3) h4) h4) e6) e8) [(0,.cells (.pair .own (.pair .own (.pair .own .unit))) ((1:Nat),(2:Nat),(3:Nat),())),(1,.row T57 r1 58),(2,.row T39 r2 40),(3,.row T96 r3 97)] (.one (.dp T26)) (y7:V26)) (by kernel_rfl)⟩)
theorem solve_solver_speed_h_2.ok (k:Nat):HOk PR 110 (solve_solver_speed_h_2.h k) :=
 fnH_ok (solve_solver_speed_h_2.cok k) hmix Tryz.func110 (code:=solve_solver_speed_h_2.code) (by kernel_rfl) (by kernel_rfl) (by kernel_rfl) (by kernel_rfl) (by kernel_rfl) (by kernel_rfl) (fun x=>Nat.le_of_ble_eq_true (by kernel_rfl)) fun x y hy=>match (solve_solver_speed_h_2.way k x.1 x.2.1 x.2.2.1 x.2.2.2.1).ap hy with | ⟨ans,c0,h⟩=>⟨ans,c0,via h (by kernel_rfl)⟩
noncomputable def solve_solver_row_2.code:Code:=Func.cd Tryz.f53
noncomputable def solve_solver_row_2 (k:Nat) (a1:V39) (a2:Int) (r1:(List V57)) (r2:(List V39)) (r3:(List V96)):Option V96 :=
 req (inL a1.1 r1) <|req (inL a1.2.1 r1) <|bnd (body_Ease k (el Z57 r1 a1.1) a1.2.2.2.1 a1.2.2.2.2.1) fun y3 =>
 bnd (body_Ease k (el Z57 r1 a1.2.1) a1.2.2.2.1 a1.2.2.2.2.1) fun y5 =>
 bnd (fix_Add k y3 y5) fun y7 =>
 bnd (body_Ease k (el Z57 r1 a1.1) a1.2.2.2.1 ((ineg .i64 a1.2.2.2.2.1.2.1),a1.2.2.2.2.1.1,())) fun y9 =>
 bnd (body_Ease k (el Z57 r1 a1.2.1) a1.2.2.2.1 ((ineg .i64 a1.2.2.2.2.1.2.1),a1.2.2.2.2.1.1,())) fun y11 =>
 bnd (fix_Add k y9 y11) fun y13 =>
 bnd (fix_Mul k (imax 0 (isub .i64 a1.2.2.2.2.2.1 512)) 8192) fun y15 =>
 bnd (solve_over k y15 a2) fun y17 =>
 bnd (solve_solver_speed_h_2 k a1 r1 r2 r3) fun y19 =>
 bnd (vec_Dot k y19 a1.2.2.2.2.1) fun y21 =>
 bif' (ilt y21 (-32768))
 (bnd (fix_Mul k (imax (el Z57 r1 a1.1).2.2.2.2.2.2.1 (el Z57 r1 a1.2.1).2.2.2.2.2.2.1) (ineg .i64 y21)) fun y24 =>
  bnd (fix_Add k y17 y24) fun y26 =>
  some (((ineg .i64 a1.2.2.2.2.1.2.1),a1.2.2.2.2.1.1,()),y7,y13,y26,(imin (el Z57 r1 a1.1).2.2.2.2.2.2.2.1 (el Z57 r1 a1.2.1).2.2.2.2.2.2.2.1),()))
 (some (((ineg .i64 a1.2.2.2.2.1.2.1),a1.2.2.2.2.1.1,()),y7,y13,y17,(imin (el Z57 r1 a1.1).2.2.2.2.2.2.2.1 (el Z57 r1 a1.2.1).2.2.2.2.2.2.2.1),()))
noncomputable def solve_solver_row_2.h (k:Nat):Go.Sx.HSp:=⟨(.pair T39 (.pair T2 (.pair (.slice T57) (.pair (.slice T39) (.pair (.slice T96) .unit))))),T96,4,fun x=>[.lent (.val .ptr ⟨0,0,(0:Int),0,0⟩),.dat T39 x.1,.dat T2 x.2.1],fun x=>[(0,.cells (.pair .own (.pair .own (.pair .own .unit))) ((1:Nat),(2:Nat),(3:Nat),())),(1,.row T57 x.2.2.1 58),(2,.row T39 x.2.2.2.1 40),(3,.row T96 x.2.2.2.2.1 97)],fun x=>solve_solver_row_2 k x.1 x.2.1 x.2.2.1 x.2.2.2.1 x.2.2.2.2.1,fun x y=>[(0,.cells (.pair .own (.pair .own (.pair .own .unit))) ((1:Nat),(2:Nat),(3:Nat),())),(1,.row T57 x.2.2.1 58),(2,.row T39 x.2.2.2.1 40),(3,.row T96 x.2.2.2.2.1 97)],(.one (.dp T96)),fun y=>y,true,false⟩
noncomputable def solve_solver_row_2.cx (k:Nat):Go.Sx.Ctx:=⟨tys,[(106,body_Ease.sp k),(105,fix_Add.sp k),(108,fix_Mul.sp k),(107,solve_over.sp k),(109,vec_Dot.sp k)],eqs,98,4,[(110,solve_solver_speed_h_2.h k)],true⟩
theorem solve_solver_row_2.cok (k:Nat):CtxOk PR (solve_solver_row_2.cx k):=ctx_ok tysOk eqsOk (fC (body_Ease.ok k) (fC (fix_Add.ok k) (fC (fix_Mul.ok k) (fC (solve_over.ok k) (fC (vec_Dot.ok k) FnsOk.nil))))) (HsOk.cons (solve_solver_speed_h_2.ok k) HsOk.nil)
@[irreducible] noncomputable def solve_solver_row_2.P (k:Nat) (a1:V39) (a2:Int) (r1:(List V57)) (r2:(List V39)) (r3:(List V96)) (y:V96) (w:List Ans) (c0:List Cmd):Prop:=exec PR (solve_solver_row_2.cx k) solve_solver_row_2.code 4 (entryH (solve_solver_row_2.h k) (a1,a2,r1,r2,r3,())).st w (RetH (solve_solver_row_2.cx k) Tryz.f53 c0 (solve_solver_row_2.h k) (a1,a2,r1,r2,r3,()) y)
theorem solve_solver_row_2.way (k:Nat) (a1:V39) (a2:Int) (r1:(List V57)) (r2:(List V39)) (r3:(List V96)):Owp (solve_solver_row_2 k a1 a2 r1 r2 r3) fun y=>∃ w c0,solve_solver_row_2.P k a1 a2 r1 r2 r3 y w c0:=by
 unfold solve_solver_row_2; exact
  oR fun h1 =>
  oR fun h2 =>
  oB fun y3 e4 =>
  oB fun y5 e6 =>
  oB fun y7 e8 =>
  oB fun y9 e10 =>
  oB fun y11 e12 =>
  oB fun y13 e14 =>
  oB fun y15 e16 =>
  oB fun y17 e18 =>
  oB fun y19 e20 =>
  oB fun y21 e22 =>
  oF (fun e23 =>
  oB fun y24 e25 =>
  oB fun y26 e27 =>
  oS (⟨[rS T2 y3,rS T2 y5,rS T2 y7,rS T2 y9,rS T2 y11,rS T2 y13,rS T2 y15,rS T2 y17,.hres [(0,0),(1,1),(2,2),(3,3)] (.pair T39 (.pair (.slice T57) (.pair (.slice T39) (.pair (.slice T96) .unit)))) (a1,r1,r2,r3,()) T26 y19,rS T2 y21,tT,rS T2 y24,rS T2 y26],[],via (rethP (aI (aI (aI (aI (aI (aI (aI (aI (aI (aI (aI (aI (aI (aI (aI (aI (aI tv0 h1) h1) h2) h2) e4) e6) e8) e10) e12) e14) e16) e18) (callHP (solve_solver_speed_h_2.h k) [(0,0),(1,1),(2,2),(3,3)] (a1,r1,r2,r3,()) e20)) e22) e23) e25) e27) [(0,.cells (.pair .own (.pair .own (.pair .own .unit))) ((1:Nat),(2:Nat),(3:Nat),())),(1,.row T57 r1 58),(2,.row T39 r2 40),(3,.row T96 r3 97)] (.one (.dp T96)) ((((ineg .i64 a1.2.2.2.2.1.2.1),a1.2.2.2.2.1.1,()),y7,y13,y26,(imin (el Z57 r1 a1.1).2.2.2.2.2.2.2.1 (el Z57 r1 a1.2.1).2.2.2.2.2.2.2.1),()):V96)) (by kernel_rfl)⟩)) (fun e23 =>
  oS (⟨[rS T2 y3,rS T2 y5,rS T2 y7,rS T2 y9,rS T2 y11,rS T2 y13,rS T2 y15,rS T2 y17,.hres [(0,0),(1,1),(2,2),(3,3)] (.pair T39 (.pair (.slice T57) (.pair (.slice T39) (.pair (.slice T96) .unit)))) (a1,r1,r2,r3,()) T26 y19,rS T2 y21,fF],[],via (rethP (aI (aI (aI (aI (aI (aI (aI (aI (aI (aI (aI (aI (aI (aI (aI tv0 h1) h1) h2) h2) e4) e6) e8) e10) e12) e14) e16) e18) (callHP (solve_solver_speed_h_2.h k) [(0,0),(1,1),(2,2),(3,3)] (a1,r1,r2,r3,()) e20)) e22) e23) [(0,.cells (.pair .own (.pair .own (.pair .own .unit))) ((1:Nat),(2:Nat),(3:Nat),())),(1,.row T57 r1 58),(2,.row T39 r2 40),(3,.row T96 r3 97)] (.one (.dp T96)) ((((ineg .i64 a1.2.2.2.2.1.2.1),a1.2.2.2.2.1.1,()),y7,y13,y17,(imin (el Z57 r1 a1.1).2.2.2.2.2.2.2.1 (el Z57 r1 a1.2.1).2.2.2.2.2.2.2.1),()):V96)) (by kernel_rfl)⟩))
theorem solve_solver_row_2.ok (k:Nat):HOk PR 53 (solve_solver_row_2.h k) :=
 fnH_ok (solve_solver_row_2.cok k) hmix Tryz.func53 (code:=solve_solver_row_2.code) (by kernel_rfl) (by kernel_rfl) (by kernel_rfl) (by kernel_rfl) (by kernel_rfl) (by kernel_rfl) (fun x=>Nat.le_of_ble_eq_true (by kernel_rfl)) fun x y hy=>match (solve_solver_row_2.way k x.1 x.2.1 x.2.2.1 x.2.2.2.1 x.2.2.2.2.1).ap hy with | ⟨ans,c0,h⟩=>⟨ans,c0,via h (by kernel_rfl)⟩
noncomputable def solve_solver_push.code:Code:=Func.cd Tryz.f54
noncomputable def solve_solver_push (k:Nat) (a1:V39) (a2:V26) (r1:(List V57)) (r2:(List V39)) (r3:(List V96)):Option (List V57) :=
 req (inL a1.1 r1) <|bnd (body_Push k (el Z57 r1 a1.1) ((ineg .i64 a2.1),(ineg .i64 a2.2.1),()) a1.2.2.2.1) fun y2 =>
 req (inL a1.2.1 (st r1 a1.1 y2)) <|bnd (body_Push k (el Z57 (st r1 a1.1 y2) a1.2.1) a2 a1.2.2.2.1) fun y5 =>
 some (st (st r1 a1.1 y2) a1.2.1 y5)
noncomputable def solve_solver_push.h (k:Nat):Go.Sx.HSp:=⟨(.pair T39 (.pair T26 (.pair (.slice T57) (.pair (.slice T39) (.pair (.slice T96) .unit))))),(.slice T57),4,fun x=>[.lent (.val .ptr ⟨0,0,(0:Int),0,0⟩),.dat T39 x.1,.dat T26 x.2.1],fun x=>[(0,.cells (.pair .own (.pair .own (.pair .own .unit))) ((1:Nat),(2:Nat),(3:Nat),())),(1,.row T57 x.2.2.1 58),(2,.row T39 x.2.2.2.1 40),(3,.row T96 x.2.2.2.2.1 97)],fun x=>solve_solver_push k x.1 x.2.1 x.2.2.1 x.2.2.2.1 x.2.2.2.2.1,fun x y=>[(0,.cells (.pair .own (.pair .own (.pair .own .unit))) ((1:Nat),(2:Nat),(3:Nat),())),(1,.row T57 y 58),(2,.row T39 x.2.2.2.1 40),(3,.row T96 x.2.2.2.2.1 97)],.none,fun y=>(),false,false⟩
noncomputable def solve_solver_push.cx (k:Nat):Go.Sx.Ctx:=⟨tys,[(111,body_Push.sp k)],eqs,50,4,[],true⟩
theorem solve_solver_push.cok (k:Nat):CtxOk PR (solve_solver_push.cx k):=ctx_ok tysOk eqsOk (fC (body_Push.ok k) FnsOk.nil) HsOk.nil
@[irreducible] noncomputable def solve_solver_push.P (k:Nat) (a1:V39) (a2:V26) (r1:(List V57)) (r2:(List V39)) (r3:(List V96)) (y:(List V57)) (w:List Ans) (c0:List Cmd):Prop:=exec PR (solve_solver_push.cx k) solve_solver_push.code 4 (entryH (solve_solver_push.h k) (a1,a2,r1,r2,r3,())).st w (RetH (solve_solver_push.cx k) Tryz.f54 c0 (solve_solver_push.h k) (a1,a2,r1,r2,r3,()) y)
theorem solve_solver_push.way (k:Nat) (a1:V39) (a2:V26) (r1:(List V57)) (r2:(List V39)) (r3:(List V96)):Owp (solve_solver_push k a1 a2 r1 r2 r3) fun y=>∃ w c0,solve_solver_push.P k a1 a2 r1 r2 r3 y w c0:=by
 unfold solve_solver_push; exact
  oR fun h1 =>
  oB fun y2 e3 =>
  oR fun h4 =>
  oB fun y5 e6 =>
  oS (⟨[rS T57 y2,rS T57 y5],[],via (rethP (aI (aI (aI (aI (aI (aI (aI (aI (aI (aI tv0 h1) h1) e3) h1) h1) h4) h4) e6) h4) h4) [(0,.cells (.pair .own (.pair .own (.pair .own .unit))) ((1:Nat),(2:Nat),(3:Nat),())),(1,.row T57 (st (st r1 a1.1 y2) a1.2.1 y5) 58),(2,.row T39 r2 40),(3,.row T96 r3 97)] .none (():Unit)) (by kernel_rfl)⟩)
theorem solve_solver_push.ok (k:Nat):HOk PR 54 (solve_solver_push.h k) :=
 fnH_ok (solve_solver_push.cok k) hmix Tryz.func54 (code:=solve_solver_push.code) (by kernel_rfl) (by kernel_rfl) (by kernel_rfl) (by kernel_rfl) (by kernel_rfl) (by kernel_rfl) (fun x=>Nat.le_of_ble_eq_true (by kernel_rfl)) fun x y hy=>match (solve_solver_push.way k x.1 x.2.1 x.2.2.1 x.2.2.2.1 x.2.2.2.2.1).ap hy with | ⟨ans,c0,h⟩=>⟨ans,c0,via h (by kernel_rfl)⟩
noncomputable def solve_solver_round.code:Code:=Func.cd Tryz.f57
noncomputable def solve_solver_round.c1 (k:Nat) (a1:Int) (r1:(List V57)) (r2:(List V39)) (r3:(List V96)):Option (((List V57) × (List V39))) :=
 bif' (ine (el Z96 r3 a1).2.2.1 0)
 (req (inL a1 r2) <|bnd (fix_Mul k (el Z96 r3 a1).2.2.2.2.1 (el Z39 r2 a1).2.2.2.2.2.2.1) fun y5 =>
  bnd (solve_solver_speed_h_2 k (el Z39 r2 a1) r1 r2 r3) fun y7 =>
  bnd (vec_Dot k y7 (el Z96 r3 a1).1) fun y9 =>
  bnd (solve_over k y9 (el Z96 r3 a1).2.2.1) fun y11 =>
  bnd (fix_Sub k (el Z39 r2 a1).2.2.2.2.2.2.2.1 y11) fun y13 =>
  bnd (fix_Sub k (imin (imax y13 (ineg .i64 y5)) y5) (el Z39 r2 a1).2.2.2.2.2.2.2.1) fun y15 =>
  bnd (vec_Scale k (el Z96 r3 a1).1 y15) fun y17 =>
  bnd (solve_solver_push k (el Z39 r2 a1) y17 r1 r2 r3) fun y19 =>
  some (y19,(st r2 a1 ((el Z39 r2 a1).1,(el Z39 r2 a1).2.1,(el Z39 r2 a1).2.2.1,(el Z39 r2 a1).2.2.2.1,(el Z39 r2 a1).2.2.2.2.1,(el Z39 r2 a1).2.2.2.2.2.1,(el Z39 r2 a1).2.2.2.2.2.2.1,(imin (imax y13 (ineg .i64 y5)) y5),()))))
 (some (r1,r2))
noncomputable def solve_solver_round (k:Nat) (a1:Int) (r1:(List V57)) (r2:(List V39)) (r3:(List V96)):Option ((List V57) × (List V39)) :=
 req (inL a1 r2) <|req (inL a1 r3) <|bnd (solve_solver_round.c1 k a1 r1 r2 r3) fun o21 =>
 bif' (ine (el Z96 r3 a1).2.1 0)
 (req (inL a1 o21.2) <|bnd (solve_solver_speed_h_2 k (el Z39 o21.2 a1) o21.1 o21.2 r3) fun y25 =>
  bnd (vec_Dot k y25 (el Z39 o21.2 a1).2.2.2.2.1) fun y27 =>
  bnd (fix_Sub k (el Z96 r3 a1).2.2.2.1 y27) fun y29 =>
  bnd (solve_over k y29 (el Z96 r3 a1).2.1) fun y31 =>
  bnd (fix_Add k (el Z39 o21.2 a1).2.2.2.2.2.2.1 y31) fun y33 =>
  bnd (fix_Sub k (imax 0 y33) (el Z39 o21.2 a1).2.2.2.2.2.2.1) fun y35 =>
  bnd (vec_Scale k (el Z39 o21.2 a1).2.2.2.2.1 y35) fun y37 =>
  bnd (solve_solver_push k (el Z39 o21.2 a1) y37 o21.1 o21.2 r3) fun y39 =>
  some (y39,(st o21.2 a1 ((el Z39 o21.2 a1).1,(el Z39 o21.2 a1).2.1,(el Z39 o21.2 a1).2.2.1,(el Z39 o21.2 a1).2.2.2.1,(el Z39 o21.2 a1).2.2.2.2.1,(el Z39 o21.2 a1).2.2.2.2.2.1,(imax 0 y33),(el Z39 o21.2 a1).2.2.2.2.2.2.2))))
 (some (o21.1,o21.2))
noncomputable def solve_solver_round.h (k:Nat):Go.Sx.HSp:=⟨(.pair T2 (.pair (.slice T57) (.pair (.slice T39) (.pair (.slice T96) .unit)))),(.pair (.slice T57) (.slice T39)),4,fun x=>[.lent (.val .ptr ⟨0,0,(0:Int),0,0⟩),.dat T2 x.1],fun x=>[(0,.cells (.pair .own (.pair .own (.pair .own .unit))) ((1:Nat),(2:Nat),(3:Nat),())),(1,.row T57 x.2.1 58),(2,.row T39 x.2.2.1 40),(3,.row T96 x.2.2.2.1 97)],fun x=>solve_solver_round k x.1 x.2.1 x.2.2.1 x.2.2.2.1,fun x y=>[(0,.cells (.pair .own (.pair .own (.pair .own .unit))) ((1:Nat),(2:Nat),(3:Nat),())),(1,.row T57 y.1 58),(2,.row T39 y.2 40),(3,.row T96 x.2.2.2.1 97)],.none,fun y=>(),false,false⟩
noncomputable def solve_solver_round.cx (k:Nat):Go.Sx.Ctx:=⟨tys,[(108,fix_Mul.sp k),(109,vec_Dot.sp k),(107,solve_over.sp k),(112,fix_Sub.sp k),(56,vec_Scale.sp k),(105,fix_Add.sp k)],eqs,116,4,[(110,solve_solver_speed_h_2.h k),(54,solve_solver_push.h k)],true⟩
theorem solve_solver_round.cok (k:Nat):CtxOk PR (solve_solver_round.cx k):=ctx_ok tysOk eqsOk (fC (fix_Mul.ok k) (fC (vec_Dot.ok k) (fC (solve_over.ok k) (fC (fix_Sub.ok k) (fC (vec_Scale.ok k) (fC (fix_Add.ok k) FnsOk.nil)))))) (HsOk.cons (solve_solver_speed_h_2.ok k) (HsOk.cons (solve_solver_push.ok k) HsOk.nil))
noncomputable def solve_solver_round.c1p (a1:Int) (r1:(List V57)) (r2:(List V39)) (r3:(List V96)):SL:=⟨[(0,(.val .ptr ⟨0,0,(0:Int),0,0⟩)),(4,(.val .ptr ⟨2,0,a1,10,0⟩)),(5,(.val .ptr ⟨4,0,(0:Int),0,0⟩)),(24,(.val T4 (ine (el Z96 r3 a1).2.2.1 (0:Int))))],[(0,.cells (.pair .own (.pair .own (.pair .own .unit))) ((1:Nat),(2:Nat),(3:Nat),())),(1,.row T57 r1 58),(2,.row T39 r2 40),(3,.row T96 r3 97),(4,.cells T96 (el Z96 r3 a1))]⟩
noncomputable def solve_solver_round.c1q (a1:Int) (r3:(List V96)) (o:((List V57) × (List V39))):SL:=(fun v=>⟨[(0,(.val .ptr ⟨0,0,(0:Int),0,0⟩)),(4,(.val .ptr ⟨2,0,a1,10,0⟩)),(5,(.val .ptr ⟨4,0,(0:Int),0,0⟩))],[(0,.cells (.pair .own (.pair .own (.pair .own .unit))) ((1:Nat),(2:Nat),(3:Nat),())),(1,.row T57 v.1 58),(2,.row T39 v.2 40),(3,.row T96 r3 97),(4,.cells T96 (el Z96 r3 a1))]⟩) o
noncomputable def solve_solver_round.c1x (o:((List V57) × (List V39))):Ex:=(fun _=>.normal) o
noncomputable def solve_solver_round.c1n (o:((List V57) × (List V39))):Nat:=(fun _=>5) o
theorem solve_solver_round.c1_ok (k:Nat) (a1:Int) (r1:(List V57)) (r2:(List V39)) (r3:(List V96)):Owp (solve_solver_round.c1 k a1 r1 r2 r3) fun o=>Triple PR (solve_solver_round.cx k) (sub solve_solver_round.code [1,0,1]) 5 (solve_solver_round.c1p a1 r1 r2 r3) (solve_solver_round.c1x o) (solve_solver_round.c1n o) (solve_solver_round.c1q a1 r3 o):=by
 unfold solve_solver_round.c1; exact
  oF (fun e3 =>
  oR fun h4 =>
  oB fun y5 e6 =>
  oB fun y7 e8 =>
  oB fun y9 e10 =>
  oB fun y11 e12 =>
  oB fun y13 e14 =>
  oB fun y15 e16 =>
  oB fun y17 e18 =>
  oB fun y19 e20 =>
  oS (tW (solve_solver_round.cok k) hmix [tT,rS T2 y5,.hres [(0,0),(1,1),(2,2),(3,3)] (.pair T39 (.pair (.slice T57) (.pair (.slice T39) (.pair (.slice T96) .unit)))) ((el Z39 r2 a1),r1,r2,r3,()) T26 y7,rS T2 y9,rS T2 y11,rS T2 y13,rS T2 y15,rS T26 y17,.hres [(0,0),(1,1),(2,2),(3,3)] (.pair T39 (.pair T26 (.pair (.slice T57) (.pair (.slice T39) (.pair (.slice T96) .unit))))) ((el Z39 r2 a1),y17,r1,r2,r3,()) (.slice T57) y19] [] [(0,0),(1,1),(2,2),(3,3),(4,4)] (via (finP (aI (aI (aI (aI (aI (aI (aI (aI (aI (aI (aI (aI (aI (aI (aI tv0 e3) h4) e6) h4) h4) (callHP (solve_solver_speed_h_2.h k) [(0,0),(1,1),(2,2),(3,3)] ((el Z39 r2 a1),r1,r2,r3,()) e8)) e10) e12) e14) h4) h4) e16) e18) (callHP (solve_solver_push.h k) [(0,0),(1,1),(2,2),(3,3)] ((el Z39 r2 a1),y17,r1,r2,r3,()) e20)) h4) .normal [(0,0),(1,1),(2,2),(3,3),(4,4)] (solve_solver_round.c1q a1 r3 (y19,(st r2 a1 ((el Z39 r2 a1).1,(el Z39 r2 a1).2.1,(el Z39 r2 a1).2.2.1,(el Z39 r2 a1).2.2.2.1,(el Z39 r2 a1).2.2.2.2.1,(el Z39 r2 a1).2.2.2.2.2.1,(el Z39 r2 a1).2.2.2.2.2.2.1,(imin (imax y13 (ineg .i64 y5)) y5),()))))) (by kernel_rfl)))) (fun e3 =>
  oS (tW (solve_solver_round.cok k) hmix [fF] [] [(0,0),(1,1),(2,2),(3,3),(4,4)] (via (finP (aI tv0 e3) .normal [(0,0),(1,1),(2,2),(3,3),(4,4)] (solve_solver_round.c1q a1 r3 (r1,r2))) (by kernel_rfl))))
@[irreducible] noncomputable def solve_solver_round.P (k:Nat) (a1:Int) (r1:(List V57)) (r2:(List V39)) (r3:(List V96)) (y:((List V57) × (List V39))) (w:List Ans) (c0:List Cmd):Prop:=exec PR (solve_solver_round.cx k) solve_solver_round.code 4 (entryH (solve_solver_round.h k) (a1,r1,r2,r3,())).st w (RetH (solve_solver_round.cx k) Tryz.f57 c0 (solve_solver_round.h k) (a1,r1,r2,r3,()) y)
theorem solve_solver_round.way (k:Nat) (a1:Int) (r1:(List V57)) (r2:(List V39)) (r3:(List V96)):Owp (solve_solver_round k a1 r1 r2 r3) fun y=>∃ w c0,solve_solver_round.P k a1 r1 r2 r3 y w c0:=by
 unfold solve_solver_round; exact
  oR fun h1 =>
  oR fun h2 =>
  oB fun o21 e22 =>
  oF (fun e23 =>
  oR fun h24 =>
  oB fun y25 e26 =>
  oB fun y27 e28 =>
  oB fun y29 e30 =>
  oB fun y31 e32 =>
  oB fun y33 e34 =>
  oB fun y35 e36 =>
  oB fun y37 e38 =>
  oB fun y39 e40 =>
  oS (⟨[.cut ⟨[],[(0,0),(1,1),(2,2),(3,3),(4,17)],(solve_solver_round.c1p a1 r1 r2 r3),5,.normal,(solve_solver_round.c1q a1 r3 o21),5⟩,tT,.hres [(0,0),(1,1),(2,2),(3,3)] (.pair T39 (.pair (.slice T57) (.pair (.slice T39) (.pair (.slice T96) .unit)))) ((el Z39 o21.2 a1),o21.1,o21.2,r3,()) T26 y25,rS T2 y27,rS T2 y29,rS T2 y31,rS T2 y33,rS T2 y35,rS T26 y37,.hres [(0,0),(1,1),(2,2),(3,3)] (.pair T39 (.pair T26 (.pair (.slice T57) (.pair (.slice T39) (.pair (.slice T96) .unit))))) ((el Z39 o21.2 a1),y37,o21.1,o21.2,r3,()) (.slice T57) y39],[],via (cutP (aI (aI (aI tv0 h1) h2) h2) [(0,0),(1,1),(2,2),(3,3),(4,17)] (solve_solver_round.c1p a1 r1 r2 r3) (((solve_solver_round.c1_ok k a1 r1 r2 r3).ap e22)) (rethP (aI (aI (aI (aI (aI (aI (aI (aI (aI (aI (aI (aI (aI (aI (aI (aI tv0 e23) h24) h24) (callHP (solve_solver_speed_h_2.h k) [(0,0),(1,1),(2,2),(3,3)] ((el Z39 o21.2 a1),o21.1,o21.2,r3,()) e26)) h24) e28) e30) e32) e34) h24) h24) h24) e36) e38) (callHP (solve_solver_push.h k) [(0,0),(1,1),(2,2),(3,3)] ((el Z39 o21.2 a1),y37,o21.1,o21.2,r3,()) e40)) h24) [(0,.cells (.pair .own (.pair .own (.pair .own .unit))) ((1:Nat),(2:Nat),(3:Nat),())),(1,.row T57 y39 58),(2,.row T39 (st o21.2 a1 ((el Z39 o21.2 a1).1,(el Z39 o21.2 a1).2.1,(el Z39 o21.2 a1).2.2.1,(el Z39 o21.2 a1).2.2.2.1,(el Z39 o21.2 a1).2.2.2.2.1,(el Z39 o21.2 a1).2.2.2.2.2.1,(imax (0:Int) y33),(el Z39 o21.2 a1).2.2.2.2.2.2.2)) 40),(3,.row T96 r3 97)] .none (():Unit))) (by kernel_rfl)⟩)) (fun e23 =>
  oS (⟨[.cut ⟨[],[(0,0),(1,1),(2,2),(3,3),(4,17)],(solve_solver_round.c1p a1 r1 r2 r3),5,.normal,(solve_solver_round.c1q a1 r3 o21),5⟩,fF],[],via (cutP (aI (aI (aI tv0 h1) h2) h2) [(0,0),(1,1),(2,2),(3,3),(4,17)] (solve_solver_round.c1p a1 r1 r2 r3) (((solve_solver_round.c1_ok k a1 r1 r2 r3).ap e22)) (rethP (aI tv0 e23) [(0,.cells (.pair .own (.pair .own (.pair .own .unit))) ((1:Nat),(2:Nat),(3:Nat),())),(1,.row T57 o21.1 58),(2,.row T39 o21.2 40),(3,.row T96 r3 97)] .none (():Unit))) (by kernel_rfl)⟩))
theorem solve_solver_round.ok (k:Nat):HOk PR 57 (solve_solver_round.h k) :=
 fnH_ok (solve_solver_round.cok k) hmix Tryz.func57 (code:=solve_solver_round.code) (by kernel_rfl) (by kernel_rfl) (by kernel_rfl) (by kernel_rfl) (by kernel_rfl) (by kernel_rfl) (fun x=>Nat.le_of_ble_eq_true (by kernel_rfl)) fun x y hy=>match (solve_solver_round.way k x.1 x.2.1 x.2.2.1 x.2.2.2.1).ap hy with | ⟨ans,c0,h⟩=>⟨ans,c0,via h (by kernel_rfl)⟩
noncomputable def solve_Run.code:Code:=Func.cd Tryz.f25
noncomputable def solve_Run.c1 (k:Nat) (a2 a3:Int):Option (Bool) :=
 bif' (ilt a2 1)
 (some true)
 (bif' (igt a2 65536)
  (some true)
  (bif' (ilt a3 0)
  (some true)
  (some (igt a3 32))))
noncomputable def solve_Run.c2 (k:Nat) (a0:(List V57)):Nat→Int→(List V57)→Option ((List V57))
 | 0,_,_=>none
 | n+1,v12,v13 =>
  bif' (ilt v12 (len a0))
  (req (inL v12 a0) <|bnd (slices_Clone_52 k (el Z57 a0 v12).2.2.2.2.2.2.2.2.1) fun y16 =>
  req (room 120 v13 [((el Z57 a0 v12).1,(el Z57 a0 v12).2.1,(el Z57 a0 v12).2.2.1,(el Z57 a0 v12).2.2.2.1,(el Z57 a0 v12).2.2.2.2.1,(el Z57 a0 v12).2.2.2.2.2.1,(el Z57 a0 v12).2.2.2.2.2.2.1,(el Z57 a0 v12).2.2.2.2.2.2.2.1,y16,(el Z57 a0 v12).2.2.2.2.2.2.2.2.2)]) <|solve_Run.c2 k a0 n (iadd .i64 v12 1) (v13++[((el Z57 a0 v12).1,(el Z57 a0 v12).2.1,(el Z57 a0 v12).2.2.1,(el Z57 a0 v12).2.2.2.1,(el Z57 a0 v12).2.2.2.2.1,(el Z57 a0 v12).2.2.2.2.2.1,(el Z57 a0 v12).2.2.2.2.2.2.1,(el Z57 a0 v12).2.2.2.2.2.2.2.1,y16,(el Z57 a0 v12).2.2.2.2.2.2.2.2.2)]))
  (some v13)
noncomputable def solve_Run.c3 (k:Nat) (a2:Int) (o19:(List V57)) (y10:(List V39)):Nat→Int→(List V96)→Option ((List V96))
 | 0,_,_=>none
 | n+1,v21,v22 =>
  bif' (ilt v21 (len y10))
  (req (inL v21 y10) <|bnd (solve_solver_row_2 k (el Z39 y10 v21) a2 o19 y10 v22) fun y25 =>
  req (room 48 v22 [y25]) <|solve_Run.c3 k a2 o19 y10 n (iadd .i64 v21 1) (v22++[y25]))
  (some v22)
noncomputable def solve_Run.c4 (k:Nat) (o28:(List V96)) (y10:(List V39)):Nat→Int→(List V57)→Option ((List V57))
 | 0,_,_=>none
 | n+1,v30,v31 =>
  bif' (ilt v30 (len y10))
  (req (inL v30 y10) <|bnd (vec_Scale k (el Z39 y10 v30).2.2.2.2.1 (el Z39 y10 v30).2.2.2.2.2.2.1) fun y34 =>
  req (inL v30 o28) <|bnd (vec_Scale k (el Z96 o28 v30).1 (el Z39 y10 v30).2.2.2.2.2.2.2.1) fun y37 =>
  bnd (vec_Add k y34 y37) fun y39 =>
  bnd (solve_solver_push k (el Z39 y10 v30) y39 v31 y10 o28) fun y41 =>
  solve_Run.c4 k o28 y10 n (iadd .i64 v30 1) y41)
  (some v31)
noncomputable def solve_Run.c6 (k:Nat) (o28:(List V96)) (v47:(List V39)):Nat→Int→(List V57)→(List V39)→Option (((List V57) × (List V39)))
 | 0,_,_,_=>none
 | n+1,v49,v50,v51 =>
  bif' (ilt v49 (len v47))
  (bnd (solve_solver_round k v49 v50 v51 o28) fun y53 =>
  solve_Run.c6 k o28 v47 n (iadd .i64 v49 1) y53.1 y53.2)
  (some (v50,v51))
noncomputable def solve_Run.c5 (k:Nat) (a3:Int) (o28:(List V96)):Nat→Int→(List V57)→(List V39)→Option (((List V57) × (List V39)))
 | 0,_,_,_=>none
 | n+1,v45,v46,v47 =>
  bif' (ilt v45 a3)
  (bnd (solve_Run.c6 k o28 v47 k 0 v46 v47) fun o55 =>
  solve_Run.c5 k a3 o28 n (iadd .i64 v45 1) o55.1 o55.2)
  (some (v46,v47))
noncomputable def solve_Run (k:Nat) (a0:(List V57)) (a1:(List V39)) (a2 a3:Int):Option ((List V57) × ((List V39) × Int)) :=
 bnd (solve_Check k a0 a1) fun y1 =>
 bif' (ine y1 0)
 (some ([],[],y1))
 (bnd (solve_Run.c1 k a2 a3) fun o7 =>
  bif' o7
  (some ([],[],1))
  (bnd (slices_Clone k a1) fun y10 =>
  bnd (solve_Run.c2 k a0 k 0 []) fun o19 =>
  bnd (solve_Run.c3 k a2 o19 y10 k 0 []) fun o28 =>
  bnd (solve_Run.c4 k o28 y10 k 0 o19) fun o43 =>
  bnd (solve_Run.c5 k a3 o28 k 0 o43 y10) fun o57 =>
  some (o57.1,o57.2,0)))
noncomputable def solve_Run.sp (k:Nat):Go.Sx.Spec:=⟨(.pair (.slice T57) (.pair (.slice T39) T26)),(.more (.ow T57 58) (.more (.dp (.slice T39)) (.one (.dp T2)))),fun x=>solve_Run k x.1 x.2.1 x.2.2.1 x.2.2.2.1,false⟩
noncomputable def solve_Run.cx (k:Nat):Go.Sx.Ctx:=⟨tys,[(51,solve_Check.sp k),(11,slices_Clone.sp k),(52,(slices_Clone_52.sp k).frz),(56,vec_Scale.sp k),(55,vec_Add.sp k)],eqs,143,0,[(53,solve_solver_row_2.h k),(54,solve_solver_push.h k),(57,solve_solver_round.h k)],true⟩
theorem solve_Run.cok (k:Nat):CtxOk PR (solve_Run.cx k):=ctx_ok tysOk eqsOk (fC (solve_Check.ok k) (fC (slices_Clone.ok k) (fC (FnOk.frz rfl (slices_Clone_52.ok k)) (fC (vec_Scale.ok k) (fC (vec_Add.ok k) FnsOk.nil))))) (HsOk.cons (solve_solver_row_2.ok k) (HsOk.cons (solve_solver_push.ok k) (HsOk.cons (solve_solver_round.ok k) HsOk.nil)))
noncomputable def solve_Run.c1p (a0:(List V57)) (a1:(List V39)) (a2 a3:Int):SL:=⟨[(0,(.val (.slice T57) a0)),(1,(.val (.slice T39) a1)),(2,(.val T2 a2)),(3,(.val T2 a3))],[]⟩
noncomputable def solve_Run.c1q (a0:(List V57)) (a1:(List V39)) (a2 a3:Int) (o:Bool):SL:=(fun v=>⟨[(0,(.val (.slice T57) a0)),(1,(.val (.slice T39) a1)),(2,(.val T2 a2)),(3,(.val T2 a3)),(39,(.val T4 v))],[]⟩) o
noncomputable def solve_Run.c1x (o:Bool):Ex:=(fun _=>.normal) o
noncomputable def solve_Run.c1n (o:Bool):Nat:=(fun _=>0) o
theorem solve_Run.c1_ok (k:Nat) (a0:(List V57)) (a1:(List V39)) (a2 a3:Int):Owp (solve_Run.c1 k a2 a3) fun o=>Triple PR (solve_Run.cx k) (sub solve_Run.code [1,1,0,0]) 0 (solve_Run.c1p a0 a1 a2 a3) (solve_Run.c1x o) (solve_Run.c1n o) (solve_Run.c1q a0 a1 a2 a3 o):=by
 unfold solve_Run.c1; exact
  oF (fun e4 =>
  oS (tW (solve_Run.cok k) hmix [tT,tT,tT,tT,tT,tT,tT,tT,tT] [] [] (via (finP (aI (aI (aI (aI (aI (aI (aI (aI (aI tv0 e4) e4) e4) tt) tt) tt) tt) tt) tt) .normal [] (solve_Run.c1q a0 a1 a2 a3 true)) (by kernel_rfl)))) (fun e4 =>
  oF (fun e5 =>
  oS (tW (solve_Run.cok k) hmix [fF,fF,fF,tT,tT,tT,tT,tT,tT] [] [] (via (finP (aI (aI (aI (aI (aI (aI (aI (aI (aI tv0 e4) e4) e4) e5) e5) e5) tt) tt) tt) .normal [] (solve_Run.c1q a0 a1 a2 a3 true)) (by kernel_rfl)))) (fun e5 =>
  oF (fun e6 =>
  oS (tW (solve_Run.cok k) hmix [fF,fF,fF,fF,fF,fF,tT,tT,tT] [] [] (via (finP (aI (aI (aI (aI (aI (aI (aI (aI (aI tv0 e4) e4) e4) e5) e5) e5) e6) e6) e6) .normal [] (solve_Run.c1q a0 a1 a2 a3 true)) (by kernel_rfl)))) (fun e6 =>
  oS (tW (solve_Run.cok k) hmix [fF,fF,fF,fF,fF,fF,fF,fF,fF] [] [] (via (finP (aI (aI (aI (aI (aI (aI (aI (aI (aI tv0 e4) e4) e4) e5) e5) e5) e6) e6) e6) .normal [] (solve_Run.c1q a0 a1 a2 a3 (igt a3 (32:Int)))) (by kernel_rfl))))))
noncomputable def solve_Run.c2p (a0:(List V57)) (a2 a3:Int) (y10:(List V39)) (v12:Int) (v13:(List V57)):SL:=⟨[(2,(.val T2 a2)),(3,(.val T2 a3)),(12,(.val .ptr ⟨0,0,(0:Int),0,0⟩)),(44,(.val (.slice T57) a0)),(45,(.val T2 (len a0))),(46,(.val T2 v12))],[(0,.cells (.pair .own (.pair .own (.pair .nil .unit))) ((1:Nat),(2:Nat),((),()))),(1,.row T57 v13 58),(2,.row T39 y10 40)]⟩
noncomputable def solve_Run.c2q (a2 a3:Int) (y10:(List V39)) (o:(List V57)):SL:=(fun v=>⟨[(2,(.val T2 a2)),(3,(.val T2 a3)),(12,(.val .ptr ⟨0,0,(0:Int),0,0⟩))],[(0,.cells (.pair .own (.pair .own (.pair .nil .unit))) ((1:Nat),(2:Nat),((),()))),(1,.row T57 v 58),(2,.row T39 y10 40)]⟩) o
noncomputable def solve_Run.c2x (o:(List V57)):Ex:=(fun _=>(.exit 0)) o
noncomputable def solve_Run.c2n (o:(List V57)):Nat:=(fun _=>3) o
theorem solve_Run.c2_ok (k:Nat) (a0:(List V57)) (a2 a3:Int) (y10:(List V39)):∀ (n:Nat) (v12:Int) (v13:(List V57)),Owp (solve_Run.c2 k a0 n v12 v13) fun o=>LTriple PR (solve_Run.cx k) (sub solve_Run.code [1,1,1,1,0,1,0,0]) 3 (solve_Run.c2p a0 a2 a3 y10 v12 v13) (solve_Run.c2x o) (solve_Run.c2n o) (solve_Run.c2q a2 a3 y10 o)
 | 0,_,_=>fun _ h=>nomatch h
 | n+1,v12,v13=>Owp.of (solve_Run.c2.eq_2 ..) (
  oF (fun e14 =>
  oR fun h15 =>
  oB fun y16 e17 =>
  oR fun h18 =>
  fun y hy=>loop_back (solve_Run.cok k) hmix 3 (solve_Run.c2p a0 a2 a3 y10 (iadd .i64 v12 (1:Int)) (v13++[((el Z57 a0 v12).1,(el Z57 a0 v12).2.1,(el Z57 a0 v12).2.2.1,(el Z57 a0 v12).2.2.2.1,(el Z57 a0 v12).2.2.2.2.1,(el Z57 a0 v12).2.2.2.2.2.1,(el Z57 a0 v12).2.2.2.2.2.2.1,(el Z57 a0 v12).2.2.2.2.2.2.2.1,y16,(el Z57 a0 v12).2.2.2.2.2.2.2.2.2)])) [tT,rS T56 y16,tT] [] [(0,0),(1,20),(2,2)] (via (finP (aI (aI (aI (aI tv0 e14) h15) e17) h18) .normal [(0,0),(1,20),(2,2)] (solve_Run.c2p a0 a2 a3 y10 (iadd .i64 v12 (1:Int)) (v13++[((el Z57 a0 v12).1,(el Z57 a0 v12).2.1,(el Z57 a0 v12).2.2.1,(el Z57 a0 v12).2.2.2.1,(el Z57 a0 v12).2.2.2.2.1,(el Z57 a0 v12).2.2.2.2.2.1,(el Z57 a0 v12).2.2.2.2.2.2.1,(el Z57 a0 v12).2.2.2.2.2.2.2.1,y16,(el Z57 a0 v12).2.2.2.2.2.2.2.2.2)]))) (by kernel_rfl)) ((solve_Run.c2_ok k a0 a2 a3 y10 n (iadd .i64 v12 (1:Int)) (v13++[((el Z57 a0 v12).1,(el Z57 a0 v12).2.1,(el Z57 a0 v12).2.2.1,(el Z57 a0 v12).2.2.2.1,(el Z57 a0 v12).2.2.2.2.1,(el Z57 a0 v12).2.2.2.2.2.1,(el Z57 a0 v12).2.2.2.2.2.2.1,(el Z57 a0 v12).2.2.2.2.2.2.2.1,y16,(el Z57 a0 v12).2.2.2.2.2.2.2.2.2)])).ap hy)) (fun e14 =>
  oS (loop_exit (solve_Run.cok k) hmix [fF] [] [(0,0),(1,1),(2,2)] (exne 0) (via (finP (aI tv0 e14) (.exit 0) [(0,0),(1,1),(2,2)] (solve_Run.c2q a2 a3 y10 v13)) (by kernel_rfl)))))
noncomputable def solve_Run.c3p (a2 a3:Int) (o19:(List V57)) (y10:(List V39)) (v21:Int) (v22:(List V96)):SL:=⟨[(2,(.val T2 a2)),(3,(.val T2 a3)),(12,(.val .ptr ⟨0,0,(0:Int),0,0⟩)),(68,(.val .own (1:Nat))),(69,(.val T2 (len y10))),(70,(.val T2 v21))],[(0,.cells (.pair .own (.pair .own (.pair .own .unit))) ((2:Nat),(1:Nat),(3:Nat),())),(1,.row T39 y10 40),(2,.row T57 o19 58),(3,.row T96 v22 97)]⟩
noncomputable def solve_Run.c3q (a3:Int) (o19:(List V57)) (y10:(List V39)) (o:(List V96)):SL:=(fun v=>⟨[(3,(.val T2 a3)),(12,(.val .ptr ⟨0,0,(0:Int),0,0⟩))],[(0,.cells (.pair .own (.pair .own (.pair .own .unit))) ((1:Nat),(2:Nat),(3:Nat),())),(1,.row T57 o19 58),(2,.row T39 y10 40),(3,.row T96 v 97)]⟩) o
noncomputable def solve_Run.c3x (o:(List V96)):Ex:=(fun _=>(.exit 2)) o
noncomputable def solve_Run.c3n (o:(List V96)):Nat:=(fun _=>4) o
theorem solve_Run.c3_ok (k:Nat) (a2 a3:Int) (o19:(List V57)) (y10:(List V39)):∀ (n:Nat) (v21:Int) (v22:(List V96)),Owp (solve_Run.c3 k a2 o19 y10 n v21 v22) fun o=>LTriple PR (solve_Run.cx k) (sub solve_Run.code [1,1,1,1,1,0,1,0,0]) 4 (solve_Run.c3p a2 a3 o19 y10 v21 v22) (solve_Run.c3x o) (solve_Run.c3n o) (solve_Run.c3q a3 o19 y10 o)
 | 0,_,_=>fun _ h=>nomatch h
 | n+1,v21,v22=>Owp.of (solve_Run.c3.eq_2 ..) (
  oF (fun e23 =>
  oR fun h24 =>
  oB fun y25 e26 =>
  oR fun h27 =>
  fun y hy=>loop_back (solve_Run.cok k) hmix 4 (solve_Run.c3p a2 a3 o19 y10 (iadd .i64 v21 (1:Int)) (v22++[y25])) [tT,.hres [(0,0),(1,2),(2,1),(3,3)] (.pair T39 (.pair T2 (.pair (.slice T57) (.pair (.slice T39) (.pair (.slice T96) .unit))))) ((el Z39 y10 v21),a2,o19,y10,v22,()) T96 y25,tT] [] [(0,0),(1,1),(2,2),(3,19)] (via (finP (aI (aI (aI (aI (aI tv0 e23) h24) h24) (callHP (solve_solver_row_2.h k) [(0,0),(1,2),(2,1),(3,3)] ((el Z39 y10 v21),a2,o19,y10,v22,()) e26)) h27) .normal [(0,0),(1,1),(2,2),(3,19)] (solve_Run.c3p a2 a3 o19 y10 (iadd .i64 v21 (1:Int)) (v22++[y25]))) (by kernel_rfl)) ((solve_Run.c3_ok k a2 a3 o19 y10 n (iadd .i64 v21 (1:Int)) (v22++[y25])).ap hy)) (fun e23 =>
  oS (loop_exit (solve_Run.cok k) hmix [fF] [] [(0,0),(1,2),(2,1),(3,3)] (exne 2) (via (finP (aI tv0 e23) (.exit 2) [(0,0),(1,2),(2,1),(3,3)] (solve_Run.c3q a3 o19 y10 v22)) (by kernel_rfl)))))
noncomputable def solve_Run.c4p (a3:Int) (o28:(List V96)) (y10:(List V39)) (v30:Int) (v31:(List V57)):SL:=⟨[(3,(.val T2 a3)),(12,(.val .ptr ⟨0,0,(0:Int),0,0⟩)),(91,(.val .own (1:Nat))),(92,(.val T2 (len y10))),(93,(.val T2 v30))],[(0,.cells (.pair .own (.pair .own (.pair .own .unit))) ((2:Nat),(1:Nat),(3:Nat),())),(1,.row T39 y10 40),(2,.row T57 v31 58),(3,.row T96 o28 97)]⟩
noncomputable def solve_Run.c4q (a3:Int) (o28:(List V96)) (y10:(List V39)) (o:(List V57)):SL:=(fun v=>⟨[(3,(.val T2 a3)),(12,(.val .ptr ⟨0,0,(0:Int),0,0⟩))],[(0,.cells (.pair .own (.pair .own (.pair .own .unit))) ((1:Nat),(2:Nat),(3:Nat),())),(1,.row T57 v 58),(2,.row T39 y10 40),(3,.row T96 o28 97)]⟩) o
noncomputable def solve_Run.c4x (o:(List V57)):Ex:=(fun _=>(.exit 4)) o
noncomputable def solve_Run.c4n (o:(List V57)):Nat:=(fun _=>4) o
theorem solve_Run.c4_ok (k:Nat) (a3:Int) (o28:(List V96)) (y10:(List V39)):∀ (n:Nat) (v30:Int) (v31:(List V57)),Owp (solve_Run.c4 k o28 y10 n v30 v31) fun o=>LTriple PR (solve_Run.cx k) (sub solve_Run.code [1,1,1,1,1,1,0,1,0,0]) 4 (solve_Run.c4p a3 o28 y10 v30 v31) (solve_Run.c4x o) (solve_Run.c4n o) (solve_Run.c4q a3 o28 y10 o)
 | 0,_,_=>fun _ h=>nomatch h
 | n+1,v30,v31=>Owp.of (solve_Run.c4.eq_2 ..) (
  oF (fun e32 =>
  oR fun h33 =>
  oB fun y34 e35 =>
  oR fun h36 =>
  oB fun y37 e38 =>
  oB fun y39 e40 =>
  oB fun y41 e42 =>
  fun y hy=>loop_back (solve_Run.cok k) hmix 4 (solve_Run.c4p a3 o28 y10 (iadd .i64 v30 (1:Int)) y41) [tT,rS T26 y34,rS T26 y37,rS T26 y39,.hres [(0,0),(1,2),(2,1),(3,3)] (.pair T39 (.pair T26 (.pair (.slice T57) (.pair (.slice T39) (.pair (.slice T96) .unit))))) ((el Z39 y10 v30),y39,v31,y10,o28,()) (.slice T57) y41] [] [(0,0),(1,1),(2,2),(3,3)] (via (finP (aI (aI (aI (aI (aI (aI (aI (aI (aI tv0 e32) h33) h33) e35) h36) h36) e38) e40) (callHP (solve_solver_push.h k) [(0,0),(1,2),(2,1),(3,3)] ((el Z39 y10 v30),y39,v31,y10,o28,()) e42)) .normal [(0,0),(1,1),(2,2),(3,3)] (solve_Run.c4p a3 o28 y10 (iadd .i64 v30 (1:Int)) y41)) (by kernel_rfl)) ((solve_Run.c4_ok k a3 o28 y10 n (iadd .i64 v30 (1:Int)) y41).ap hy)) (fun e32 =>
  oS (loop_exit (solve_Run.cok k) hmix [fF] [] [(0,0),(1,2),(2,1),(3,3)] (exne 4) (via (finP (aI tv0 e32) (.exit 4) [(0,0),(1,2),(2,1),(3,3)] (solve_Run.c4q a3 o28 y10 v31)) (by kernel_rfl)))))
noncomputable def solve_Run.c6p (a3:Int) (o28:(List V96)) (v45:Int) (v47:(List V39)) (v49:Int) (v50:(List V57)) (v51:(List V39)):SL:=⟨[(12,(.val .ptr ⟨0,0,(0:Int),0,0⟩)),(119,(.val T2 a3)),(120,(.val T2 v45)),(126,(.val T2 (len v47))),(127,(.val T2 v49))],[(0,.cells (.pair .own (.pair .own (.pair .own .unit))) ((1:Nat),(2:Nat),(3:Nat),())),(1,.row T57 v50 58),(2,.row T39 v51 40),(3,.row T96 o28 97)]⟩
noncomputable def solve_Run.c6q (a3:Int) (o28:(List V96)) (v45:Int) (o:((List V57) × (List V39))):SL:=(fun v=>⟨[(12,(.val .ptr ⟨0,0,(0:Int),0,0⟩)),(119,(.val T2 a3)),(120,(.val T2 v45))],[(0,.cells (.pair .own (.pair .own (.pair .own .unit))) ((1:Nat),(2:Nat),(3:Nat),())),(1,.row T57 v.1 58),(2,.row T39 v.2 40),(3,.row T96 o28 97)]⟩) o
noncomputable def solve_Run.c6x (o:((List V57) × (List V39))):Ex:=(fun _=>(.exit 8)) o
noncomputable def solve_Run.c6n (o:((List V57) × (List V39))):Nat:=(fun _=>4) o
theorem solve_Run.c6_ok (k:Nat) (a3:Int) (o28:(List V96)) (v45:Int) (v47:(List V39)):∀ (n:Nat) (v49:Int) (v50:(List V57)) (v51:(List V39)),Owp (solve_Run.c6 k o28 v47 n v49 v50 v51) fun o=>LTriple PR (solve_Run.cx k) (sub solve_Run.code [1,1,1,1,1,1,1,0,1,0,0,1,1,0,0,1,0,0]) 4 (solve_Run.c6p a3 o28 v45 v47 v49 v50 v51) (solve_Run.c6x o) (solve_Run.c6n o) (solve_Run.c6q a3 o28 v45 o)
 | 0,_,_,_=>fun _ h=>nomatch h
 | n+1,v49,v50,v51=>Owp.of (solve_Run.c6.eq_2 ..) (
  oF (fun e52 =>
  oB fun y53 e54 =>
  fun y hy=>loop_back (solve_Run.cok k) hmix 4 (solve_Run.c6p a3 o28 v45 v47 (iadd .i64 v49 (1:Int)) y53.1 y53.2) [tT,.hres [(0,0),(1,1),(2,2),(3,3)] (.pair T2 (.pair (.slice T57) (.pair (.slice T39) (.pair (.slice T96) .unit)))) (v49,v50,v51,o28,()) (.pair (.slice T57) (.slice T39)) y53] [] [(0,0),(1,1),(2,2),(3,3)] (via (finP (aI (aI tv0 e52) (callHP (solve_solver_round.h k) [(0,0),(1,1),(2,2),(3,3)] (v49,v50,v51,o28,()) e54)) .normal [(0,0),(1,1),(2,2),(3,3)] (solve_Run.c6p a3 o28 v45 v47 (iadd .i64 v49 (1:Int)) y53.1 y53.2)) (by kernel_rfl)) ((solve_Run.c6_ok k a3 o28 v45 v47 n (iadd .i64 v49 (1:Int)) y53.1 y53.2).ap hy)) (fun e52 =>
  oS (loop_exit (solve_Run.cok k) hmix [fF] [] [(0,0),(1,1),(2,2),(3,3)] (exne 8) (via (finP (aI tv0 e52) (.exit 8) [(0,0),(1,1),(2,2),(3,3)] (solve_Run.c6q a3 o28 v45 (v50,v51))) (by kernel_rfl)))))
noncomputable def solve_Run.c5p (a3:Int) (o28:(List V96)) (v45:Int) (v46:(List V57)) (v47:(List V39)):SL:=⟨[(12,(.val .ptr ⟨0,0,(0:Int),0,0⟩)),(119,(.val T2 a3)),(120,(.val T2 v45))],[(0,.cells (.pair .own (.pair .own (.pair .own .unit))) ((1:Nat),(2:Nat),(3:Nat),())),(1,.row T57 v46 58),(2,.row T39 v47 40),(3,.row T96 o28 97)]⟩
noncomputable def solve_Run.c5q (o28:(List V96)) (o:((List V57) × (List V39))):SL:=(fun v=>⟨[(12,(.val .ptr ⟨0,0,(0:Int),0,0⟩))],[(0,.cells (.pair .own (.pair .own (.pair .own .unit))) ((1:Nat),(2:Nat),(3:Nat),())),(1,.row T57 v.1 58),(2,.row T39 v.2 40),(3,.row T96 o28 97)]⟩) o
noncomputable def solve_Run.c5x (o:((List V57) × (List V39))):Ex:=(fun _=>(.exit 6)) o
noncomputable def solve_Run.c5n (o:((List V57) × (List V39))):Nat:=(fun _=>4) o
theorem solve_Run.c5_ok (k:Nat) (a3:Int) (o28:(List V96)):∀ (n:Nat) (v45:Int) (v46:(List V57)) (v47:(List V39)),Owp (solve_Run.c5 k a3 o28 n v45 v46 v47) fun o=>LTriple PR (solve_Run.cx k) (sub solve_Run.code [1,1,1,1,1,1,1,0,1,0,0]) 4 (solve_Run.c5p a3 o28 v45 v46 v47) (solve_Run.c5x o) (solve_Run.c5n o) (solve_Run.c5q o28 o)
 | 0,_,_,_=>fun _ h=>nomatch h
 | n+1,v45,v46,v47=>Owp.of (solve_Run.c5.eq_2 ..) (
  oF (fun e48 =>
  oB fun o55 e56 =>
  fun y hy=>loop_back (solve_Run.cok k) hmix 4 (solve_Run.c5p a3 o28 (iadd .i64 v45 (1:Int)) o55.1 o55.2) [tT,.cut ⟨[],[(0,0),(1,1),(2,2),(3,3)],(solve_Run.c6p a3 o28 v45 v47 (0:Int) v46 v47),4,(.exit 8),(solve_Run.c6q a3 o28 v45 o55),4⟩] [] [(0,0),(1,1),(2,2),(3,3)] (via (cutP (aI tv0 e48) [(0,0),(1,1),(2,2),(3,3)] (solve_Run.c6p a3 o28 v45 v47 (0:Int) v46 v47) (((solve_Run.c6_ok k a3 o28 v45 v47 k (0:Int) v46 v47).ap e56).triple) (finP tv0 .normal [(0,0),(1,1),(2,2),(3,3)] (solve_Run.c5p a3 o28 (iadd .i64 v45 (1:Int)) o55.1 o55.2))) (by kernel_rfl)) ((solve_Run.c5_ok k a3 o28 n (iadd .i64 v45 (1:Int)) o55.1 o55.2).ap hy)) (fun e48 =>
  oS (loop_exit (solve_Run.cok k) hmix [fF] [] [(0,0),(1,1),(2,2),(3,3)] (exne 6) (via (finP (aI tv0 e48) (.exit 6) [(0,0),(1,1),(2,2),(3,3)] (solve_Run.c5q o28 (v46,v47))) (by kernel_rfl)))))
theorem solve_Run.way (k:Nat) (a0:(List V57)) (a1:(List V39)) (a2 a3:Int):Owp (solve_Run k a0 a1 a2 a3) fun y=>∃ w c0,exec PR (solve_Run.cx k) solve_Run.code 0 (entry (.pair (.slice T57) (.pair (.slice T39) T26)) (a0,a1,a2,a3,())).st w (Ret (solve_Run.cx k) Tryz.f25 c0 (.more (.ow T57 58) (.more (.dp (.slice T39)) (.one (.dp T2)))) y):=by
 unfold solve_Run; exact
  oB fun y1 e2 =>
  oF (fun e3 =>
  oS (⟨[rS T2 y1,tT],[.own 8 T57 58,.deep 9 T39],via (retP (aI (aI tv0 e2) e3) (.more (.ow T57 58) (.more (.dp (.slice T39)) (.one (.dp T2)))) (([],[],y1):((List V57) × ((List V39) × Int)))) (by kernel_rfl)⟩)) (fun e3 =>
  oB fun o7 e8 =>
  oF (fun e9 =>
  oS (⟨[rS T2 y1,fF,.cutR 4 ⟨[],[],(solve_Run.c1p a0 a1 a2 a3),0,.normal,(solve_Run.c1q a0 a1 a2 a3 o7),0⟩,tT],[.own 8 T57 58,.deep 9 T39],via (cutP (aI (aI tv0 e2) e3) [] (solve_Run.c1p a0 a1 a2 a3) (((solve_Run.c1_ok k a0 a1 a2 a3).ap e8)) (retP (aI tv0 e9) (.more (.ow T57 58) (.more (.dp (.slice T39)) (.one (.dp T2)))) (([],[],(1:Int)):((List V57) × ((List V39) × Int))))) (by kernel_rfl)⟩)) (fun e9 =>
  oB fun y10 e11 =>
  oB fun o19 e20 =>
  oB fun o28 e29 =>
  oB fun o43 e44 =>
  oB fun o57 e58 =>
  oS (⟨[rS T2 y1,fF,.cutR 4 ⟨[],[],(solve_Run.c1p a0 a1 a2 a3),0,.normal,(solve_Run.c1q a0 a1 a2 a3 o7),0⟩,fF,.res (.one (.ow T39 40)) y10,.cut ⟨[.ownF 3 0 T57 58],[(0,3),(1,8),(2,1)],(solve_Run.c2p a0 a2 a3 y10 (0:Int) []),3,(.exit 0),(solve_Run.c2q a2 a3 y10 o19),3⟩,.cut ⟨[.ownF 0 2 T96 97],[(0,0),(1,2),(2,1),(3,9)],(solve_Run.c3p a2 a3 o19 y10 (0:Int) []),4,(.exit 2),(solve_Run.c3q a3 o19 y10 o28),4⟩,.cut ⟨[],[(0,0),(1,2),(2,1),(3,3)],(solve_Run.c4p a3 o28 y10 (0:Int) o19),4,(.exit 4),(solve_Run.c4q a3 o28 y10 o43),4⟩,.cut ⟨[],[(0,0),(1,1),(2,2),(3,3)],(solve_Run.c5p a3 o28 (0:Int) o43 y10),4,(.exit 6),(solve_Run.c5q o28 o57),4⟩],[.freeze 9],via (cutP (aI (aI tv0 e2) e3) [] (solve_Run.c1p a0 a1 a2 a3) (((solve_Run.c1_ok k a0 a1 a2 a3).ap e8)) (cutP (aI (aI tv0 e9) e11) [(0,3),(1,8),(2,1)] (solve_Run.c2p a0 a2 a3 y10 (0:Int) []) (((solve_Run.c2_ok k a0 a2 a3 y10 k (0:Int) []).ap e20).triple) (cutP tv0 [(0,0),(1,2),(2,1),(3,9)] (solve_Run.c3p a2 a3 o19 y10 (0:Int) []) (((solve_Run.c3_ok k a2 a3 o19 y10 k (0:Int) []).ap e29).triple) (cutP tv0 [(0,0),(1,2),(2,1),(3,3)] (solve_Run.c4p a3 o28 y10 (0:Int) o19) (((solve_Run.c4_ok k a3 o28 y10 k (0:Int) o19).ap e44).triple) (cutP tv0 [(0,0),(1,1),(2,2),(3,3)] (solve_Run.c5p a3 o28 (0:Int) o43 y10) (((solve_Run.c5_ok k a3 o28 k (0:Int) o43 y10).ap e58).triple) (retP tv0 (.more (.ow T57 58) (.more (.dp (.slice T39)) (.one (.dp T2)))) ((o57.1,o57.2,(0:Int)):((List V57) × ((List V39) × Int))))))))) (by kernel_rfl)⟩)))
theorem solve_Run.ok (k:Nat):FnOk PR 25 (solve_Run.sp k) :=
 fn_ok (solve_Run.cok k) hmix Tryz.func25 (code:=solve_Run.code) (by kernel_rfl) (by kernel_rfl) (by kernel_rfl) rfl rfl (by kernel_rfl) (by kernel_rfl) (by kernel_rfl) (fun x=>Nat.le_of_ble_eq_true (by kernel_rfl)) fun x y hy=>(solve_Run.way k x.1 x.2.1 x.2.2.1 x.2.2.2.1).ap hy
end Go.Proofs.T1
