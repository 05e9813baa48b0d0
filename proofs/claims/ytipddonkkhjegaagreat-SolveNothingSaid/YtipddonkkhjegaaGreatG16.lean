import Derived.Test.YtipddonkkhjegaaGreatG0
import Derived.Test.YtipddonkkhjegaaGreatG2
import Derived.Test.YtipddonkkhjegaaGreatG3
import Derived.Test.YtipddonkkhjegaaGreatG13
namespace Go.Proofs.T1
open Go Go.Sx Go.Proofs
set_option maxRecDepth 100000
set_option linter.unusedVariables false
noncomputable def solve_Run_h.code:Code:=Func.cd Tryz.f25
noncomputable def solve_Run_h.c1 (k:Nat) (a2 a3:Int):Option (Bool) :=
 bif' (ilt a2 1)
 (some true)
 (bif' (igt a2 65536)
  (some true)
  (bif' (ilt a3 0)
  (some true)
  (some (igt a3 32))))
noncomputable def solve_Run_h.c2 (k:Nat) (a0:(List V57)):Nat→Int→(List V57)→Option ((List V57))
 | 0,_,_=>none
 | n+1,v12,v13 =>
  bif' (ilt v12 (len a0))
  (req (inL v12 a0) <|bnd (slices_Clone_52 k (el Z57 a0 v12).2.2.2.2.2.2.2.2.1) fun y16 =>
  req (room 120 v13 [((el Z57 a0 v12).1,(el Z57 a0 v12).2.1,(el Z57 a0 v12).2.2.1,(el Z57 a0 v12).2.2.2.1,(el Z57 a0 v12).2.2.2.2.1,(el Z57 a0 v12).2.2.2.2.2.1,(el Z57 a0 v12).2.2.2.2.2.2.1,(el Z57 a0 v12).2.2.2.2.2.2.2.1,y16,(el Z57 a0 v12).2.2.2.2.2.2.2.2.2)]) <|solve_Run_h.c2 k a0 n (iadd .i64 v12 1) (v13++[((el Z57 a0 v12).1,(el Z57 a0 v12).2.1,(el Z57 a0 v12).2.2.1,(el Z57 a0 v12).2.2.2.1,(el Z57 a0 v12).2.2.2.2.1,(el Z57 a0 v12).2.2.2.2.2.1,(el Z57 a0 v12).2.2.2.2.2.2.1,(el Z57 a0 v12).2.2.2.2.2.2.2.1,y16,(el Z57 a0 v12).2.2.2.2.2.2.2.2.2)]))
  (some v13)
noncomputable def solve_Run_h.c3 (k:Nat) (a2:Int) (o19:(List V57)) (y10:(List V39)):Nat→Int→(List V96)→Option ((List V96))
 | 0,_,_=>none
 | n+1,v21,v22 =>
  bif' (ilt v21 (len y10))
  (req (inL v21 y10) <|bnd (solve_solver_row_2 k (el Z39 y10 v21) a2 o19 y10 v22) fun y25 =>
  req (room 48 v22 [y25]) <|solve_Run_h.c3 k a2 o19 y10 n (iadd .i64 v21 1) (v22++[y25]))
  (some v22)
noncomputable def solve_Run_h.c4 (k:Nat) (o28:(List V96)) (y10:(List V39)):Nat→Int→(List V57)→Option ((List V57))
 | 0,_,_=>none
 | n+1,v30,v31 =>
  bif' (ilt v30 (len y10))
  (req (inL v30 y10) <|bnd (vec_Scale k (el Z39 y10 v30).2.2.2.2.1 (el Z39 y10 v30).2.2.2.2.2.2.1) fun y34 =>
  req (inL v30 o28) <|bnd (vec_Scale k (el Z96 o28 v30).1 (el Z39 y10 v30).2.2.2.2.2.2.2.1) fun y37 =>
  bnd (vec_Add k y34 y37) fun y39 =>
  bnd (solve_solver_push k (el Z39 y10 v30) y39 v31 y10 o28) fun y41 =>
  solve_Run_h.c4 k o28 y10 n (iadd .i64 v30 1) y41)
  (some v31)
noncomputable def solve_Run_h.c6 (k:Nat) (o28:(List V96)) (v47:(List V39)):Nat→Int→(List V57)→(List V39)→Option (((List V57) × (List V39)))
 | 0,_,_,_=>none
 | n+1,v49,v50,v51 =>
  bif' (ilt v49 (len v47))
  (bnd (solve_solver_round k v49 v50 v51 o28) fun y53 =>
  solve_Run_h.c6 k o28 v47 n (iadd .i64 v49 1) y53.1 y53.2)
  (some (v50,v51))
noncomputable def solve_Run_h.c5 (k:Nat) (a3:Int) (o28:(List V96)):Nat→Int→(List V57)→(List V39)→Option (((List V57) × (List V39)))
 | 0,_,_,_=>none
 | n+1,v45,v46,v47 =>
  bif' (ilt v45 a3)
  (bnd (solve_Run_h.c6 k o28 v47 k 0 v46 v47) fun o55 =>
  solve_Run_h.c5 k a3 o28 n (iadd .i64 v45 1) o55.1 o55.2)
  (some (v46,v47))
noncomputable def solve_Run_h (k:Nat) (a0:(List V57)) (a2 a3:Int) (r0:(List V39)):Option ((List V57) × ((List V39) × Int)) :=
 bnd (solve_Check k a0 r0) fun y1 =>
 bif' (ine y1 0)
 (some ([],[],y1))
 (bnd (solve_Run_h.c1 k a2 a3) fun o7 =>
  bif' o7
  (some ([],[],1))
  (bnd (slices_Clone k r0) fun y10 =>
  bnd (solve_Run_h.c2 k a0 k 0 []) fun o19 =>
  bnd (solve_Run_h.c3 k a2 o19 y10 k 0 []) fun o28 =>
  bnd (solve_Run_h.c4 k o28 y10 k 0 o19) fun o43 =>
  bnd (solve_Run_h.c5 k a3 o28 k 0 o43 y10) fun o57 =>
  some (o57.1,o57.2,0)))
noncomputable def solve_Run_h.h (k:Nat):Go.Sx.HSp:=⟨(.pair (.slice T57) (.pair T2 (.pair T2 (.pair (.slice T39) .unit)))),(.pair (.slice T57) (.pair (.slice T39) T2)),1,fun x=>[.dat (.slice T57) x.1,.lent (.val .own (0:Nat)),.dat T2 x.2.1,.dat T2 x.2.2.1],fun x=>[(0,.row T39 x.2.2.2.1 40)],fun x=>solve_Run_h k x.1 x.2.1 x.2.2.1 x.2.2.2.1,fun x y=>[(0,.row T39 x.2.2.2.1 40)],(.more (.dp (.slice T57)) (.more (.dp (.slice T39)) (.one (.dp T2)))),fun y=>y,true,false⟩
noncomputable def solve_Run_h.cx (k:Nat):Go.Sx.Ctx:=⟨tys,[(51,solve_Check.sp k),(11,slices_Clone.sp k),(52,(slices_Clone_52.sp k).frz),(56,vec_Scale.sp k),(55,vec_Add.sp k)],eqs,143,1,[(53,solve_solver_row_2.h k),(54,solve_solver_push.h k),(57,solve_solver_round.h k)],true⟩
theorem solve_Run_h.cok (k:Nat):CtxOk PR (solve_Run_h.cx k):=ctx_ok tysOk eqsOk (fC (solve_Check.ok k) (fC (slices_Clone.ok k) (fC (FnOk.frz rfl (slices_Clone_52.ok k)) (fC (vec_Scale.ok k) (fC (vec_Add.ok k) FnsOk.nil))))) (HsOk.cons (solve_solver_row_2.ok k) (HsOk.cons (solve_solver_push.ok k) (HsOk.cons (solve_solver_round.ok k) HsOk.nil)))
noncomputable def solve_Run_h.c1p (a0:(List V57)) (a2 a3:Int) (r0:(List V39)):SL:=⟨[(0,(.val (.slice T57) a0)),(1,(.val .own (0:Nat))),(2,(.val T2 a2)),(3,(.val T2 a3))],[(0,.row T39 r0 40)]⟩
noncomputable def solve_Run_h.c1q (a0:(List V57)) (a2 a3:Int) (r0:(List V39)) (o:Bool):SL:=(fun v=>⟨[(0,(.val (.slice T57) a0)),(1,(.val .own (0:Nat))),(2,(.val T2 a2)),(3,(.val T2 a3)),(39,(.val T4 v))],[(0,.row T39 r0 40)]⟩) o
noncomputable def solve_Run_h.c1x (o:Bool):Ex:=(fun _=>.normal) o
noncomputable def solve_Run_h.c1n (o:Bool):Nat:=(fun _=>1) o
theorem solve_Run_h.c1_ok (k:Nat) (a0:(List V57)) (a2 a3:Int) (r0:(List V39)):Owp (solve_Run_h.c1 k a2 a3) fun o=>Triple PR (solve_Run_h.cx k) (sub solve_Run_h.code [1,1,0,0]) 1 (solve_Run_h.c1p a0 a2 a3 r0) (solve_Run_h.c1x o) (solve_Run_h.c1n o) (solve_Run_h.c1q a0 a2 a3 r0 o):=by
 unfold solve_Run_h.c1; exact
  oF (fun e4 =>
  oS (tW (solve_Run_h.cok k) hmix [tT,tT,tT,tT,tT,tT,tT,tT,tT] [] [(0,0)] (via (finP (aI (aI (aI (aI (aI (aI (aI (aI (aI tv0 e4) e4) e4) tt) tt) tt) tt) tt) tt) .normal [(0,0)] (solve_Run_h.c1q a0 a2 a3 r0 true)) (by kernel_rfl)))) (fun e4 =>
  oF (fun e5 =>
  oS (tW (solve_Run_h.cok k) hmix [fF,fF,fF,tT,tT,tT,tT,tT,tT] [] [(0,0)] (via (finP (aI (aI (aI (aI (aI (aI (aI (aI (aI tv0 e4) e4) e4) e5) e5) e5) tt) tt) tt) .normal [(0,0)] (solve_Run_h.c1q a0 a2 a3 r0 true)) (by kernel_rfl)))) (fun e5 =>
  oF (fun e6 =>
  oS (tW (solve_Run_h.cok k) hmix [fF,fF,fF,fF,fF,fF,tT,tT,tT] [] [(0,0)] (via (finP (aI (aI (aI (aI (aI (aI (aI (aI (aI tv0 e4) e4) e4) e5) e5) e5) e6) e6) e6) .normal [(0,0)] (solve_Run_h.c1q a0 a2 a3 r0 true)) (by kernel_rfl)))) (fun e6 =>
  oS (tW (solve_Run_h.cok k) hmix [fF,fF,fF,fF,fF,fF,fF,fF,fF] [] [(0,0)] (via (finP (aI (aI (aI (aI (aI (aI (aI (aI (aI tv0 e4) e4) e4) e5) e5) e5) e6) e6) e6) .normal [(0,0)] (solve_Run_h.c1q a0 a2 a3 r0 (igt a3 (32:Int)))) (by kernel_rfl))))))
noncomputable def solve_Run_h.c2p (a0:(List V57)) (a2 a3:Int) (r0 y10:(List V39)) (v12:Int) (v13:(List V57)):SL:=⟨[(2,(.val T2 a2)),(3,(.val T2 a3)),(12,(.val .ptr ⟨1,0,(0:Int),0,0⟩)),(44,(.val (.slice T57) a0)),(45,(.val T2 (len a0))),(46,(.val T2 v12))],[(0,.row T39 r0 40),(1,.cells (.pair .own (.pair .own (.pair .nil .unit))) ((2:Nat),(3:Nat),((),()))),(2,.row T57 v13 58),(3,.row T39 y10 40)]⟩
noncomputable def solve_Run_h.c2q (a2 a3:Int) (r0 y10:(List V39)) (o:(List V57)):SL:=(fun v=>⟨[(2,(.val T2 a2)),(3,(.val T2 a3)),(12,(.val .ptr ⟨1,0,(0:Int),0,0⟩))],[(0,.row T39 r0 40),(1,.cells (.pair .own (.pair .own (.pair .nil .unit))) ((2:Nat),(3:Nat),((),()))),(2,.row T57 v 58),(3,.row T39 y10 40)]⟩) o
noncomputable def solve_Run_h.c2x (o:(List V57)):Ex:=(fun _=>(.exit 0)) o
noncomputable def solve_Run_h.c2n (o:(List V57)):Nat:=(fun _=>4) o
theorem solve_Run_h.c2_ok (k:Nat) (a0:(List V57)) (a2 a3:Int) (r0 y10:(List V39)):∀ (n:Nat) (v12:Int) (v13:(List V57)),Owp (solve_Run_h.c2 k a0 n v12 v13) fun o=>LTriple PR (solve_Run_h.cx k) (sub solve_Run_h.code [1,1,1,1,0,1,0,0]) 4 (solve_Run_h.c2p a0 a2 a3 r0 y10 v12 v13) (solve_Run_h.c2x o) (solve_Run_h.c2n o) (solve_Run_h.c2q a2 a3 r0 y10 o)
 | 0,_,_=>fun _ h=>nomatch h
 | n+1,v12,v13=>Owp.of (solve_Run_h.c2.eq_2 ..) (
  oF (fun e14 =>
  oR fun h15 =>
  oB fun y16 e17 =>
  oR fun h18 =>
  fun y hy=>loop_back (solve_Run_h.cok k) hmix 4 (solve_Run_h.c2p a0 a2 a3 r0 y10 (iadd .i64 v12 (1:Int)) (v13++[((el Z57 a0 v12).1,(el Z57 a0 v12).2.1,(el Z57 a0 v12).2.2.1,(el Z57 a0 v12).2.2.2.1,(el Z57 a0 v12).2.2.2.2.1,(el Z57 a0 v12).2.2.2.2.2.1,(el Z57 a0 v12).2.2.2.2.2.2.1,(el Z57 a0 v12).2.2.2.2.2.2.2.1,y16,(el Z57 a0 v12).2.2.2.2.2.2.2.2.2)])) [tT,rS T56 y16,tT] [] [(0,0),(1,1),(2,21),(3,3)] (via (finP (aI (aI (aI (aI tv0 e14) h15) e17) h18) .normal [(0,0),(1,1),(2,21),(3,3)] (solve_Run_h.c2p a0 a2 a3 r0 y10 (iadd .i64 v12 (1:Int)) (v13++[((el Z57 a0 v12).1,(el Z57 a0 v12).2.1,(el Z57 a0 v12).2.2.1,(el Z57 a0 v12).2.2.2.1,(el Z57 a0 v12).2.2.2.2.1,(el Z57 a0 v12).2.2.2.2.2.1,(el Z57 a0 v12).2.2.2.2.2.2.1,(el Z57 a0 v12).2.2.2.2.2.2.2.1,y16,(el Z57 a0 v12).2.2.2.2.2.2.2.2.2)]))) (by kernel_rfl)) ((solve_Run_h.c2_ok k a0 a2 a3 r0 y10 n (iadd .i64 v12 (1:Int)) (v13++[((el Z57 a0 v12).1,(el Z57 a0 v12).2.1,(el Z57 a0 v12).2.2.1,(el Z57 a0 v12).2.2.2.1,(el Z57 a0 v12).2.2.2.2.1,(el Z57 a0 v12).2.2.2.2.2.1,(el Z57 a0 v12).2.2.2.2.2.2.1,(el Z57 a0 v12).2.2.2.2.2.2.2.1,y16,(el Z57 a0 v12).2.2.2.2.2.2.2.2.2)])).ap hy)) (fun e14 =>
  oS (loop_exit (solve_Run_h.cok k) hmix [fF] [] [(0,0),(1,1),(2,2),(3,3)] (exne 0) (via (finP (aI tv0 e14) (.exit 0) [(0,0),(1,1),(2,2),(3,3)] (solve_Run_h.c2q a2 a3 r0 y10 v13)) (by kernel_rfl)))))
noncomputable def solve_Run_h.c3p (a2 a3:Int) (o19:(List V57)) (r0 y10:(List V39)) (v21:Int) (v22:(List V96)):SL:=⟨[(2,(.val T2 a2)),(3,(.val T2 a3)),(12,(.val .ptr ⟨1,0,(0:Int),0,0⟩)),(68,(.val .own (2:Nat))),(69,(.val T2 (len y10))),(70,(.val T2 v21))],[(0,.row T39 r0 40),(1,.cells (.pair .own (.pair .own (.pair .own .unit))) ((3:Nat),(2:Nat),(4:Nat),())),(2,.row T39 y10 40),(3,.row T57 o19 58),(4,.row T96 v22 97)]⟩
noncomputable def solve_Run_h.c3q (a3:Int) (o19:(List V57)) (r0 y10:(List V39)) (o:(List V96)):SL:=(fun v=>⟨[(3,(.val T2 a3)),(12,(.val .ptr ⟨1,0,(0:Int),0,0⟩))],[(0,.row T39 r0 40),(1,.cells (.pair .own (.pair .own (.pair .own .unit))) ((2:Nat),(3:Nat),(4:Nat),())),(2,.row T57 o19 58),(3,.row T39 y10 40),(4,.row T96 v 97)]⟩) o
noncomputable def solve_Run_h.c3x (o:(List V96)):Ex:=(fun _=>(.exit 2)) o
noncomputable def solve_Run_h.c3n (o:(List V96)):Nat:=(fun _=>5) o
theorem solve_Run_h.c3_ok (k:Nat) (a2 a3:Int) (o19:(List V57)) (r0 y10:(List V39)):∀ (n:Nat) (v21:Int) (v22:(List V96)),Owp (solve_Run_h.c3 k a2 o19 y10 n v21 v22) fun o=>LTriple PR (solve_Run_h.cx k) (sub solve_Run_h.code [1,1,1,1,1,0,1,0,0]) 5 (solve_Run_h.c3p a2 a3 o19 r0 y10 v21 v22) (solve_Run_h.c3x o) (solve_Run_h.c3n o) (solve_Run_h.c3q a3 o19 r0 y10 o)
 | 0,_,_=>fun _ h=>nomatch h
 | n+1,v21,v22=>Owp.of (solve_Run_h.c3.eq_2 ..) (
  oF (fun e23 =>
  oR fun h24 =>
  oB fun y25 e26 =>
  oR fun h27 =>
  fun y hy=>loop_back (solve_Run_h.cok k) hmix 5 (solve_Run_h.c3p a2 a3 o19 r0 y10 (iadd .i64 v21 (1:Int)) (v22++[y25])) [tT,.hres [(0,1),(1,3),(2,2),(3,4)] (.pair T39 (.pair T2 (.pair (.slice T57) (.pair (.slice T39) (.pair (.slice T96) .unit))))) ((el Z39 y10 v21),a2,o19,y10,v22,()) T96 y25,tT] [] [(0,0),(1,1),(2,2),(3,3),(4,20)] (via (finP (aI (aI (aI (aI (aI tv0 e23) h24) h24) (callHP (solve_solver_row_2.h k) [(0,1),(1,3),(2,2),(3,4)] ((el Z39 y10 v21),a2,o19,y10,v22,()) e26)) h27) .normal [(0,0),(1,1),(2,2),(3,3),(4,20)] (solve_Run_h.c3p a2 a3 o19 r0 y10 (iadd .i64 v21 (1:Int)) (v22++[y25]))) (by kernel_rfl)) ((solve_Run_h.c3_ok k a2 a3 o19 r0 y10 n (iadd .i64 v21 (1:Int)) (v22++[y25])).ap hy)) (fun e23 =>
  oS (loop_exit (solve_Run_h.cok k) hmix [fF] [] [(0,0),(1,1),(2,3),(3,2),(4,4)] (exne 2) (via (finP (aI tv0 e23) (.exit 2) [(0,0),(1,1),(2,3),(3,2),(4,4)] (solve_Run_h.c3q a3 o19 r0 y10 v22)) (by kernel_rfl)))))
noncomputable def solve_Run_h.c4p (a3:Int) (o28:(List V96)) (r0 y10:(List V39)) (v30:Int) (v31:(List V57)):SL:=⟨[(3,(.val T2 a3)),(12,(.val .ptr ⟨1,0,(0:Int),0,0⟩)),(91,(.val .own (2:Nat))),(92,(.val T2 (len y10))),(93,(.val T2 v30))],[(0,.row T39 r0 40),(1,.cells (.pair .own (.pair .own (.pair .own .unit))) ((3:Nat),(2:Nat),(4:Nat),())),(2,.row T39 y10 40),(3,.row T57 v31 58),(4,.row T96 o28 97)]⟩
noncomputable def solve_Run_h.c4q (a3:Int) (o28:(List V96)) (r0 y10:(List V39)) (o:(List V57)):SL:=(fun v=>⟨[(3,(.val T2 a3)),(12,(.val .ptr ⟨1,0,(0:Int),0,0⟩))],[(0,.row T39 r0 40),(1,.cells (.pair .own (.pair .own (.pair .own .unit))) ((2:Nat),(3:Nat),(4:Nat),())),(2,.row T57 v 58),(3,.row T39 y10 40),(4,.row T96 o28 97)]⟩) o
noncomputable def solve_Run_h.c4x (o:(List V57)):Ex:=(fun _=>(.exit 4)) o
noncomputable def solve_Run_h.c4n (o:(List V57)):Nat:=(fun _=>5) o
theorem solve_Run_h.c4_ok (k:Nat) (a3:Int) (o28:(List V96)) (r0 y10:(List V39)):∀ (n:Nat) (v30:Int) (v31:(List V57)),Owp (solve_Run_h.c4 k o28 y10 n v30 v31) fun o=>LTriple PR (solve_Run_h.cx k) (sub solve_Run_h.code [1,1,1,1,1,1,0,1,0,0]) 5 (solve_Run_h.c4p a3 o28 r0 y10 v30 v31) (solve_Run_h.c4x o) (solve_Run_h.c4n o) (solve_Run_h.c4q a3 o28 r0 y10 o)
 | 0,_,_=>fun _ h=>nomatch h
 | n+1,v30,v31=>Owp.of (solve_Run_h.c4.eq_2 ..) (
  oF (fun e32 =>
  oR fun h33 =>
  oB fun y34 e35 =>
  oR fun h36 =>
  oB fun y37 e38 =>
  oB fun y39 e40 =>
  oB fun y41 e42 =>
  fun y hy=>loop_back (solve_Run_h.cok k) hmix 5 (solve_Run_h.c4p a3 o28 r0 y10 (iadd .i64 v30 (1:Int)) y41) [tT,rS T26 y34,rS T26 y37,rS T26 y39,.hres [(0,1),(1,3),(2,2),(3,4)] (.pair T39 (.pair T26 (.pair (.slice T57) (.pair (.slice T39) (.pair (.slice T96) .unit))))) ((el Z39 y10 v30),y39,v31,y10,o28,()) (.slice T57) y41] [] [(0,0),(1,1),(2,2),(3,3),(4,4)] (via (finP (aI (aI (aI (aI (aI (aI (aI (aI (aI tv0 e32) h33) h33) e35) h36) h36) e38) e40) (callHP (solve_solver_push.h k) [(0,1),(1,3),(2,2),(3,4)] ((el Z39 y10 v30),y39,v31,y10,o28,()) e42)) .normal [(0,0),(1,1),(2,2),(3,3),(4,4)] (solve_Run_h.c4p a3 o28 r0 y10 (iadd .i64 v30 (1:Int)) y41)) (by kernel_rfl)) ((solve_Run_h.c4_ok k a3 o28 r0 y10 n (iadd .i64 v30 (1:Int)) y41).ap hy)) (fun e32 =>
  oS (loop_exit (solve_Run_h.cok k) hmix [fF] [] [(0,0),(1,1),(2,3),(3,2),(4,4)] (exne 4) (via (finP (aI tv0 e32) (.exit 4) [(0,0),(1,1),(2,3),(3,2),(4,4)] (solve_Run_h.c4q a3 o28 r0 y10 v31)) (by kernel_rfl)))))
noncomputable def solve_Run_h.c6p (a3:Int) (o28:(List V96)) (r0:(List V39)) (v45:Int) (v47:(List V39)) (v49:Int) (v50:(List V57)) (v51:(List V39)):SL:=⟨[(12,(.val .ptr ⟨1,0,(0:Int),0,0⟩)),(119,(.val T2 a3)),(120,(.val T2 v45)),(126,(.val T2 (len v47))),(127,(.val T2 v49))],[(0,.row T39 r0 40),(1,.cells (.pair .own (.pair .own (.pair .own .unit))) ((2:Nat),(3:Nat),(4:Nat),())),(2,.row T57 v50 58),(3,.row T39 v51 40),(4,.row T96 o28 97)]⟩
noncomputable def solve_Run_h.c6q (a3:Int) (o28:(List V96)) (r0:(List V39)) (v45:Int) (o:((List V57) × (List V39))):SL:=(fun v=>⟨[(12,(.val .ptr ⟨1,0,(0:Int),0,0⟩)),(119,(.val T2 a3)),(120,(.val T2 v45))],[(0,.row T39 r0 40),(1,.cells (.pair .own (.pair .own (.pair .own .unit))) ((2:Nat),(3:Nat),(4:Nat),())),(2,.row T57 v.1 58),(3,.row T39 v.2 40),(4,.row T96 o28 97)]⟩) o
noncomputable def solve_Run_h.c6x (o:((List V57) × (List V39))):Ex:=(fun _=>(.exit 8)) o
noncomputable def solve_Run_h.c6n (o:((List V57) × (List V39))):Nat:=(fun _=>5) o
theorem solve_Run_h.c6_ok (k:Nat) (a3:Int) (o28:(List V96)) (r0:(List V39)) (v45:Int) (v47:(List V39)):∀ (n:Nat) (v49:Int) (v50:(List V57)) (v51:(List V39)),Owp (solve_Run_h.c6 k o28 v47 n v49 v50 v51) fun o=>LTriple PR (solve_Run_h.cx k) (sub solve_Run_h.code [1,1,1,1,1,1,1,0,1,0,0,1,1,0,0,1,0,0]) 5 (solve_Run_h.c6p a3 o28 r0 v45 v47 v49 v50 v51) (solve_Run_h.c6x o) (solve_Run_h.c6n o) (solve_Run_h.c6q a3 o28 r0 v45 o)
 | 0,_,_,_=>fun _ h=>nomatch h
 | n+1,v49,v50,v51=>Owp.of (solve_Run_h.c6.eq_2 ..) (
  oF (fun e52 =>
  oB fun y53 e54 =>
  fun y hy=>loop_back (solve_Run_h.cok k) hmix 5 (solve_Run_h.c6p a3 o28 r0 v45 v47 (iadd .i64 v49 (1:Int)) y53.1 y53.2) [tT,.hres [(0,1),(1,2),(2,3),(3,4)] (.pair T2 (.pair (.slice T57) (.pair (.slice T39) (.pair (.slice T96) .unit)))) (v49,v50,v51,o28,()) (.pair (.slice T57) (.slice T39)) y53] [] [(0,0),(1,1),(2,2),(3,3),(4,4)] (via (finP (aI (aI tv0 e52) (callHP (solve_solver_round.h k) [(0,1),(1,2),(2,3),(3,4)] (v49,v50,v51,o28,()) e54)) .normal [(0,0),(1,1),(2,2),(3,3),(4,4)] (solve_Run_h.c6p a3 o28 r0 v45 v47 (iadd .i64 v49 (1:Int)) y53.1 y53.2)) (by kernel_rfl)) ((solve_Run_h.c6_ok k a3 o28 r0 v45 v47 n (iadd .i64 v49 (1:Int)) y53.1 y53.2).ap hy)) (fun e52 =>
  oS (loop_exit (solve_Run_h.cok k) hmix [fF] [] [(0,0),(1,1),(2,2),(3,3),(4,4)] (exne 8) (via (finP (aI tv0 e52) (.exit 8) [(0,0),(1,1),(2,2),(3,3),(4,4)] (solve_Run_h.c6q a3 o28 r0 v45 (v50,v51))) (by kernel_rfl)))))
noncomputable def solve_Run_h.c5p (a3:Int) (o28:(List V96)) (r0:(List V39)) (v45:Int) (v46:(List V57)) (v47:(List V39)):SL:=⟨[(12,(.val .ptr ⟨1,0,(0:Int),0,0⟩)),(119,(.val T2 a3)),(120,(.val T2 v45))],[(0,.row T39 r0 40),(1,.cells (.pair .own (.pair .own (.pair .own .unit))) ((2:Nat),(3:Nat),(4:Nat),())),(2,.row T57 v46 58),(3,.row T39 v47 40),(4,.row T96 o28 97)]⟩
noncomputable def solve_Run_h.c5q (o28:(List V96)) (r0:(List V39)) (o:((List V57) × (List V39))):SL:=(fun v=>⟨[(12,(.val .ptr ⟨1,0,(0:Int),0,0⟩))],[(0,.row T39 r0 40),(1,.cells (.pair .own (.pair .own (.pair .own .unit))) ((2:Nat),(3:Nat),(4:Nat),())),(2,.row T57 v.1 58),(3,.row T39 v.2 40),(4,.row T96 o28 97)]⟩) o
noncomputable def solve_Run_h.c5x (o:((List V57) × (List V39))):Ex:=(fun _=>(.exit 6)) o
noncomputable def solve_Run_h.c5n (o:((List V57) × (List V39))):Nat:=(fun _=>5) o
theorem solve_Run_h.c5_ok (k:Nat) (a3:Int) (o28:(List V96)) (r0:(List V39)):∀ (n:Nat) (v45:Int) (v46:(List V57)) (v47:(List V39)),Owp (solve_Run_h.c5 k a3 o28 n v45 v46 v47) fun o=>LTriple PR (solve_Run_h.cx k) (sub solve_Run_h.code [1,1,1,1,1,1,1,0,1,0,0]) 5 (solve_Run_h.c5p a3 o28 r0 v45 v46 v47) (solve_Run_h.c5x o) (solve_Run_h.c5n o) (solve_Run_h.c5q o28 r0 o)
 | 0,_,_,_=>fun _ h=>nomatch h
 | n+1,v45,v46,v47=>Owp.of (solve_Run_h.c5.eq_2 ..) (
  oF (fun e48 =>
  oB fun o55 e56 =>
  fun y hy=>loop_back (solve_Run_h.cok k) hmix 5 (solve_Run_h.c5p a3 o28 r0 (iadd .i64 v45 (1:Int)) o55.1 o55.2) [tT,.cut ⟨[],[(0,0),(1,1),(2,2),(3,3),(4,4)],(solve_Run_h.c6p a3 o28 r0 v45 v47 (0:Int) v46 v47),5,(.exit 8),(solve_Run_h.c6q a3 o28 r0 v45 o55),5⟩] [] [(0,0),(1,1),(2,2),(3,3),(4,4)] (via (cutP (aI tv0 e48) [(0,0),(1,1),(2,2),(3,3),(4,4)] (solve_Run_h.c6p a3 o28 r0 v45 v47 (0:Int) v46 v47) (((solve_Run_h.c6_ok k a3 o28 r0 v45 v47 k (0:Int) v46 v47).ap e56).triple) (finP tv0 .normal [(0,0),(1,1),(2,2),(3,3),(4,4)] (solve_Run_h.c5p a3 o28 r0 (iadd .i64 v45 (1:Int)) o55.1 o55.2))) (by kernel_rfl)) ((solve_Run_h.c5_ok k a3 o28 r0 n (iadd .i64 v45 (1:Int)) o55.1 o55.2).ap hy)) (fun e48 =>
  oS (loop_exit (solve_Run_h.cok k) hmix [fF] [] [(0,0),(1,1),(2,2),(3,3),(4,4)] (exne 6) (via (finP (aI tv0 e48) (.exit 6) [(0,0),(1,1),(2,2),(3,3),(4,4)] (solve_Run_h.c5q o28 r0 (v46,v47))) (by kernel_rfl)))))
@[irreducible] noncomputable def solve_Run_h.P (k:Nat) (a0:(List V57)) (a2 a3:Int) (r0:(List V39)) (y:((List V57) × ((List V39) × Int))) (w:List Ans) (c0:List Cmd):Prop:=exec PR (solve_Run_h.cx k) solve_Run_h.code 1 (entryH (solve_Run_h.h k) (a0,a2,a3,r0,())).st w (RetH (solve_Run_h.cx k) Tryz.f25 c0 (solve_Run_h.h k) (a0,a2,a3,r0,()) y)
theorem solve_Run_h.way (k:Nat) (a0:(List V57)) (a2 a3:Int) (r0:(List V39)):Owp (solve_Run_h k a0 a2 a3 r0) fun y=>∃ w c0,solve_Run_h.P k a0 a2 a3 r0 y w c0:=by
 unfold solve_Run_h; exact
  oB fun y1 e2 =>
  oF (fun e3 =>
  oS (⟨[rS T2 y1,tT],[.deep 8 T57,.deep 9 T39],via (rethP (aI (aI tv0 e2) e3) [(0,.row T39 r0 40)] (.more (.dp (.slice T57)) (.more (.dp (.slice T39)) (.one (.dp T2)))) (([],[],y1):((List V57) × ((List V39) × Int)))) (by kernel_rfl)⟩)) (fun e3 =>
  oB fun o7 e8 =>
  oF (fun e9 =>
  oS (⟨[rS T2 y1,fF,.cutR 4 ⟨[],[(0,0)],(solve_Run_h.c1p a0 a2 a3 r0),1,.normal,(solve_Run_h.c1q a0 a2 a3 r0 o7),1⟩,tT],[.deep 8 T57,.deep 9 T39],via (cutP (aI (aI tv0 e2) e3) [(0,0)] (solve_Run_h.c1p a0 a2 a3 r0) (((solve_Run_h.c1_ok k a0 a2 a3 r0).ap e8)) (rethP (aI tv0 e9) [(0,.row T39 r0 40)] (.more (.dp (.slice T57)) (.more (.dp (.slice T39)) (.one (.dp T2)))) (([],[],(1:Int)):((List V57) × ((List V39) × Int))))) (by kernel_rfl)⟩)) (fun e9 =>
  oB fun y10 e11 =>
  oB fun o19 e20 =>
  oB fun o28 e29 =>
  oB fun o43 e44 =>
  oB fun o57 e58 =>
  oS (⟨[rS T2 y1,fF,.cutR 4 ⟨[],[(0,0)],(solve_Run_h.c1p a0 a2 a3 r0),1,.normal,(solve_Run_h.c1q a0 a2 a3 r0 o7),1⟩,fF,.res (.one (.ow T39 40)) y10,.cut ⟨[.ownF 4 0 T57 58],[(0,0),(1,4),(2,9),(3,2)],(solve_Run_h.c2p a0 a2 a3 r0 y10 (0:Int) []),4,(.exit 0),(solve_Run_h.c2q a2 a3 r0 y10 o19),4⟩,.cut ⟨[.ownF 1 2 T96 97],[(0,0),(1,1),(2,3),(3,2),(4,10)],(solve_Run_h.c3p a2 a3 o19 r0 y10 (0:Int) []),5,(.exit 2),(solve_Run_h.c3q a3 o19 r0 y10 o28),5⟩,.cut ⟨[],[(0,0),(1,1),(2,3),(3,2),(4,4)],(solve_Run_h.c4p a3 o28 r0 y10 (0:Int) o19),5,(.exit 4),(solve_Run_h.c4q a3 o28 r0 y10 o43),5⟩,.cut ⟨[],[(0,0),(1,1),(2,2),(3,3),(4,4)],(solve_Run_h.c5p a3 o28 r0 (0:Int) o43 y10),5,(.exit 6),(solve_Run_h.c5q o28 r0 o57),5⟩],[.freeze 8,.freeze 9],via (cutP (aI (aI tv0 e2) e3) [(0,0)] (solve_Run_h.c1p a0 a2 a3 r0) (((solve_Run_h.c1_ok k a0 a2 a3 r0).ap e8)) (cutP (aI (aI tv0 e9) e11) [(0,0),(1,4),(2,9),(3,2)] (solve_Run_h.c2p a0 a2 a3 r0 y10 (0:Int) []) (((solve_Run_h.c2_ok k a0 a2 a3 r0 y10 k (0:Int) []).ap e20).triple) (cutP tv0 [(0,0),(1,1),(2,3),(3,2),(4,10)] (solve_Run_h.c3p a2 a3 o19 r0 y10 (0:Int) []) (((solve_Run_h.c3_ok k a2 a3 o19 r0 y10 k (0:Int) []).ap e29).triple) (cutP tv0 [(0,0),(1,1),(2,3),(3,2),(4,4)] (solve_Run_h.c4p a3 o28 r0 y10 (0:Int) o19) (((solve_Run_h.c4_ok k a3 o28 r0 y10 k (0:Int) o19).ap e44).triple) (cutP tv0 [(0,0),(1,1),(2,2),(3,3),(4,4)] (solve_Run_h.c5p a3 o28 r0 (0:Int) o43 y10) (((solve_Run_h.c5_ok k a3 o28 r0 k (0:Int) o43 y10).ap e58).triple) (rethP tv0 [(0,.row T39 r0 40)] (.more (.dp (.slice T57)) (.more (.dp (.slice T39)) (.one (.dp T2)))) ((o57.1,o57.2,(0:Int)):((List V57) × ((List V39) × Int))))))))) (by kernel_rfl)⟩)))
theorem solve_Run_h.ok (k:Nat):HOk PR 25 (solve_Run_h.h k) :=
 fnH_ok (solve_Run_h.cok k) hmix Tryz.func25 (code:=solve_Run_h.code) (by kernel_rfl) (by kernel_rfl) (by kernel_rfl) (by kernel_rfl) (by kernel_rfl) (by kernel_rfl) (fun x=>Nat.le_of_ble_eq_true (by kernel_rfl)) fun x y hy=>match (solve_Run_h.way k x.1 x.2.1 x.2.2.1 x.2.2.2.1).ap hy with | ⟨ans,c0,h⟩=>⟨ans,c0,via h (by kernel_rfl)⟩
noncomputable def solve_Run_h_2.code:Code:=Func.cd Tryz.f25
noncomputable def solve_Run_h_2.c1 (k:Nat) (a2 a3:Int):Option (Bool) :=
 bif' (ilt a2 1)
 (some true)
 (bif' (igt a2 65536)
  (some true)
  (bif' (ilt a3 0)
  (some true)
  (some (igt a3 32))))
noncomputable def solve_Run_h_2.c2 (k:Nat) (r0:(List V57)):Nat→Int→(List V57)→Option ((List V57))
 | 0,_,_=>none
 | n+1,v12,v13 =>
  bif' (ilt v12 (len r0))
  (req (inL v12 r0) <|bnd (slices_Clone_52 k (el Z57 r0 v12).2.2.2.2.2.2.2.2.1) fun y16 =>
  req (room 120 v13 [((el Z57 r0 v12).1,(el Z57 r0 v12).2.1,(el Z57 r0 v12).2.2.1,(el Z57 r0 v12).2.2.2.1,(el Z57 r0 v12).2.2.2.2.1,(el Z57 r0 v12).2.2.2.2.2.1,(el Z57 r0 v12).2.2.2.2.2.2.1,(el Z57 r0 v12).2.2.2.2.2.2.2.1,y16,(el Z57 r0 v12).2.2.2.2.2.2.2.2.2)]) <|solve_Run_h_2.c2 k r0 n (iadd .i64 v12 1) (v13++[((el Z57 r0 v12).1,(el Z57 r0 v12).2.1,(el Z57 r0 v12).2.2.1,(el Z57 r0 v12).2.2.2.1,(el Z57 r0 v12).2.2.2.2.1,(el Z57 r0 v12).2.2.2.2.2.1,(el Z57 r0 v12).2.2.2.2.2.2.1,(el Z57 r0 v12).2.2.2.2.2.2.2.1,y16,(el Z57 r0 v12).2.2.2.2.2.2.2.2.2)]))
  (some v13)
noncomputable def solve_Run_h_2.c3 (k:Nat) (a2:Int) (o19:(List V57)) (y10:(List V39)):Nat→Int→(List V96)→Option ((List V96))
 | 0,_,_=>none
 | n+1,v21,v22 =>
  bif' (ilt v21 (len y10))
  (req (inL v21 y10) <|bnd (solve_solver_row_2 k (el Z39 y10 v21) a2 o19 y10 v22) fun y25 =>
  req (room 48 v22 [y25]) <|solve_Run_h_2.c3 k a2 o19 y10 n (iadd .i64 v21 1) (v22++[y25]))
  (some v22)
noncomputable def solve_Run_h_2.c4 (k:Nat) (o28:(List V96)) (y10:(List V39)):Nat→Int→(List V57)→Option ((List V57))
 | 0,_,_=>none
 | n+1,v30,v31 =>
  bif' (ilt v30 (len y10))
  (req (inL v30 y10) <|bnd (vec_Scale k (el Z39 y10 v30).2.2.2.2.1 (el Z39 y10 v30).2.2.2.2.2.2.1) fun y34 =>
  req (inL v30 o28) <|bnd (vec_Scale k (el Z96 o28 v30).1 (el Z39 y10 v30).2.2.2.2.2.2.2.1) fun y37 =>
  bnd (vec_Add k y34 y37) fun y39 =>
  bnd (solve_solver_push k (el Z39 y10 v30) y39 v31 y10 o28) fun y41 =>
  solve_Run_h_2.c4 k o28 y10 n (iadd .i64 v30 1) y41)
  (some v31)
noncomputable def solve_Run_h_2.c6 (k:Nat) (o28:(List V96)) (v47:(List V39)):Nat→Int→(List V57)→(List V39)→Option (((List V57) × (List V39)))
 | 0,_,_,_=>none
 | n+1,v49,v50,v51 =>
  bif' (ilt v49 (len v47))
  (bnd (solve_solver_round k v49 v50 v51 o28) fun y53 =>
  solve_Run_h_2.c6 k o28 v47 n (iadd .i64 v49 1) y53.1 y53.2)
  (some (v50,v51))
noncomputable def solve_Run_h_2.c5 (k:Nat) (a3:Int) (o28:(List V96)):Nat→Int→(List V57)→(List V39)→Option (((List V57) × (List V39)))
 | 0,_,_,_=>none
 | n+1,v45,v46,v47 =>
  bif' (ilt v45 a3)
  (bnd (solve_Run_h_2.c6 k o28 v47 k 0 v46 v47) fun o55 =>
  solve_Run_h_2.c5 k a3 o28 n (iadd .i64 v45 1) o55.1 o55.2)
  (some (v46,v47))
noncomputable def solve_Run_h_2 (k:Nat) (a1:(List V39)) (a2 a3:Int) (r0:(List V57)):Option ((List V57) × ((List V39) × Int)) :=
 bnd (solve_Check k r0 a1) fun y1 =>
 bif' (ine y1 0)
 (some ([],[],y1))
 (bnd (solve_Run_h_2.c1 k a2 a3) fun o7 =>
  bif' o7
  (some ([],[],1))
  (bnd (slices_Clone k a1) fun y10 =>
  bnd (solve_Run_h_2.c2 k r0 k 0 []) fun o19 =>
  bnd (solve_Run_h_2.c3 k a2 o19 y10 k 0 []) fun o28 =>
  bnd (solve_Run_h_2.c4 k o28 y10 k 0 o19) fun o43 =>
  bnd (solve_Run_h_2.c5 k a3 o28 k 0 o43 y10) fun o57 =>
  some (o57.1,o57.2,0)))
noncomputable def solve_Run_h_2.h (k:Nat):Go.Sx.HSp:=⟨(.pair (.slice T39) (.pair T2 (.pair T2 (.pair (.slice T57) .unit)))),(.pair (.slice T57) (.pair (.slice T39) T2)),1,fun x=>[.lent (.val .own (0:Nat)),.dat (.slice T39) x.1,.dat T2 x.2.1,.dat T2 x.2.2.1],fun x=>[(0,.row T57 x.2.2.2.1 58)],fun x=>solve_Run_h_2 k x.1 x.2.1 x.2.2.1 x.2.2.2.1,fun x y=>[(0,.row T57 x.2.2.2.1 58)],(.more (.dp (.slice T57)) (.more (.dp (.slice T39)) (.one (.dp T2)))),fun y=>y,true,false⟩
noncomputable def solve_Run_h_2.cx (k:Nat):Go.Sx.Ctx:=⟨tys,[(51,solve_Check.sp k),(11,slices_Clone.sp k),(52,(slices_Clone_52.sp k).frz),(56,vec_Scale.sp k),(55,vec_Add.sp k)],eqs,143,1,[(53,solve_solver_row_2.h k),(54,solve_solver_push.h k),(57,solve_solver_round.h k)],true⟩
theorem solve_Run_h_2.cok (k:Nat):CtxOk PR (solve_Run_h_2.cx k):=ctx_ok tysOk eqsOk (fC (solve_Check.ok k) (fC (slices_Clone.ok k) (fC (FnOk.frz rfl (slices_Clone_52.ok k)) (fC (vec_Scale.ok k) (fC (vec_Add.ok k) FnsOk.nil))))) (HsOk.cons (solve_solver_row_2.ok k) (HsOk.cons (solve_solver_push.ok k) (HsOk.cons (solve_solver_round.ok k) HsOk.nil)))
noncomputable def solve_Run_h_2.c1p (a1:(List V39)) (a2 a3:Int) (r0:(List V57)):SL:=⟨[(0,(.val .own (0:Nat))),(1,(.val (.slice T39) a1)),(2,(.val T2 a2)),(3,(.val T2 a3))],[(0,.row T57 r0 58)]⟩
noncomputable def solve_Run_h_2.c1q (a1:(List V39)) (a2 a3:Int) (r0:(List V57)) (o:Bool):SL:=(fun v=>⟨[(0,(.val .own (0:Nat))),(1,(.val (.slice T39) a1)),(2,(.val T2 a2)),(3,(.val T2 a3)),(39,(.val T4 v))],[(0,.row T57 r0 58)]⟩) o
noncomputable def solve_Run_h_2.c1x (o:Bool):Ex:=(fun _=>.normal) o
noncomputable def solve_Run_h_2.c1n (o:Bool):Nat:=(fun _=>1) o
theorem solve_Run_h_2.c1_ok (k:Nat) (a1:(List V39)) (a2 a3:Int) (r0:(List V57)):Owp (solve_Run_h_2.c1 k a2 a3) fun o=>Triple PR (solve_Run_h_2.cx k) (sub solve_Run_h_2.code [1,1,0,0]) 1 (solve_Run_h_2.c1p a1 a2 a3 r0) (solve_Run_h_2.c1x o) (solve_Run_h_2.c1n o) (solve_Run_h_2.c1q a1 a2 a3 r0 o):=by
 unfold solve_Run_h_2.c1; exact
  oF (fun e4 =>
  oS (tW (solve_Run_h_2.cok k) hmix [tT,tT,tT,tT,tT,tT,tT,tT,tT] [] [(0,0)] (via (finP (aI (aI (aI (aI (aI (aI (aI (aI (aI tv0 e4) e4) e4) tt) tt) tt) tt) tt) tt) .normal [(0,0)] (solve_Run_h_2.c1q a1 a2 a3 r0 true)) (by kernel_rfl)))) (fun e4 =>
  oF (fun e5 =>
  oS (tW (solve_Run_h_2.cok k) hmix [fF,fF,fF,tT,tT,tT,tT,tT,tT] [] [(0,0)] (via (finP (aI (aI (aI (aI (aI (aI (aI (aI (aI tv0 e4) e4) e4) e5) e5) e5) tt) tt) tt) .normal [(0,0)] (solve_Run_h_2.c1q a1 a2 a3 r0 true)) (by kernel_rfl)))) (fun e5 =>
  oF (fun e6 =>
  oS (tW (solve_Run_h_2.cok k) hmix [fF,fF,fF,fF,fF,fF,tT,tT,tT] [] [(0,0)] (via (finP (aI (aI (aI (aI (aI (aI (aI (aI (aI tv0 e4) e4) e4) e5) e5) e5) e6) e6) e6) .normal [(0,0)] (solve_Run_h_2.c1q a1 a2 a3 r0 true)) (by kernel_rfl)))) (fun e6 =>
  oS (tW (solve_Run_h_2.cok k) hmix [fF,fF,fF,fF,fF,fF,fF,fF,fF] [] [(0,0)] (via (finP (aI (aI (aI (aI (aI (aI (aI (aI (aI tv0 e4) e4) e4) e5) e5) e5) e6) e6) e6) .normal [(0,0)] (solve_Run_h_2.c1q a1 a2 a3 r0 (igt a3 (32:Int)))) (by kernel_rfl))))))
noncomputable def solve_Run_h_2.c2p (a2 a3:Int) (r0:(List V57)) (y10:(List V39)) (v12:Int) (v13:(List V57)):SL:=⟨[(2,(.val T2 a2)),(3,(.val T2 a3)),(12,(.val .ptr ⟨1,0,(0:Int),0,0⟩)),(44,(.val .own (0:Nat))),(45,(.val T2 (len r0))),(46,(.val T2 v12))],[(0,.row T57 r0 58),(1,.cells (.pair .own (.pair .own (.pair .nil .unit))) ((2:Nat),(3:Nat),((),()))),(2,.row T57 v13 58),(3,.row T39 y10 40)]⟩
noncomputable def solve_Run_h_2.c2q (a2 a3:Int) (r0:(List V57)) (y10:(List V39)) (o:(List V57)):SL:=(fun v=>⟨[(2,(.val T2 a2)),(3,(.val T2 a3)),(12,(.val .ptr ⟨1,0,(0:Int),0,0⟩))],[(0,.row T57 r0 58),(1,.cells (.pair .own (.pair .own (.pair .nil .unit))) ((2:Nat),(3:Nat),((),()))),(2,.row T57 v 58),(3,.row T39 y10 40)]⟩) o
noncomputable def solve_Run_h_2.c2x (o:(List V57)):Ex:=(fun _=>(.exit 0)) o
noncomputable def solve_Run_h_2.c2n (o:(List V57)):Nat:=(fun _=>4) o
theorem solve_Run_h_2.c2_ok (k:Nat) (a2 a3:Int) (r0:(List V57)) (y10:(List V39)):∀ (n:Nat) (v12:Int) (v13:(List V57)),Owp (solve_Run_h_2.c2 k r0 n v12 v13) fun o=>LTriple PR (solve_Run_h_2.cx k) (sub solve_Run_h_2.code [1,1,1,1,0,1,0,0]) 4 (solve_Run_h_2.c2p a2 a3 r0 y10 v12 v13) (solve_Run_h_2.c2x o) (solve_Run_h_2.c2n o) (solve_Run_h_2.c2q a2 a3 r0 y10 o)
 | 0,_,_=>fun _ h=>nomatch h
 | n+1,v12,v13=>Owp.of (solve_Run_h_2.c2.eq_2 ..) (
  oF (fun e14 =>
  oR fun h15 =>
  oB fun y16 e17 =>
  oR fun h18 =>
  fun y hy=>loop_back (solve_Run_h_2.cok k) hmix 4 (solve_Run_h_2.c2p a2 a3 r0 y10 (iadd .i64 v12 (1:Int)) (v13++[((el Z57 r0 v12).1,(el Z57 r0 v12).2.1,(el Z57 r0 v12).2.2.1,(el Z57 r0 v12).2.2.2.1,(el Z57 r0 v12).2.2.2.2.1,(el Z57 r0 v12).2.2.2.2.2.1,(el Z57 r0 v12).2.2.2.2.2.2.1,(el Z57 r0 v12).2.2.2.2.2.2.2.1,y16,(el Z57 r0 v12).2.2.2.2.2.2.2.2.2)])) [tT,rS T56 y16,tT] [] [(0,0),(1,1),(2,21),(3,3)] (via (finP (aI (aI (aI (aI (aI tv0 e14) h15) h15) e17) h18) .normal [(0,0),(1,1),(2,21),(3,3)] (solve_Run_h_2.c2p a2 a3 r0 y10 (iadd .i64 v12 (1:Int)) (v13++[((el Z57 r0 v12).1,(el Z57 r0 v12).2.1,(el Z57 r0 v12).2.2.1,(el Z57 r0 v12).2.2.2.1,(el Z57 r0 v12).2.2.2.2.1,(el Z57 r0 v12).2.2.2.2.2.1,(el Z57 r0 v12).2.2.2.2.2.2.1,(el Z57 r0 v12).2.2.2.2.2.2.2.1,y16,(el Z57 r0 v12).2.2.2.2.2.2.2.2.2)]))) (by kernel_rfl)) ((solve_Run_h_2.c2_ok k a2 a3 r0 y10 n (iadd .i64 v12 (1:Int)) (v13++[((el Z57 r0 v12).1,(el Z57 r0 v12).2.1,(el Z57 r0 v12).2.2.1,(el Z57 r0 v12).2.2.2.1,(el Z57 r0 v12).2.2.2.2.1,(el Z57 r0 v12).2.2.2.2.2.1,(el Z57 r0 v12).2.2.2.2.2.2.1,(el Z57 r0 v12).2.2.2.2.2.2.2.1,y16,(el Z57 r0 v12).2.2.2.2.2.2.2.2.2)])).ap hy)) (fun e14 =>
  oS (loop_exit (solve_Run_h_2.cok k) hmix [fF] [] [(0,0),(1,1),(2,2),(3,3)] (exne 0) (via (finP (aI tv0 e14) (.exit 0) [(0,0),(1,1),(2,2),(3,3)] (solve_Run_h_2.c2q a2 a3 r0 y10 v13)) (by kernel_rfl)))))
noncomputable def solve_Run_h_2.c3p (a2 a3:Int) (o19 r0:(List V57)) (y10:(List V39)) (v21:Int) (v22:(List V96)):SL:=⟨[(2,(.val T2 a2)),(3,(.val T2 a3)),(12,(.val .ptr ⟨1,0,(0:Int),0,0⟩)),(68,(.val .own (2:Nat))),(69,(.val T2 (len y10))),(70,(.val T2 v21))],[(0,.row T57 r0 58),(1,.cells (.pair .own (.pair .own (.pair .own .unit))) ((3:Nat),(2:Nat),(4:Nat),())),(2,.row T39 y10 40),(3,.row T57 o19 58),(4,.row T96 v22 97)]⟩
noncomputable def solve_Run_h_2.c3q (a3:Int) (o19 r0:(List V57)) (y10:(List V39)) (o:(List V96)):SL:=(fun v=>⟨[(3,(.val T2 a3)),(12,(.val .ptr ⟨1,0,(0:Int),0,0⟩))],[(0,.row T57 r0 58),(1,.cells (.pair .own (.pair .own (.pair .own .unit))) ((2:Nat),(3:Nat),(4:Nat),())),(2,.row T57 o19 58),(3,.row T39 y10 40),(4,.row T96 v 97)]⟩) o
noncomputable def solve_Run_h_2.c3x (o:(List V96)):Ex:=(fun _=>(.exit 2)) o
noncomputable def solve_Run_h_2.c3n (o:(List V96)):Nat:=(fun _=>5) o
theorem solve_Run_h_2.c3_ok (k:Nat) (a2 a3:Int) (o19 r0:(List V57)) (y10:(List V39)):∀ (n:Nat) (v21:Int) (v22:(List V96)),Owp (solve_Run_h_2.c3 k a2 o19 y10 n v21 v22) fun o=>LTriple PR (solve_Run_h_2.cx k) (sub solve_Run_h_2.code [1,1,1,1,1,0,1,0,0]) 5 (solve_Run_h_2.c3p a2 a3 o19 r0 y10 v21 v22) (solve_Run_h_2.c3x o) (solve_Run_h_2.c3n o) (solve_Run_h_2.c3q a3 o19 r0 y10 o)
 | 0,_,_=>fun _ h=>nomatch h
 | n+1,v21,v22=>Owp.of (solve_Run_h_2.c3.eq_2 ..) (
  oF (fun e23 =>
  oR fun h24 =>
  oB fun y25 e26 =>
  oR fun h27 =>
  fun y hy=>loop_back (solve_Run_h_2.cok k) hmix 5 (solve_Run_h_2.c3p a2 a3 o19 r0 y10 (iadd .i64 v21 (1:Int)) (v22++[y25])) [tT,.hres [(0,1),(1,3),(2,2),(3,4)] (.pair T39 (.pair T2 (.pair (.slice T57) (.pair (.slice T39) (.pair (.slice T96) .unit))))) ((el Z39 y10 v21),a2,o19,y10,v22,()) T96 y25,tT] [] [(0,0),(1,1),(2,2),(3,3),(4,20)] (via (finP (aI (aI (aI (aI (aI tv0 e23) h24) h24) (callHP (solve_solver_row_2.h k) [(0,1),(1,3),(2,2),(3,4)] ((el Z39 y10 v21),a2,o19,y10,v22,()) e26)) h27) .normal [(0,0),(1,1),(2,2),(3,3),(4,20)] (solve_Run_h_2.c3p a2 a3 o19 r0 y10 (iadd .i64 v21 (1:Int)) (v22++[y25]))) (by kernel_rfl)) ((solve_Run_h_2.c3_ok k a2 a3 o19 r0 y10 n (iadd .i64 v21 (1:Int)) (v22++[y25])).ap hy)) (fun e23 =>
  oS (loop_exit (solve_Run_h_2.cok k) hmix [fF] [] [(0,0),(1,1),(2,3),(3,2),(4,4)] (exne 2) (via (finP (aI tv0 e23) (.exit 2) [(0,0),(1,1),(2,3),(3,2),(4,4)] (solve_Run_h_2.c3q a3 o19 r0 y10 v22)) (by kernel_rfl)))))
noncomputable def solve_Run_h_2.c4p (a3:Int) (o28:(List V96)) (r0:(List V57)) (y10:(List V39)) (v30:Int) (v31:(List V57)):SL:=⟨[(3,(.val T2 a3)),(12,(.val .ptr ⟨1,0,(0:Int),0,0⟩)),(91,(.val .own (2:Nat))),(92,(.val T2 (len y10))),(93,(.val T2 v30))],[(0,.row T57 r0 58),(1,.cells (.pair .own (.pair .own (.pair .own .unit))) ((3:Nat),(2:Nat),(4:Nat),())),(2,.row T39 y10 40),(3,.row T57 v31 58),(4,.row T96 o28 97)]⟩
noncomputable def solve_Run_h_2.c4q (a3:Int) (o28:(List V96)) (r0:(List V57)) (y10:(List V39)) (o:(List V57)):SL:=(fun v=>⟨[(3,(.val T2 a3)),(12,(.val .ptr ⟨1,0,(0:Int),0,0⟩))],[(0,.row T57 r0 58),(1,.cells (.pair .own (.pair .own (.pair .own .unit))) ((2:Nat),(3:Nat),(4:Nat),())),(2,.row T57 v 58),(3,.row T39 y10 40),(4,.row T96 o28 97)]⟩) o
noncomputable def solve_Run_h_2.c4x (o:(List V57)):Ex:=(fun _=>(.exit 4)) o
noncomputable def solve_Run_h_2.c4n (o:(List V57)):Nat:=(fun _=>5) o
theorem solve_Run_h_2.c4_ok (k:Nat) (a3:Int) (o28:(List V96)) (r0:(List V57)) (y10:(List V39)):∀ (n:Nat) (v30:Int) (v31:(List V57)),Owp (solve_Run_h_2.c4 k o28 y10 n v30 v31) fun o=>LTriple PR (solve_Run_h_2.cx k) (sub solve_Run_h_2.code [1,1,1,1,1,1,0,1,0,0]) 5 (solve_Run_h_2.c4p a3 o28 r0 y10 v30 v31) (solve_Run_h_2.c4x o) (solve_Run_h_2.c4n o) (solve_Run_h_2.c4q a3 o28 r0 y10 o)
 | 0,_,_=>fun _ h=>nomatch h
 | n+1,v30,v31=>Owp.of (solve_Run_h_2.c4.eq_2 ..) (
  oF (fun e32 =>
  oR fun h33 =>
  oB fun y34 e35 =>
  oR fun h36 =>
  oB fun y37 e38 =>
  oB fun y39 e40 =>
  oB fun y41 e42 =>
  fun y hy=>loop_back (solve_Run_h_2.cok k) hmix 5 (solve_Run_h_2.c4p a3 o28 r0 y10 (iadd .i64 v30 (1:Int)) y41) [tT,rS T26 y34,rS T26 y37,rS T26 y39,.hres [(0,1),(1,3),(2,2),(3,4)] (.pair T39 (.pair T26 (.pair (.slice T57) (.pair (.slice T39) (.pair (.slice T96) .unit))))) ((el Z39 y10 v30),y39,v31,y10,o28,()) (.slice T57) y41] [] [(0,0),(1,1),(2,2),(3,3),(4,4)] (via (finP (aI (aI (aI (aI (aI (aI (aI (aI (aI tv0 e32) h33) h33) e35) h36) h36) e38) e40) (callHP (solve_solver_push.h k) [(0,1),(1,3),(2,2),(3,4)] ((el Z39 y10 v30),y39,v31,y10,o28,()) e42)) .normal [(0,0),(1,1),(2,2),(3,3),(4,4)] (solve_Run_h_2.c4p a3 o28 r0 y10 (iadd .i64 v30 (1:Int)) y41)) (by kernel_rfl)) ((solve_Run_h_2.c4_ok k a3 o28 r0 y10 n (iadd .i64 v30 (1:Int)) y41).ap hy)) (fun e32 =>
  oS (loop_exit (solve_Run_h_2.cok k) hmix [fF] [] [(0,0),(1,1),(2,3),(3,2),(4,4)] (exne 4) (via (finP (aI tv0 e32) (.exit 4) [(0,0),(1,1),(2,3),(3,2),(4,4)] (solve_Run_h_2.c4q a3 o28 r0 y10 v31)) (by kernel_rfl)))))
noncomputable def solve_Run_h_2.c6p (a3:Int) (o28:(List V96)) (r0:(List V57)) (v45:Int) (v47:(List V39)) (v49:Int) (v50:(List V57)) (v51:(List V39)):SL:=⟨[(12,(.val .ptr ⟨1,0,(0:Int),0,0⟩)),(119,(.val T2 a3)),(120,(.val T2 v45)),(126,(.val T2 (len v47))),(127,(.val T2 v49))],[(0,.row T57 r0 58),(1,.cells (.pair .own (.pair .own (.pair .own .unit))) ((2:Nat),(3:Nat),(4:Nat),())),(2,.row T57 v50 58),(3,.row T39 v51 40),(4,.row T96 o28 97)]⟩
noncomputable def solve_Run_h_2.c6q (a3:Int) (o28:(List V96)) (r0:(List V57)) (v45:Int) (o:((List V57) × (List V39))):SL:=(fun v=>⟨[(12,(.val .ptr ⟨1,0,(0:Int),0,0⟩)),(119,(.val T2 a3)),(120,(.val T2 v45))],[(0,.row T57 r0 58),(1,.cells (.pair .own (.pair .own (.pair .own .unit))) ((2:Nat),(3:Nat),(4:Nat),())),(2,.row T57 v.1 58),(3,.row T39 v.2 40),(4,.row T96 o28 97)]⟩) o
noncomputable def solve_Run_h_2.c6x (o:((List V57) × (List V39))):Ex:=(fun _=>(.exit 8)) o
noncomputable def solve_Run_h_2.c6n (o:((List V57) × (List V39))):Nat:=(fun _=>5) o
theorem solve_Run_h_2.c6_ok (k:Nat) (a3:Int) (o28:(List V96)) (r0:(List V57)) (v45:Int) (v47:(List V39)):∀ (n:Nat) (v49:Int) (v50:(List V57)) (v51:(List V39)),Owp (solve_Run_h_2.c6 k o28 v47 n v49 v50 v51) fun o=>LTriple PR (solve_Run_h_2.cx k) (sub solve_Run_h_2.code [1,1,1,1,1,1,1,0,1,0,0,1,1,0,0,1,0,0]) 5 (solve_Run_h_2.c6p a3 o28 r0 v45 v47 v49 v50 v51) (solve_Run_h_2.c6x o) (solve_Run_h_2.c6n o) (solve_Run_h_2.c6q a3 o28 r0 v45 o)
 | 0,_,_,_=>fun _ h=>nomatch h
 | n+1,v49,v50,v51=>Owp.of (solve_Run_h_2.c6.eq_2 ..) (
  oF (fun e52 =>
  oB fun y53 e54 =>
  fun y hy=>loop_back (solve_Run_h_2.cok k) hmix 5 (solve_Run_h_2.c6p a3 o28 r0 v45 v47 (iadd .i64 v49 (1:Int)) y53.1 y53.2) [tT,.hres [(0,1),(1,2),(2,3),(3,4)] (.pair T2 (.pair (.slice T57) (.pair (.slice T39) (.pair (.slice T96) .unit)))) (v49,v50,v51,o28,()) (.pair (.slice T57) (.slice T39)) y53] [] [(0,0),(1,1),(2,2),(3,3),(4,4)] (via (finP (aI (aI tv0 e52) (callHP (solve_solver_round.h k) [(0,1),(1,2),(2,3),(3,4)] (v49,v50,v51,o28,()) e54)) .normal [(0,0),(1,1),(2,2),(3,3),(4,4)] (solve_Run_h_2.c6p a3 o28 r0 v45 v47 (iadd .i64 v49 (1:Int)) y53.1 y53.2)) (by kernel_rfl)) ((solve_Run_h_2.c6_ok k a3 o28 r0 v45 v47 n (iadd .i64 v49 (1:Int)) y53.1 y53.2).ap hy)) (fun e52 =>
  oS (loop_exit (solve_Run_h_2.cok k) hmix [fF] [] [(0,0),(1,1),(2,2),(3,3),(4,4)] (exne 8) (via (finP (aI tv0 e52) (.exit 8) [(0,0),(1,1),(2,2),(3,3),(4,4)] (solve_Run_h_2.c6q a3 o28 r0 v45 (v50,v51))) (by kernel_rfl)))))
noncomputable def solve_Run_h_2.c5p (a3:Int) (o28:(List V96)) (r0:(List V57)) (v45:Int) (v46:(List V57)) (v47:(List V39)):SL:=⟨[(12,(.val .ptr ⟨1,0,(0:Int),0,0⟩)),(119,(.val T2 a3)),(120,(.val T2 v45))],[(0,.row T57 r0 58),(1,.cells (.pair .own (.pair .own (.pair .own .unit))) ((2:Nat),(3:Nat),(4:Nat),())),(2,.row T57 v46 58),(3,.row T39 v47 40),(4,.row T96 o28 97)]⟩
noncomputable def solve_Run_h_2.c5q (o28:(List V96)) (r0:(List V57)) (o:((List V57) × (List V39))):SL:=(fun v=>⟨[(12,(.val .ptr ⟨1,0,(0:Int),0,0⟩))],[(0,.row T57 r0 58),(1,.cells (.pair .own (.pair .own (.pair .own .unit))) ((2:Nat),(3:Nat),(4:Nat),())),(2,.row T57 v.1 58),(3,.row T39 v.2 40),(4,.row T96 o28 97)]⟩) o
noncomputable def solve_Run_h_2.c5x (o:((List V57) × (List V39))):Ex:=(fun _=>(.exit 6)) o
noncomputable def solve_Run_h_2.c5n (o:((List V57) × (List V39))):Nat:=(fun _=>5) o
theorem solve_Run_h_2.c5_ok (k:Nat) (a3:Int) (o28:(List V96)) (r0:(List V57)):∀ (n:Nat) (v45:Int) (v46:(List V57)) (v47:(List V39)),Owp (solve_Run_h_2.c5 k a3 o28 n v45 v46 v47) fun o=>LTriple PR (solve_Run_h_2.cx k) (sub solve_Run_h_2.code [1,1,1,1,1,1,1,0,1,0,0]) 5 (solve_Run_h_2.c5p a3 o28 r0 v45 v46 v47) (solve_Run_h_2.c5x o) (solve_Run_h_2.c5n o) (solve_Run_h_2.c5q o28 r0 o)
 | 0,_,_,_=>fun _ h=>nomatch h
 | n+1,v45,v46,v47=>Owp.of (solve_Run_h_2.c5.eq_2 ..) (
  oF (fun e48 =>
  oB fun o55 e56 =>
  fun y hy=>loop_back (solve_Run_h_2.cok k) hmix 5 (solve_Run_h_2.c5p a3 o28 r0 (iadd .i64 v45 (1:Int)) o55.1 o55.2) [tT,.cut ⟨[],[(0,0),(1,1),(2,2),(3,3),(4,4)],(solve_Run_h_2.c6p a3 o28 r0 v45 v47 (0:Int) v46 v47),5,(.exit 8),(solve_Run_h_2.c6q a3 o28 r0 v45 o55),5⟩] [] [(0,0),(1,1),(2,2),(3,3),(4,4)] (via (cutP (aI tv0 e48) [(0,0),(1,1),(2,2),(3,3),(4,4)] (solve_Run_h_2.c6p a3 o28 r0 v45 v47 (0:Int) v46 v47) (((solve_Run_h_2.c6_ok k a3 o28 r0 v45 v47 k (0:Int) v46 v47).ap e56).triple) (finP tv0 .normal [(0,0),(1,1),(2,2),(3,3),(4,4)] (solve_Run_h_2.c5p a3 o28 r0 (iadd .i64 v45 (1:Int)) o55.1 o55.2))) (by kernel_rfl)) ((solve_Run_h_2.c5_ok k a3 o28 r0 n (iadd .i64 v45 (1:Int)) o55.1 o55.2).ap hy)) (fun e48 =>
  oS (loop_exit (solve_Run_h_2.cok k) hmix [fF] [] [(0,0),(1,1),(2,2),(3,3),(4,4)] (exne 6) (via (finP (aI tv0 e48) (.exit 6) [(0,0),(1,1),(2,2),(3,3),(4,4)] (solve_Run_h_2.c5q o28 r0 (v46,v47))) (by kernel_rfl)))))
@[irreducible] noncomputable def solve_Run_h_2.P (k:Nat) (a1:(List V39)) (a2 a3:Int) (r0:(List V57)) (y:((List V57) × ((List V39) × Int))) (w:List Ans) (c0:List Cmd):Prop:=exec PR (solve_Run_h_2.cx k) solve_Run_h_2.code 1 (entryH (solve_Run_h_2.h k) (a1,a2,a3,r0,())).st w (RetH (solve_Run_h_2.cx k) Tryz.f25 c0 (solve_Run_h_2.h k) (a1,a2,a3,r0,()) y)
theorem solve_Run_h_2.way (k:Nat) (a1:(List V39)) (a2 a3:Int) (r0:(List V57)):Owp (solve_Run_h_2 k a1 a2 a3 r0) fun y=>∃ w c0,solve_Run_h_2.P k a1 a2 a3 r0 y w c0:=by
 unfold solve_Run_h_2; exact
  oB fun y1 e2 =>
  oF (fun e3 =>
  oS (⟨[rS T2 y1,tT],[.deep 8 T57,.deep 9 T39],via (rethP (aI (aI tv0 e2) e3) [(0,.row T57 r0 58)] (.more (.dp (.slice T57)) (.more (.dp (.slice T39)) (.one (.dp T2)))) (([],[],y1):((List V57) × ((List V39) × Int)))) (by kernel_rfl)⟩)) (fun e3 =>
  oB fun o7 e8 =>
  oF (fun e9 =>
  oS (⟨[rS T2 y1,fF,.cutR 4 ⟨[],[(0,0)],(solve_Run_h_2.c1p a1 a2 a3 r0),1,.normal,(solve_Run_h_2.c1q a1 a2 a3 r0 o7),1⟩,tT],[.deep 8 T57,.deep 9 T39],via (cutP (aI (aI tv0 e2) e3) [(0,0)] (solve_Run_h_2.c1p a1 a2 a3 r0) (((solve_Run_h_2.c1_ok k a1 a2 a3 r0).ap e8)) (rethP (aI tv0 e9) [(0,.row T57 r0 58)] (.more (.dp (.slice T57)) (.more (.dp (.slice T39)) (.one (.dp T2)))) (([],[],(1:Int)):((List V57) × ((List V39) × Int))))) (by kernel_rfl)⟩)) (fun e9 =>
  oB fun y10 e11 =>
  oB fun o19 e20 =>
  oB fun o28 e29 =>
  oB fun o43 e44 =>
  oB fun o57 e58 =>
  oS (⟨[rS T2 y1,fF,.cutR 4 ⟨[],[(0,0)],(solve_Run_h_2.c1p a1 a2 a3 r0),1,.normal,(solve_Run_h_2.c1q a1 a2 a3 r0 o7),1⟩,fF,.res (.one (.ow T39 40)) y10,.cut ⟨[.ownF 4 0 T57 58],[(0,0),(1,4),(2,9),(3,2)],(solve_Run_h_2.c2p a2 a3 r0 y10 (0:Int) []),4,(.exit 0),(solve_Run_h_2.c2q a2 a3 r0 y10 o19),4⟩,.cut ⟨[.ownF 1 2 T96 97],[(0,0),(1,1),(2,3),(3,2),(4,10)],(solve_Run_h_2.c3p a2 a3 o19 r0 y10 (0:Int) []),5,(.exit 2),(solve_Run_h_2.c3q a3 o19 r0 y10 o28),5⟩,.cut ⟨[],[(0,0),(1,1),(2,3),(3,2),(4,4)],(solve_Run_h_2.c4p a3 o28 r0 y10 (0:Int) o19),5,(.exit 4),(solve_Run_h_2.c4q a3 o28 r0 y10 o43),5⟩,.cut ⟨[],[(0,0),(1,1),(2,2),(3,3),(4,4)],(solve_Run_h_2.c5p a3 o28 r0 (0:Int) o43 y10),5,(.exit 6),(solve_Run_h_2.c5q o28 r0 o57),5⟩],[.freeze 8,.freeze 9],via (cutP (aI (aI tv0 e2) e3) [(0,0)] (solve_Run_h_2.c1p a1 a2 a3 r0) (((solve_Run_h_2.c1_ok k a1 a2 a3 r0).ap e8)) (cutP (aI (aI tv0 e9) e11) [(0,0),(1,4),(2,9),(3,2)] (solve_Run_h_2.c2p a2 a3 r0 y10 (0:Int) []) (((solve_Run_h_2.c2_ok k a2 a3 r0 y10 k (0:Int) []).ap e20).triple) (cutP tv0 [(0,0),(1,1),(2,3),(3,2),(4,10)] (solve_Run_h_2.c3p a2 a3 o19 r0 y10 (0:Int) []) (((solve_Run_h_2.c3_ok k a2 a3 o19 r0 y10 k (0:Int) []).ap e29).triple) (cutP tv0 [(0,0),(1,1),(2,3),(3,2),(4,4)] (solve_Run_h_2.c4p a3 o28 r0 y10 (0:Int) o19) (((solve_Run_h_2.c4_ok k a3 o28 r0 y10 k (0:Int) o19).ap e44).triple) (cutP tv0 [(0,0),(1,1),(2,2),(3,3),(4,4)] (solve_Run_h_2.c5p a3 o28 r0 (0:Int) o43 y10) (((solve_Run_h_2.c5_ok k a3 o28 r0 k (0:Int) o43 y10).ap e58).triple) (rethP tv0 [(0,.row T57 r0 58)] (.more (.dp (.slice T57)) (.more (.dp (.slice T39)) (.one (.dp T2)))) ((o57.1,o57.2,(0:Int)):((List V57) × ((List V39) × Int))))))))) (by kernel_rfl)⟩)))
theorem solve_Run_h_2.ok (k:Nat):HOk PR 25 (solve_Run_h_2.h k) :=
 fnH_ok (solve_Run_h_2.cok k) hmix Tryz.func25 (code:=solve_Run_h_2.code) (by kernel_rfl) (by kernel_rfl) (by kernel_rfl) (by kernel_rfl) (by kernel_rfl) (by kernel_rfl) (fun x=>Nat.le_of_ble_eq_true (by kernel_rfl)) fun x y hy=>match (solve_Run_h_2.way k x.1 x.2.1 x.2.2.1 x.2.2.2.1).ap hy with | ⟨ans,c0,h⟩=>⟨ans,c0,via h (by kernel_rfl)⟩
end Go.Proofs.T1
