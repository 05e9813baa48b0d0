import Derived.Test.YthpbadopmihmpaaGreatG0
import Derived.Test.YthpbadopmihmpaaGreatG3
import Derived.Test.YthpbadopmihmpaaGreatG10
namespace Go.Proofs.T1
open Go Go.Sx Go.Proofs
set_option maxRecDepth 100000
set_option linter.unusedVariables false
noncomputable def joint_Run_h.code:Code:=Func.cd Tryz.f43
noncomputable def joint_Run_h.c1 (k:Nat) (a2 a3:Int):Option (Bool) :=
 bif' (ilt a2 1)
 (some true)
 (bif' (igt a2 65536)
  (some true)
  (bif' (ilt a3 0)
  (some true)
  (some (igt a3 32))))
noncomputable def joint_Run_h.c2 (k:Nat) (r0:(List V45)):Nat→Int→(List V45)→Option ((List V45))
 | 0,_,_=>none
 | n+1,v10,v11 =>
  bif' (ilt v10 (len r0))
  (req (inL v10 r0) <|bnd (slices_Clone_66 k (el Z45 r0 v10).2.2.2.2.2.2.2.2.1) fun y14 =>
  req (room 120 v11 [((el Z45 r0 v10).1,(el Z45 r0 v10).2.1,(el Z45 r0 v10).2.2.1,(el Z45 r0 v10).2.2.2.1,(el Z45 r0 v10).2.2.2.2.1,(el Z45 r0 v10).2.2.2.2.2.1,(el Z45 r0 v10).2.2.2.2.2.2.1,(el Z45 r0 v10).2.2.2.2.2.2.2.1,y14,(el Z45 r0 v10).2.2.2.2.2.2.2.2.2)]) <|joint_Run_h.c2 k r0 n (iadd .i64 v10 1) (v11++[((el Z45 r0 v10).1,(el Z45 r0 v10).2.1,(el Z45 r0 v10).2.2.1,(el Z45 r0 v10).2.2.2.1,(el Z45 r0 v10).2.2.2.2.1,(el Z45 r0 v10).2.2.2.2.2.1,(el Z45 r0 v10).2.2.2.2.2.2.1,(el Z45 r0 v10).2.2.2.2.2.2.2.1,y14,(el Z45 r0 v10).2.2.2.2.2.2.2.2.2)]))
  (some v11)
noncomputable def joint_Run_h.c4 (k:Nat) (a1:(List V48)):Nat→Option (Unit)
 | 0=>none
 | n+1 =>
  bif' (ilt 0 (len a1))
  (req (inL 0 a1) <|none)
  (some ())
noncomputable def joint_Run_h.c3 (k:Nat) (a1:(List V48)) (a3:Int):Nat→Int→Option (Unit)
 | 0,_=>none
 | n+1,v19 =>
  bif' (ilt v19 a3)
  (bnd (joint_Run_h.c4 k a1 k) fun o23 =>
  joint_Run_h.c3 k a1 a3 n (iadd .i64 v19 1))
  (some ())
noncomputable def joint_Run_h (k:Nat) (a1:(List V48)) (a2 a3:Int) (r0:(List V45)):Option ((List V45) × Int) :=
 bnd (joint_Check k r0 a1) fun y1 =>
 bif' (ine y1 0)
 (some ([],y1))
 (bnd (joint_Run_h.c1 k a2 a3) fun o7 =>
  bif' o7
  (some ([],1))
  (bnd (joint_Run_h.c2 k r0 k 0 []) fun o17 =>
  bnd (joint_Run_h.c3 k a1 a3 k 0) fun o25 =>
  some (o17,0)))
noncomputable def joint_Run_h.h (k:Nat):Go.Sx.HSp:=⟨(.pair (.slice T48) (.pair T2 (.pair T2 (.pair (.slice T45) .unit)))),(.pair (.slice T45) T2),1,fun x=>[.lent (.val .own (0:Nat)),.dat (.slice T48) x.1,.dat T2 x.2.1,.dat T2 x.2.2.1],fun x=>[(0,.row T45 x.2.2.2.1 46)],fun x=>joint_Run_h k x.1 x.2.1 x.2.2.1 x.2.2.2.1,fun x y=>[(0,.row T45 x.2.2.2.1 46)],(.more (.dp (.slice T45)) (.one (.dp T2))),fun y=>y,true,false⟩
noncomputable def joint_Run_h.cx (k:Nat):Go.Sx.Ctx:=⟨tys,[(59,joint_Check.sp k),(66,(slices_Clone_66.sp k).frz)],eqs,117,1,[],false⟩
theorem joint_Run_h.cok (k:Nat):CtxOk PR (joint_Run_h.cx k):=ctx_ok tysOk eqsOk (fC (joint_Check.ok k) (fC (FnOk.frz rfl (slices_Clone_66.ok k)) FnsOk.nil)) HsOk.nil
noncomputable def joint_Run_h.c1p (a1:(List V48)) (a2 a3:Int) (r0:(List V45)):SL:=⟨[(0,(.val .own (0:Nat))),(1,(.val (.slice T48) a1)),(2,(.val T2 a2)),(3,(.val T2 a3))],[(0,.row T45 r0 46)]⟩
noncomputable def joint_Run_h.c1q (a1:(List V48)) (a2 a3:Int) (r0:(List V45)) (o:Bool):SL:=(fun v=>⟨[(0,(.val .own (0:Nat))),(1,(.val (.slice T48) a1)),(2,(.val T2 a2)),(3,(.val T2 a3)),(40,(.val T4 v))],[(0,.row T45 r0 46)]⟩) o
noncomputable def joint_Run_h.c1x (o:Bool):Ex:=(fun _=>.normal) o
noncomputable def joint_Run_h.c1n (o:Bool):Nat:=(fun _=>1) o
theorem joint_Run_h.c1_ok (k:Nat) (a1:(List V48)) (a2 a3:Int) (r0:(List V45)):Owp (joint_Run_h.c1 k a2 a3) fun o=>Triple PR (joint_Run_h.cx k) (sub joint_Run_h.code [1,1,0,0]) 1 (joint_Run_h.c1p a1 a2 a3 r0) (joint_Run_h.c1x o) (joint_Run_h.c1n o) (joint_Run_h.c1q a1 a2 a3 r0 o):=by
 unfold joint_Run_h.c1; exact
  oF (fun e4 =>
  oS (tW (joint_Run_h.cok k) hmix [tT,tT,tT,tT,tT,tT,tT,tT,tT] [] [(0,0)] (via (finP (aI (aI (aI (aI (aI (aI (aI (aI (aI tv0 e4) e4) e4) tt) tt) tt) tt) tt) tt) .normal [(0,0)] (joint_Run_h.c1q a1 a2 a3 r0 true)) (by kernel_rfl)))) (fun e4 =>
  oF (fun e5 =>
  oS (tW (joint_Run_h.cok k) hmix [fF,fF,fF,tT,tT,tT,tT,tT,tT] [] [(0,0)] (via (finP (aI (aI (aI (aI (aI (aI (aI (aI (aI tv0 e4) e4) e4) e5) e5) e5) tt) tt) tt) .normal [(0,0)] (joint_Run_h.c1q a1 a2 a3 r0 true)) (by kernel_rfl)))) (fun e5 =>
  oF (fun e6 =>
  oS (tW (joint_Run_h.cok k) hmix [fF,fF,fF,fF,fF,fF,tT,tT,tT] [] [(0,0)] (via (finP (aI (aI (aI (aI (aI (aI (aI (aI (aI tv0 e4) e4) e4) e5) e5) e5) e6) e6) e6) .normal [(0,0)] (joint_Run_h.c1q a1 a2 a3 r0 true)) (by kernel_rfl)))) (fun e6 =>
  oS (tW (joint_Run_h.cok k) hmix [fF,fF,fF,fF,fF,fF,fF,fF,fF] [] [(0,0)] (via (finP (aI (aI (aI (aI (aI (aI (aI (aI (aI tv0 e4) e4) e4) e5) e5) e5) e6) e6) e6) .normal [(0,0)] (joint_Run_h.c1q a1 a2 a3 r0 (igt a3 (32:Int)))) (by kernel_rfl))))))
noncomputable def joint_Run_h.c2p (a1:(List V48)) (a2 a3:Int) (r0:(List V45)) (v10:Int) (v11:(List V45)):SL:=⟨[(1,(.val (.slice T48) a1)),(2,(.val T2 a2)),(3,(.val T2 a3)),(11,(.val .own (1:Nat))),(41,(.val .own (0:Nat))),(42,(.val T2 (len r0))),(43,(.val T2 v10))],[(0,.row T45 r0 46),(1,.row T45 v11 46)]⟩
noncomputable def joint_Run_h.c2q (a1:(List V48)) (a2 a3:Int) (r0 o:(List V45)):SL:=(fun v=>⟨[(1,(.val (.slice T48) a1)),(2,(.val T2 a2)),(3,(.val T2 a3)),(11,(.val .own (1:Nat)))],[(0,.row T45 r0 46),(1,.row T45 v 46)]⟩) o
noncomputable def joint_Run_h.c2x (o:(List V45)):Ex:=(fun _=>(.exit 0)) o
noncomputable def joint_Run_h.c2n (o:(List V45)):Nat:=(fun _=>2) o
theorem joint_Run_h.c2_ok (k:Nat) (a1:(List V48)) (a2 a3:Int) (r0:(List V45)):∀ (n:Nat) (v10:Int) (v11:(List V45)),Owp (joint_Run_h.c2 k r0 n v10 v11) fun o=>LTriple PR (joint_Run_h.cx k) (sub joint_Run_h.code [1,1,1,1,0,1,0,0]) 2 (joint_Run_h.c2p a1 a2 a3 r0 v10 v11) (joint_Run_h.c2x o) (joint_Run_h.c2n o) (joint_Run_h.c2q a1 a2 a3 r0 o)
 | 0,_,_=>fun _ h=>nomatch h
 | n+1,v10,v11=>Owp.of (joint_Run_h.c2.eq_2 ..) (
  oF (fun e12 =>
  oR fun h13 =>
  oB fun y14 e15 =>
  oR fun h16 =>
  fun y hy=>loop_back (joint_Run_h.cok k) hmix 2 (joint_Run_h.c2p a1 a2 a3 r0 (iadd .i64 v10 (1:Int)) (v11++[((el Z45 r0 v10).1,(el Z45 r0 v10).2.1,(el Z45 r0 v10).2.2.1,(el Z45 r0 v10).2.2.2.1,(el Z45 r0 v10).2.2.2.2.1,(el Z45 r0 v10).2.2.2.2.2.1,(el Z45 r0 v10).2.2.2.2.2.2.1,(el Z45 r0 v10).2.2.2.2.2.2.2.1,y14,(el Z45 r0 v10).2.2.2.2.2.2.2.2.2)])) [tT,rS T36 y14,tT] [] [(0,0),(1,15)] (via (finP (aI (aI (aI (aI (aI tv0 e12) h13) h13) e15) h16) .normal [(0,0),(1,15)] (joint_Run_h.c2p a1 a2 a3 r0 (iadd .i64 v10 (1:Int)) (v11++[((el Z45 r0 v10).1,(el Z45 r0 v10).2.1,(el Z45 r0 v10).2.2.1,(el Z45 r0 v10).2.2.2.1,(el Z45 r0 v10).2.2.2.2.1,(el Z45 r0 v10).2.2.2.2.2.1,(el Z45 r0 v10).2.2.2.2.2.2.1,(el Z45 r0 v10).2.2.2.2.2.2.2.1,y14,(el Z45 r0 v10).2.2.2.2.2.2.2.2.2)]))) (by kernel_rfl)) ((joint_Run_h.c2_ok k a1 a2 a3 r0 n (iadd .i64 v10 (1:Int)) (v11++[((el Z45 r0 v10).1,(el Z45 r0 v10).2.1,(el Z45 r0 v10).2.2.1,(el Z45 r0 v10).2.2.2.1,(el Z45 r0 v10).2.2.2.2.1,(el Z45 r0 v10).2.2.2.2.2.1,(el Z45 r0 v10).2.2.2.2.2.2.1,(el Z45 r0 v10).2.2.2.2.2.2.2.1,y14,(el Z45 r0 v10).2.2.2.2.2.2.2.2.2)])).ap hy)) (fun e12 =>
  oS (loop_exit (joint_Run_h.cok k) hmix [fF] [] [(0,0),(1,1)] (exne 0) (via (finP (aI tv0 e12) (.exit 0) [(0,0),(1,1)] (joint_Run_h.c2q a1 a2 a3 r0 v11)) (by kernel_rfl)))))
noncomputable def joint_Run_h.c4p (a1:(List V48)) (a2 a3:Int) (o17 r0:(List V45)) (v19:Int):SL:=⟨[(1,(.val (.slice T48) a1)),(2,(.val T2 a2)),(11,(.val .own (1:Nat))),(56,(.val T2 a3)),(57,(.val T2 v19)),(59,(.val (.slice T48) a1)),(60,(.val T2 (len a1))),(61,(.val T2 (0:Int)))],[(0,.row T45 r0 46),(1,.row T45 o17 46)]⟩
noncomputable def joint_Run_h.c4q (a1:(List V48)) (a2 a3:Int) (o17 r0:(List V45)) (v19:Int) (o:Unit):SL:=(fun v=>⟨[(1,(.val (.slice T48) a1)),(2,(.val T2 a2)),(11,(.val .own (1:Nat))),(56,(.val T2 a3)),(57,(.val T2 v19))],[(0,.row T45 r0 46),(1,.row T45 o17 46)]⟩) o
noncomputable def joint_Run_h.c4x (o:Unit):Ex:=(fun _=>(.exit 4)) o
noncomputable def joint_Run_h.c4n (o:Unit):Nat:=(fun _=>2) o
theorem joint_Run_h.c4_ok (k:Nat) (a1:(List V48)) (a2 a3:Int) (o17 r0:(List V45)) (v19:Int):∀ (n:Nat),Owp (joint_Run_h.c4 k a1 n) fun o=>LTriple PR (joint_Run_h.cx k) (sub joint_Run_h.code [1,1,1,1,1,0,1,0,0,1,1,0,0,1,0,0]) 2 (joint_Run_h.c4p a1 a2 a3 o17 r0 v19) (joint_Run_h.c4x o) (joint_Run_h.c4n o) (joint_Run_h.c4q a1 a2 a3 o17 r0 v19 o)
 | 0=>fun _ h=>nomatch h
 | n+1=>Owp.of (joint_Run_h.c4.eq_2 ..) (
  oF (fun e21 =>
  oR fun h22 =>
  Owp.none) (fun e21 =>
  oS (loop_exit (joint_Run_h.cok k) hmix [fF] [] [(0,0),(1,1)] (exne 4) (via (finP (aI tv0 e21) (.exit 4) [(0,0),(1,1)] (joint_Run_h.c4q a1 a2 a3 o17 r0 v19 ())) (by kernel_rfl)))))
noncomputable def joint_Run_h.c3p (a1:(List V48)) (a2 a3:Int) (o17 r0:(List V45)) (v19:Int):SL:=⟨[(1,(.val (.slice T48) a1)),(2,(.val T2 a2)),(11,(.val .own (1:Nat))),(56,(.val T2 a3)),(57,(.val T2 v19))],[(0,.row T45 r0 46),(1,.row T45 o17 46)]⟩
noncomputable def joint_Run_h.c3q (o17 r0:(List V45)) (o:Unit):SL:=(fun v=>⟨[(11,(.val .own (1:Nat)))],[(0,.row T45 r0 46),(1,.row T45 o17 46)]⟩) o
noncomputable def joint_Run_h.c3x (o:Unit):Ex:=(fun _=>(.exit 2)) o
noncomputable def joint_Run_h.c3n (o:Unit):Nat:=(fun _=>2) o
theorem joint_Run_h.c3_ok (k:Nat) (a1:(List V48)) (a2 a3:Int) (o17 r0:(List V45)):∀ (n:Nat) (v19:Int),Owp (joint_Run_h.c3 k a1 a3 n v19) fun o=>LTriple PR (joint_Run_h.cx k) (sub joint_Run_h.code [1,1,1,1,1,0,1,0,0]) 2 (joint_Run_h.c3p a1 a2 a3 o17 r0 v19) (joint_Run_h.c3x o) (joint_Run_h.c3n o) (joint_Run_h.c3q o17 r0 o)
 | 0,_=>fun _ h=>nomatch h
 | n+1,v19=>Owp.of (joint_Run_h.c3.eq_2 ..) (
  oF (fun e20 =>
  oB fun o23 e24 =>
  fun y hy=>loop_back (joint_Run_h.cok k) hmix 2 (joint_Run_h.c3p a1 a2 a3 o17 r0 (iadd .i64 v19 (1:Int))) [tT,.cut ⟨[],[(0,0),(1,1)],(joint_Run_h.c4p a1 a2 a3 o17 r0 v19),2,(.exit 4),(joint_Run_h.c4q a1 a2 a3 o17 r0 v19 ()),2⟩] [] [(0,0),(1,1)] (via (cutP (aI tv0 e20) [(0,0),(1,1)] (joint_Run_h.c4p a1 a2 a3 o17 r0 v19) (((joint_Run_h.c4_ok k a1 a2 a3 o17 r0 v19 k).ap e24).triple) (finP tv0 .normal [(0,0),(1,1)] (joint_Run_h.c3p a1 a2 a3 o17 r0 (iadd .i64 v19 (1:Int))))) (by kernel_rfl)) ((joint_Run_h.c3_ok k a1 a2 a3 o17 r0 n (iadd .i64 v19 (1:Int))).ap hy)) (fun e20 =>
  oS (loop_exit (joint_Run_h.cok k) hmix [fF] [] [(0,0),(1,1)] (exne 2) (via (finP (aI tv0 e20) (.exit 2) [(0,0),(1,1)] (joint_Run_h.c3q o17 r0 ())) (by kernel_rfl)))))
@[irreducible] noncomputable def joint_Run_h.P (k:Nat) (a1:(List V48)) (a2 a3:Int) (r0:(List V45)) (y:((List V45) × Int)) (w:List Ans) (c0:List Cmd):Prop:=exec PR (joint_Run_h.cx k) joint_Run_h.code 1 (entryH (joint_Run_h.h k) (a1,a2,a3,r0,())).st w (RetH (joint_Run_h.cx k) Tryz.f43 c0 (joint_Run_h.h k) (a1,a2,a3,r0,()) y)
theorem joint_Run_h.way (k:Nat) (a1:(List V48)) (a2 a3:Int) (r0:(List V45)):Owp (joint_Run_h k a1 a2 a3 r0) fun y=>∃ w c0,joint_Run_h.P k a1 a2 a3 r0 y w c0:=by
 unfold joint_Run_h; exact
  oB fun y1 e2 =>
  oF (fun e3 =>
  oS (⟨[rS T2 y1,tT],[.deep 8 T45],via (rethP (aI (aI tv0 e2) e3) [(0,.row T45 r0 46)] (.more (.dp (.slice T45)) (.one (.dp T2))) (([],y1):((List V45) × Int))) (by kernel_rfl)⟩)) (fun e3 =>
  oB fun o7 e8 =>
  oF (fun e9 =>
  oS (⟨[rS T2 y1,fF,.cutR 4 ⟨[],[(0,0)],(joint_Run_h.c1p a1 a2 a3 r0),1,.normal,(joint_Run_h.c1q a1 a2 a3 r0 o7),1⟩,tT],[.deep 8 T45],via (cutP (aI (aI tv0 e2) e3) [(0,0)] (joint_Run_h.c1p a1 a2 a3 r0) (((joint_Run_h.c1_ok k a1 a2 a3 r0).ap e8)) (rethP (aI tv0 e9) [(0,.row T45 r0 46)] (.more (.dp (.slice T45)) (.one (.dp T2))) (([],(1:Int)):((List V45) × Int)))) (by kernel_rfl)⟩)) (fun e9 =>
  oB fun o17 e18 =>
  oB fun o25 e26 =>
  oS (⟨[rS T2 y1,fF,.cutR 4 ⟨[],[(0,0)],(joint_Run_h.c1p a1 a2 a3 r0),1,.normal,(joint_Run_h.c1q a1 a2 a3 r0 o7),1⟩,fF,.cut ⟨[.own 11 T45 46],[(0,0),(1,5)],(joint_Run_h.c2p a1 a2 a3 r0 (0:Int) []),2,(.exit 0),(joint_Run_h.c2q a1 a2 a3 r0 o17),2⟩,.cut ⟨[],[(0,0),(1,1)],(joint_Run_h.c3p a1 a2 a3 o17 r0 (0:Int)),2,(.exit 2),(joint_Run_h.c3q o17 r0 ()),2⟩],[.freeze 8],via (cutP (aI (aI tv0 e2) e3) [(0,0)] (joint_Run_h.c1p a1 a2 a3 r0) (((joint_Run_h.c1_ok k a1 a2 a3 r0).ap e8)) (cutP (aI tv0 e9) [(0,0),(1,5)] (joint_Run_h.c2p a1 a2 a3 r0 (0:Int) []) (((joint_Run_h.c2_ok k a1 a2 a3 r0 k (0:Int) []).ap e18).triple) (cutP tv0 [(0,0),(1,1)] (joint_Run_h.c3p a1 a2 a3 o17 r0 (0:Int)) (((joint_Run_h.c3_ok k a1 a2 a3 o17 r0 k (0:Int)).ap e26).triple) (rethP tv0 [(0,.row T45 r0 46)] (.more (.dp (.slice T45)) (.one (.dp T2))) ((o17,(0:Int)):((List V45) × Int)))))) (by kernel_rfl)⟩)))
theorem joint_Run_h.ok (k:Nat):HOk PR 43 (joint_Run_h.h k) :=
 fnH_ok (joint_Run_h.cok k) hmix Tryz.func43 (code:=joint_Run_h.code) (by kernel_rfl) (by kernel_rfl) (by kernel_rfl) (by kernel_rfl) (by kernel_rfl) (by kernel_rfl) (fun x=>Nat.le_of_ble_eq_true (by kernel_rfl)) fun x y hy=>match (joint_Run_h.way k x.1 x.2.1 x.2.2.1 x.2.2.2.1).ap hy with | ⟨ans,c0,h⟩=>⟨ans,c0,via h (by kernel_rfl)⟩
noncomputable def solve_Run_h.code:Code:=Func.cd Tryz.f44
noncomputable def solve_Run_h.c1 (k:Nat) (a2 a3:Int):Option (Bool) :=
 bif' (ilt a2 1)
 (some true)
 (bif' (igt a2 65536)
  (some true)
  (bif' (ilt a3 0)
  (some true)
  (some (igt a3 32))))
noncomputable def solve_Run_h.c2 (k:Nat) (a0:(List V45)):Nat→Int→(List V45)→Option ((List V45))
 | 0,_,_=>none
 | n+1,v12,v13 =>
  bif' (ilt v12 (len a0))
  (req (inL v12 a0) <|bnd (slices_Clone_66 k (el Z45 a0 v12).2.2.2.2.2.2.2.2.1) fun y16 =>
  req (room 120 v13 [((el Z45 a0 v12).1,(el Z45 a0 v12).2.1,(el Z45 a0 v12).2.2.1,(el Z45 a0 v12).2.2.2.1,(el Z45 a0 v12).2.2.2.2.1,(el Z45 a0 v12).2.2.2.2.2.1,(el Z45 a0 v12).2.2.2.2.2.2.1,(el Z45 a0 v12).2.2.2.2.2.2.2.1,y16,(el Z45 a0 v12).2.2.2.2.2.2.2.2.2)]) <|solve_Run_h.c2 k a0 n (iadd .i64 v12 1) (v13++[((el Z45 a0 v12).1,(el Z45 a0 v12).2.1,(el Z45 a0 v12).2.2.1,(el Z45 a0 v12).2.2.2.1,(el Z45 a0 v12).2.2.2.2.1,(el Z45 a0 v12).2.2.2.2.2.1,(el Z45 a0 v12).2.2.2.2.2.2.1,(el Z45 a0 v12).2.2.2.2.2.2.2.1,y16,(el Z45 a0 v12).2.2.2.2.2.2.2.2.2)]))
  (some v13)
noncomputable def solve_Run_h.c3 (k:Nat) (y10:(List V102)):Nat→Option (Unit)
 | 0=>none
 | n+1 =>
  bif' (ilt 0 (len y10))
  (req (inL 0 y10) <|none)
  (some ())
noncomputable def solve_Run_h.c4 (k:Nat) (y10:(List V102)):Nat→Option (Unit)
 | 0=>none
 | n+1 =>
  bif' (ilt 0 (len y10))
  (req (inL 0 y10) <|none)
  (some ())
noncomputable def solve_Run_h.c6 (k:Nat) (y10:(List V102)):Nat→Option (Unit)
 | 0=>none
 | n+1 =>
  bif' (ilt 0 (len y10))
  (none)
  (some ())
noncomputable def solve_Run_h.c5 (k:Nat) (a3:Int) (y10:(List V102)):Nat→Int→Option (Unit)
 | 0,_=>none
 | n+1,v29 =>
  bif' (ilt v29 a3)
  (bnd (solve_Run_h.c6 k y10 k) fun o32 =>
  solve_Run_h.c5 k a3 y10 n (iadd .i64 v29 1))
  (some ())
noncomputable def solve_Run_h (k:Nat) (a0:(List V45)) (a2 a3:Int) (r0:(List V102)):Option ((List V45) × ((List V102) × Int)) :=
 bnd (solve_Check k a0 r0) fun y1 =>
 bif' (ine y1 0)
 (some ([],[],y1))
 (bnd (solve_Run_h.c1 k a2 a3) fun o7 =>
  bif' o7
  (some ([],[],1))
  (bnd (slices_Clone_72 k r0) fun y10 =>
  bnd (solve_Run_h.c2 k a0 k 0 []) fun o19 =>
  bnd (solve_Run_h.c3 k y10 k) fun o23 =>
  bnd (solve_Run_h.c4 k y10 k) fun o27 =>
  bnd (solve_Run_h.c5 k a3 y10 k 0) fun o34 =>
  some (o19,y10,0)))
noncomputable def solve_Run_h.h (k:Nat):Go.Sx.HSp:=⟨(.pair (.slice T45) (.pair T2 (.pair T2 (.pair (.slice T102) .unit)))),(.pair (.slice T45) (.pair (.slice T102) T2)),1,fun x=>[.dat (.slice T45) x.1,.lent (.val .own (0:Nat)),.dat T2 x.2.1,.dat T2 x.2.2.1],fun x=>[(0,.row T102 x.2.2.2.1 103)],fun x=>solve_Run_h k x.1 x.2.1 x.2.2.1 x.2.2.2.1,fun x y=>[(0,.row T102 x.2.2.2.1 103)],(.more (.dp (.slice T45)) (.more (.dp (.slice T102)) (.one (.dp T2)))),fun y=>y,true,false⟩
noncomputable def solve_Run_h.cx (k:Nat):Go.Sx.Ctx:=⟨tys,[(58,solve_Check.sp k),(72,slices_Clone_72.sp k),(66,(slices_Clone_66.sp k).frz)],eqs,143,1,[],true⟩
theorem solve_Run_h.cok (k:Nat):CtxOk PR (solve_Run_h.cx k):=ctx_ok tysOk eqsOk (fC (solve_Check.ok k) (fC (slices_Clone_72.ok k) (fC (FnOk.frz rfl (slices_Clone_66.ok k)) FnsOk.nil))) HsOk.nil
noncomputable def solve_Run_h.c1p (a0:(List V45)) (a2 a3:Int) (r0:(List V102)):SL:=⟨[(0,(.val (.slice T45) a0)),(1,(.val .own (0:Nat))),(2,(.val T2 a2)),(3,(.val T2 a3))],[(0,.row T102 r0 103)]⟩
noncomputable def solve_Run_h.c1q (a0:(List V45)) (a2 a3:Int) (r0:(List V102)) (o:Bool):SL:=(fun v=>⟨[(0,(.val (.slice T45) a0)),(1,(.val .own (0:Nat))),(2,(.val T2 a2)),(3,(.val T2 a3)),(39,(.val T4 v))],[(0,.row T102 r0 103)]⟩) o
noncomputable def solve_Run_h.c1x (o:Bool):Ex:=(fun _=>.normal) o
noncomputable def solve_Run_h.c1n (o:Bool):Nat:=(fun _=>1) o
theorem solve_Run_h.c1_ok (k:Nat) (a0:(List V45)) (a2 a3:Int) (r0:(List V102)):Owp (solve_Run_h.c1 k a2 a3) fun o=>Triple PR (solve_Run_h.cx k) (sub solve_Run_h.code [1,1,0,0]) 1 (solve_Run_h.c1p a0 a2 a3 r0) (solve_Run_h.c1x o) (solve_Run_h.c1n o) (solve_Run_h.c1q a0 a2 a3 r0 o):=by
 unfold solve_Run_h.c1; exact
  oF (fun e4 =>
  oS (tW (solve_Run_h.cok k) hmix [tT,tT,tT,tT,tT,tT,tT,tT,tT] [] [(0,0)] (via (finP (aI (aI (aI (aI (aI (aI (aI (aI (aI tv0 e4) e4) e4) tt) tt) tt) tt) tt) tt) .normal [(0,0)] (solve_Run_h.c1q a0 a2 a3 r0 true)) (by kernel_rfl)))) (fun e4 =>
  oF (fun e5 =>
  oS (tW (solve_Run_h.cok k) hmix [fF,fF,fF,tT,tT,tT,tT,tT,tT] [] [(0,0)] (via (finP (aI (aI (aI (aI (aI (aI (aI (aI (aI tv0 e4) e4) e4) e5) e5) e5) tt) tt) tt) .normal [(0,0)] (solve_Run_h.c1q a0 a2 a3 r0 true)) (by kernel_rfl)))) (fun e5 =>
  oF (fun e6 =>
  oS (tW (solve_Run_h.cok k) hmix [fF,fF,fF,fF,fF,fF,tT,tT,tT] [] [(0,0)] (via (finP (aI (aI (aI (aI (aI (aI (aI (aI (aI tv0 e4) e4) e4) e5) e5) e5) e6) e6) e6) .normal [(0,0)] (solve_Run_h.c1q a0 a2 a3 r0 true)) (by kernel_rfl)))) (fun e6 =>
  oS (tW (solve_Run_h.cok k) hmix [fF,fF,fF,fF,fF,fF,fF,fF,fF] [] [(0,0)] (via (finP (aI (aI (aI (aI (aI (aI (aI (aI (aI tv0 e4) e4) e4) e5) e5) e5) e6) e6) e6) .normal [(0,0)] (solve_Run_h.c1q a0 a2 a3 r0 (igt a3 (32:Int)))) (by kernel_rfl))))))
noncomputable def solve_Run_h.c2p (a0:(List V45)) (a2 a3:Int) (r0 y10:(List V102)) (v12:Int) (v13:(List V45)):SL:=⟨[(2,(.val T2 a2)),(3,(.val T2 a3)),(12,(.val .ptr ⟨1,0,(0:Int),0,0⟩)),(44,(.val (.slice T45) a0)),(45,(.val T2 (len a0))),(46,(.val T2 v12))],[(0,.row T102 r0 103),(1,.cells (.pair .own (.pair .own (.pair .nil .unit))) ((2:Nat),(3:Nat),((),()))),(2,.row T45 v13 46),(3,.row T102 y10 103)]⟩
noncomputable def solve_Run_h.c2q (a2 a3:Int) (r0 y10:(List V102)) (o:(List V45)):SL:=(fun v=>⟨[(2,(.val T2 a2)),(3,(.val T2 a3)),(12,(.val .ptr ⟨1,0,(0:Int),0,0⟩))],[(0,.row T102 r0 103),(1,.cells (.pair .own (.pair .own (.pair .nil .unit))) ((2:Nat),(3:Nat),((),()))),(2,.row T45 v 46),(3,.row T102 y10 103)]⟩) o
noncomputable def solve_Run_h.c2x (o:(List V45)):Ex:=(fun _=>(.exit 0)) o
noncomputable def solve_Run_h.c2n (o:(List V45)):Nat:=(fun _=>4) o
theorem solve_Run_h.c2_ok (k:Nat) (a0:(List V45)) (a2 a3:Int) (r0 y10:(List V102)):∀ (n:Nat) (v12:Int) (v13:(List V45)),Owp (solve_Run_h.c2 k a0 n v12 v13) fun o=>LTriple PR (solve_Run_h.cx k) (sub solve_Run_h.code [1,1,1,1,0,1,0,0]) 4 (solve_Run_h.c2p a0 a2 a3 r0 y10 v12 v13) (solve_Run_h.c2x o) (solve_Run_h.c2n o) (solve_Run_h.c2q a2 a3 r0 y10 o)
 | 0,_,_=>fun _ h=>nomatch h
 | n+1,v12,v13=>Owp.of (solve_Run_h.c2.eq_2 ..) (
  oF (fun e14 =>
  oR fun h15 =>
  oB fun y16 e17 =>
  oR fun h18 =>
  fun y hy=>loop_back (solve_Run_h.cok k) hmix 4 (solve_Run_h.c2p a0 a2 a3 r0 y10 (iadd .i64 v12 (1:Int)) (v13++[((el Z45 a0 v12).1,(el Z45 a0 v12).2.1,(el Z45 a0 v12).2.2.1,(el Z45 a0 v12).2.2.2.1,(el Z45 a0 v12).2.2.2.2.1,(el Z45 a0 v12).2.2.2.2.2.1,(el Z45 a0 v12).2.2.2.2.2.2.1,(el Z45 a0 v12).2.2.2.2.2.2.2.1,y16,(el Z45 a0 v12).2.2.2.2.2.2.2.2.2)])) [tT,rS T36 y16,tT] [] [(0,0),(1,1),(2,21),(3,3)] (via (finP (aI (aI (aI (aI tv0 e14) h15) e17) h18) .normal [(0,0),(1,1),(2,21),(3,3)] (solve_Run_h.c2p a0 a2 a3 r0 y10 (iadd .i64 v12 (1:Int)) (v13++[((el Z45 a0 v12).1,(el Z45 a0 v12).2.1,(el Z45 a0 v12).2.2.1,(el Z45 a0 v12).2.2.2.1,(el Z45 a0 v12).2.2.2.2.1,(el Z45 a0 v12).2.2.2.2.2.1,(el Z45 a0 v12).2.2.2.2.2.2.1,(el Z45 a0 v12).2.2.2.2.2.2.2.1,y16,(el Z45 a0 v12).2.2.2.2.2.2.2.2.2)]))) (by kernel_rfl)) ((solve_Run_h.c2_ok k a0 a2 a3 r0 y10 n (iadd .i64 v12 (1:Int)) (v13++[((el Z45 a0 v12).1,(el Z45 a0 v12).2.1,(el Z45 a0 v12).2.2.1,(el Z45 a0 v12).2.2.2.1,(el Z45 a0 v12).2.2.2.2.1,(el Z45 a0 v12).2.2.2.2.2.1,(el Z45 a0 v12).2.2.2.2.2.2.1,(el Z45 a0 v12).2.2.2.2.2.2.2.1,y16,(el Z45 a0 v12).2.2.2.2.2.2.2.2.2)])).ap hy)) (fun e14 =>
  oS (loop_exit (solve_Run_h.cok k) hmix [fF] [] [(0,0),(1,1),(2,2),(3,3)] (exne 0) (via (finP (aI tv0 e14) (.exit 0) [(0,0),(1,1),(2,2),(3,3)] (solve_Run_h.c2q a2 a3 r0 y10 v13)) (by kernel_rfl)))))
noncomputable def solve_Run_h.c3p (a2 a3:Int) (o19:(List V45)) (r0 y10:(List V102)):SL:=⟨[(2,(.val T2 a2)),(3,(.val T2 a3)),(12,(.val .ptr ⟨1,0,(0:Int),0,0⟩)),(68,(.val .own (2:Nat))),(69,(.val T2 (len y10))),(70,(.val T2 (0:Int)))],[(0,.row T102 r0 103),(1,.cells (.pair .own (.pair .own (.pair .nil .unit))) ((3:Nat),(2:Nat),((),()))),(2,.row T102 y10 103),(3,.row T45 o19 46)]⟩
noncomputable def solve_Run_h.c3q (a3:Int) (o19:(List V45)) (r0 y10:(List V102)) (o:Unit):SL:=(fun v=>⟨[(3,(.val T2 a3)),(12,(.val .ptr ⟨1,0,(0:Int),0,0⟩))],[(0,.row T102 r0 103),(1,.cells (.pair .own (.pair .own (.pair .nil .unit))) ((2:Nat),(3:Nat),((),()))),(2,.row T45 o19 46),(3,.row T102 y10 103)]⟩) o
noncomputable def solve_Run_h.c3x (o:Unit):Ex:=(fun _=>(.exit 2)) o
noncomputable def solve_Run_h.c3n (o:Unit):Nat:=(fun _=>4) o
theorem solve_Run_h.c3_ok (k:Nat) (a2 a3:Int) (o19:(List V45)) (r0 y10:(List V102)):∀ (n:Nat),Owp (solve_Run_h.c3 k y10 n) fun o=>LTriple PR (solve_Run_h.cx k) (sub solve_Run_h.code [1,1,1,1,1,0,1,0,0]) 4 (solve_Run_h.c3p a2 a3 o19 r0 y10) (solve_Run_h.c3x o) (solve_Run_h.c3n o) (solve_Run_h.c3q a3 o19 r0 y10 o)
 | 0=>fun _ h=>nomatch h
 | n+1=>Owp.of (solve_Run_h.c3.eq_2 ..) (
  oF (fun e21 =>
  oR fun h22 =>
  Owp.none) (fun e21 =>
  oS (loop_exit (solve_Run_h.cok k) hmix [fF] [] [(0,0),(1,1),(2,3),(3,2)] (exne 2) (via (finP (aI tv0 e21) (.exit 2) [(0,0),(1,1),(2,3),(3,2)] (solve_Run_h.c3q a3 o19 r0 y10 ())) (by kernel_rfl)))))
noncomputable def solve_Run_h.c4p (a3:Int) (o19:(List V45)) (r0 y10:(List V102)):SL:=⟨[(3,(.val T2 a3)),(12,(.val .ptr ⟨1,0,(0:Int),0,0⟩)),(91,(.val .own (2:Nat))),(92,(.val T2 (len y10))),(93,(.val T2 (0:Int)))],[(0,.row T102 r0 103),(1,.cells (.pair .own (.pair .own (.pair .nil .unit))) ((3:Nat),(2:Nat),((),()))),(2,.row T102 y10 103),(3,.row T45 o19 46)]⟩
noncomputable def solve_Run_h.c4q (a3:Int) (o19:(List V45)) (r0 y10:(List V102)) (o:Unit):SL:=(fun v=>⟨[(3,(.val T2 a3)),(12,(.val .ptr ⟨1,0,(0:Int),0,0⟩))],[(0,.row T102 r0 103),(1,.cells (.pair .own (.pair .own (.pair .nil .unit))) ((2:Nat),(3:Nat),((),()))),(2,.row T45 o19 46),(3,.row T102 y10 103)]⟩) o
noncomputable def solve_Run_h.c4x (o:Unit):Ex:=(fun _=>(.exit 4)) o
noncomputable def solve_Run_h.c4n (o:Unit):Nat:=(fun _=>4) o
theorem solve_Run_h.c4_ok (k:Nat) (a3:Int) (o19:(List V45)) (r0 y10:(List V102)):∀ (n:Nat),Owp (solve_Run_h.c4 k y10 n) fun o=>LTriple PR (solve_Run_h.cx k) (sub solve_Run_h.code [1,1,1,1,1,1,0,1,0,0]) 4 (solve_Run_h.c4p a3 o19 r0 y10) (solve_Run_h.c4x o) (solve_Run_h.c4n o) (solve_Run_h.c4q a3 o19 r0 y10 o)
 | 0=>fun _ h=>nomatch h
 | n+1=>Owp.of (solve_Run_h.c4.eq_2 ..) (
  oF (fun e25 =>
  oR fun h26 =>
  Owp.none) (fun e25 =>
  oS (loop_exit (solve_Run_h.cok k) hmix [fF] [] [(0,0),(1,1),(2,3),(3,2)] (exne 4) (via (finP (aI tv0 e25) (.exit 4) [(0,0),(1,1),(2,3),(3,2)] (solve_Run_h.c4q a3 o19 r0 y10 ())) (by kernel_rfl)))))
noncomputable def solve_Run_h.c6p (a3:Int) (o19:(List V45)) (r0:(List V102)) (v29:Int) (y10:(List V102)):SL:=⟨[(12,(.val .ptr ⟨1,0,(0:Int),0,0⟩)),(119,(.val T2 a3)),(120,(.val T2 v29)),(126,(.val T2 (len y10))),(127,(.val T2 (0:Int)))],[(0,.row T102 r0 103),(1,.cells (.pair .own (.pair .own (.pair .nil .unit))) ((2:Nat),(3:Nat),((),()))),(2,.row T45 o19 46),(3,.row T102 y10 103)]⟩
noncomputable def solve_Run_h.c6q (a3:Int) (o19:(List V45)) (r0:(List V102)) (v29:Int) (y10:(List V102)) (o:Unit):SL:=(fun v=>⟨[(12,(.val .ptr ⟨1,0,(0:Int),0,0⟩)),(119,(.val T2 a3)),(120,(.val T2 v29))],[(0,.row T102 r0 103),(1,.cells (.pair .own (.pair .own (.pair .nil .unit))) ((2:Nat),(3:Nat),((),()))),(2,.row T45 o19 46),(3,.row T102 y10 103)]⟩) o
noncomputable def solve_Run_h.c6x (o:Unit):Ex:=(fun _=>(.exit 8)) o
noncomputable def solve_Run_h.c6n (o:Unit):Nat:=(fun _=>4) o
theorem solve_Run_h.c6_ok (k:Nat) (a3:Int) (o19:(List V45)) (r0:(List V102)) (v29:Int) (y10:(List V102)):∀ (n:Nat),Owp (solve_Run_h.c6 k y10 n) fun o=>LTriple PR (solve_Run_h.cx k) (sub solve_Run_h.code [1,1,1,1,1,1,1,0,1,0,0,1,1,0,0,1,0,0]) 4 (solve_Run_h.c6p a3 o19 r0 v29 y10) (solve_Run_h.c6x o) (solve_Run_h.c6n o) (solve_Run_h.c6q a3 o19 r0 v29 y10 o)
 | 0=>fun _ h=>nomatch h
 | n+1=>Owp.of (solve_Run_h.c6.eq_2 ..) (
  oF (fun e31 =>
  Owp.none) (fun e31 =>
  oS (loop_exit (solve_Run_h.cok k) hmix [fF] [] [(0,0),(1,1),(2,2),(3,3)] (exne 8) (via (finP (aI tv0 e31) (.exit 8) [(0,0),(1,1),(2,2),(3,3)] (solve_Run_h.c6q a3 o19 r0 v29 y10 ())) (by kernel_rfl)))))
noncomputable def solve_Run_h.c5p (a3:Int) (o19:(List V45)) (r0 y10:(List V102)) (v29:Int):SL:=⟨[(12,(.val .ptr ⟨1,0,(0:Int),0,0⟩)),(119,(.val T2 a3)),(120,(.val T2 v29))],[(0,.row T102 r0 103),(1,.cells (.pair .own (.pair .own (.pair .nil .unit))) ((2:Nat),(3:Nat),((),()))),(2,.row T45 o19 46),(3,.row T102 y10 103)]⟩
noncomputable def solve_Run_h.c5q (o19:(List V45)) (r0 y10:(List V102)) (o:Unit):SL:=(fun v=>⟨[(12,(.val .ptr ⟨1,0,(0:Int),0,0⟩))],[(0,.row T102 r0 103),(1,.cells (.pair .own (.pair .own (.pair .nil .unit))) ((2:Nat),(3:Nat),((),()))),(2,.row T45 o19 46),(3,.row T102 y10 103)]⟩) o
noncomputable def solve_Run_h.c5x (o:Unit):Ex:=(fun _=>(.exit 6)) o
noncomputable def solve_Run_h.c5n (o:Unit):Nat:=(fun _=>4) o
theorem solve_Run_h.c5_ok (k:Nat) (a3:Int) (o19:(List V45)) (r0 y10:(List V102)):∀ (n:Nat) (v29:Int),Owp (solve_Run_h.c5 k a3 y10 n v29) fun o=>LTriple PR (solve_Run_h.cx k) (sub solve_Run_h.code [1,1,1,1,1,1,1,0,1,0,0]) 4 (solve_Run_h.c5p a3 o19 r0 y10 v29) (solve_Run_h.c5x o) (solve_Run_h.c5n o) (solve_Run_h.c5q o19 r0 y10 o)
 | 0,_=>fun _ h=>nomatch h
 | n+1,v29=>Owp.of (solve_Run_h.c5.eq_2 ..) (
  oF (fun e30 =>
  oB fun o32 e33 =>
  fun y hy=>loop_back (solve_Run_h.cok k) hmix 4 (solve_Run_h.c5p a3 o19 r0 y10 (iadd .i64 v29 (1:Int))) [tT,.cut ⟨[],[(0,0),(1,1),(2,2),(3,3)],(solve_Run_h.c6p a3 o19 r0 v29 y10),4,(.exit 8),(solve_Run_h.c6q a3 o19 r0 v29 y10 ()),4⟩] [] [(0,0),(1,1),(2,2),(3,3)] (via (cutP (aI tv0 e30) [(0,0),(1,1),(2,2),(3,3)] (solve_Run_h.c6p a3 o19 r0 v29 y10) (((solve_Run_h.c6_ok k a3 o19 r0 v29 y10 k).ap e33).triple) (finP tv0 .normal [(0,0),(1,1),(2,2),(3,3)] (solve_Run_h.c5p a3 o19 r0 y10 (iadd .i64 v29 (1:Int))))) (by kernel_rfl)) ((solve_Run_h.c5_ok k a3 o19 r0 y10 n (iadd .i64 v29 (1:Int))).ap hy)) (fun e30 =>
  oS (loop_exit (solve_Run_h.cok k) hmix [fF] [] [(0,0),(1,1),(2,2),(3,3)] (exne 6) (via (finP (aI tv0 e30) (.exit 6) [(0,0),(1,1),(2,2),(3,3)] (solve_Run_h.c5q o19 r0 y10 ())) (by kernel_rfl)))))
@[irreducible] noncomputable def solve_Run_h.P (k:Nat) (a0:(List V45)) (a2 a3:Int) (r0:(List V102)) (y:((List V45) × ((List V102) × Int))) (w:List Ans) (c0:List Cmd):Prop:=exec PR (solve_Run_h.cx k) solve_Run_h.code 1 (entryH (solve_Run_h.h k) (a0,a2,a3,r0,())).st w (RetH (solve_Run_h.cx k) Tryz.f44 c0 (solve_Run_h.h k) (a0,a2,a3,r0,()) y)
theorem solve_Run_h.way (k:Nat) (a0:(List V45)) (a2 a3:Int) (r0:(List V102)):Owp (solve_Run_h k a0 a2 a3 r0) fun y=>∃ w c0,solve_Run_h.P k a0 a2 a3 r0 y w c0:=by
 unfold solve_Run_h; exact
  oB fun y1 e2 =>
  oF (fun e3 =>
  oS (⟨[rS T2 y1,tT],[.deep 8 T45,.deep 9 T102],via (rethP (aI (aI tv0 e2) e3) [(0,.row T102 r0 103)] (.more (.dp (.slice T45)) (.more (.dp (.slice T102)) (.one (.dp T2)))) (([],[],y1):((List V45) × ((List V102) × Int)))) (by kernel_rfl)⟩)) (fun e3 =>
  oB fun o7 e8 =>
  oF (fun e9 =>
  oS (⟨[rS T2 y1,fF,.cutR 4 ⟨[],[(0,0)],(solve_Run_h.c1p a0 a2 a3 r0),1,.normal,(solve_Run_h.c1q a0 a2 a3 r0 o7),1⟩,tT],[.deep 8 T45,.deep 9 T102],via (cutP (aI (aI tv0 e2) e3) [(0,0)] (solve_Run_h.c1p a0 a2 a3 r0) (((solve_Run_h.c1_ok k a0 a2 a3 r0).ap e8)) (rethP (aI tv0 e9) [(0,.row T102 r0 103)] (.more (.dp (.slice T45)) (.more (.dp (.slice T102)) (.one (.dp T2)))) (([],[],(1:Int)):((List V45) × ((List V102) × Int))))) (by kernel_rfl)⟩)) (fun e9 =>
  oB fun y10 e11 =>
  oB fun o19 e20 =>
  oB fun o23 e24 =>
  oB fun o27 e28 =>
  oB fun o34 e35 =>
  oS (⟨[rS T2 y1,fF,.cutR 4 ⟨[],[(0,0)],(solve_Run_h.c1p a0 a2 a3 r0),1,.normal,(solve_Run_h.c1q a0 a2 a3 r0 o7),1⟩,fF,.res (.one (.ow T102 103)) y10,.cut ⟨[.ownF 4 0 T45 46],[(0,0),(1,4),(2,9),(3,2)],(solve_Run_h.c2p a0 a2 a3 r0 y10 (0:Int) []),4,(.exit 0),(solve_Run_h.c2q a2 a3 r0 y10 o19),4⟩,.cut ⟨[],[(0,0),(1,1),(2,3),(3,2)],(solve_Run_h.c3p a2 a3 o19 r0 y10),4,(.exit 2),(solve_Run_h.c3q a3 o19 r0 y10 ()),4⟩,.cut ⟨[],[(0,0),(1,1),(2,3),(3,2)],(solve_Run_h.c4p a3 o19 r0 y10),4,(.exit 4),(solve_Run_h.c4q a3 o19 r0 y10 ()),4⟩,.cut ⟨[],[(0,0),(1,1),(2,2),(3,3)],(solve_Run_h.c5p a3 o19 r0 y10 (0:Int)),4,(.exit 6),(solve_Run_h.c5q o19 r0 y10 ()),4⟩],[.freeze 8,.freeze 9],via (cutP (aI (aI tv0 e2) e3) [(0,0)] (solve_Run_h.c1p a0 a2 a3 r0) (((solve_Run_h.c1_ok k a0 a2 a3 r0).ap e8)) (cutP (aI (aI tv0 e9) e11) [(0,0),(1,4),(2,9),(3,2)] (solve_Run_h.c2p a0 a2 a3 r0 y10 (0:Int) []) (((solve_Run_h.c2_ok k a0 a2 a3 r0 y10 k (0:Int) []).ap e20).triple) (cutP tv0 [(0,0),(1,1),(2,3),(3,2)] (solve_Run_h.c3p a2 a3 o19 r0 y10) (((solve_Run_h.c3_ok k a2 a3 o19 r0 y10 k).ap e24).triple) (cutP tv0 [(0,0),(1,1),(2,3),(3,2)] (solve_Run_h.c4p a3 o19 r0 y10) (((solve_Run_h.c4_ok k a3 o19 r0 y10 k).ap e28).triple) (cutP tv0 [(0,0),(1,1),(2,2),(3,3)] (solve_Run_h.c5p a3 o19 r0 y10 (0:Int)) (((solve_Run_h.c5_ok k a3 o19 r0 y10 k (0:Int)).ap e35).triple) (rethP tv0 [(0,.row T102 r0 103)] (.more (.dp (.slice T45)) (.more (.dp (.slice T102)) (.one (.dp T2)))) ((o19,y10,(0:Int)):((List V45) × ((List V102) × Int))))))))) (by kernel_rfl)⟩)))
theorem solve_Run_h.ok (k:Nat):HOk PR 44 (solve_Run_h.h k) :=
 fnH_ok (solve_Run_h.cok k) hmix Tryz.func44 (code:=solve_Run_h.code) (by kernel_rfl) (by kernel_rfl) (by kernel_rfl) (by kernel_rfl) (by kernel_rfl) (by kernel_rfl) (fun x=>Nat.le_of_ble_eq_true (by kernel_rfl)) fun x y hy=>match (solve_Run_h.way k x.1 x.2.1 x.2.2.1 x.2.2.2.1).ap hy with | ⟨ans,c0,h⟩=>⟨ans,c0,via h (by kernel_rfl)⟩
end Go.Proofs.T1
