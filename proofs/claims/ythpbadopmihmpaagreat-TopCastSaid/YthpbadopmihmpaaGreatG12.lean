import Derived.Test.YthpbadopmihmpaaGreatG0
import Derived.Test.YthpbadopmihmpaaGreatG2
import Derived.Test.YthpbadopmihmpaaGreatG10
namespace Go.Proofs.T1
open Go Go.Sx Go.Proofs
set_option maxRecDepth 100000
set_option linter.unusedVariables false
noncomputable def phys_Check.code:Code:=Func.cd Tryz.f36
noncomputable def phys_Check.c1 (k:Nat) (a0:V28):Nat→Int→Option (Unit)
 | 0,_=>none
 | n+1,v7 =>
  bif' (ilt v7 (len a0.2.2.1))
  (bif' (igt v7 0)
  (req (inL (isub .i64 v7 1) a0.2.2.1) <|req (inL v7 a0.2.2.1) <|none)
  (phys_Check.c1 k a0 n (iadd .i64 v7 1)))
  (some ())
noncomputable def phys_Check.c2 (k:Nat) (a0:V28):Option (Bool) :=
 bif' (ilt (imin a0.2.2.2.1.1 a0.2.2.2.1.2.1) (-16777216))
 (some true)
 (bif' (igt (imax a0.2.2.2.1.1 a0.2.2.2.1.2.1) 16777216)
  (some true)
  (bif' (ilt a0.2.2.2.2.1 1)
  (some true)
  (some (igt a0.2.2.2.2.1 65536))))
noncomputable def phys_Check (k:Nat) (a0:V28):Option Int :=
 bnd (solve_Check k a0.1 a0.2.2.1) fun y1 =>
 bif' (ine y1 0)
 (some y1)
 (bnd (joint_Check k a0.1 a0.2.1) fun y4 =>
  bif' (ine y4 0)
  (some y4)
  (bnd (phys_Check.c1 k a0 k 0) fun o12 =>
  bnd (phys_Check.c2 k a0) fun o17 =>
  bif' o17
  (some 1)
  (some 0)))
noncomputable def phys_Check.sp (k:Nat):Go.Sx.Spec:=⟨(.pair T28 .unit),(.one (.dp T2)),fun x=>phys_Check k x.1,false⟩
noncomputable def phys_Check.cx (k:Nat):Go.Sx.Ctx:=⟨tys,[(58,solve_Check.sp k),(59,joint_Check.sp k)],eqs,74,0,[],false⟩
theorem phys_Check.cok (k:Nat):CtxOk PR (phys_Check.cx k):=ctx_ok tysOk eqsOk (fC (solve_Check.ok k) (fC (joint_Check.ok k) FnsOk.nil)) HsOk.nil
noncomputable def phys_Check.c1p (a0:V28) (v7:Int):SL:=⟨[(1,(.val .ptr ⟨0,0,(0:Int),0,0⟩)),(24,(.val T2 (len a0.2.2.1))),(25,(.val T2 v7))],[(0,.cells T28 a0)]⟩
noncomputable def phys_Check.c1q (a0:V28) (o:Unit):SL:=(fun v=>⟨[(1,(.val .ptr ⟨0,0,(0:Int),0,0⟩))],[(0,.cells T28 a0)]⟩) o
noncomputable def phys_Check.c1x (o:Unit):Ex:=(fun _=>(.exit 0)) o
noncomputable def phys_Check.c1n (o:Unit):Nat:=(fun _=>1) o
theorem phys_Check.c1_ok (k:Nat) (a0:V28):∀ (n:Nat) (v7:Int),Owp (phys_Check.c1 k a0 n v7) fun o=>LTriple PR (phys_Check.cx k) (sub phys_Check.code [1,1,1,0,1,0,0]) 1 (phys_Check.c1p a0 v7) (phys_Check.c1x o) (phys_Check.c1n o) (phys_Check.c1q a0 o)
 | 0,_=>fun _ h=>nomatch h
 | n+1,v7=>Owp.of (phys_Check.c1.eq_2 ..) (
  oF (fun e8 =>
  oF (fun e9 =>
  oR fun h10 =>
  oR fun h11 =>
  Owp.none) (fun e9 =>
  fun y hy=>loop_back (phys_Check.cok k) hmix 1 (phys_Check.c1p a0 (iadd .i64 v7 (1:Int))) [tT,fF,fF,fF,fF,fF,fF,fF,fF,fF,fF,fF,fF,tT,fF,fF,fF] [] [(0,0)] (via (finP (aI (aI (aI (aI (aI (aI (aI (aI (aI (aI (aI (aI (aI (aI (aI (aI tv0 e8) e9) e9) e9) e9) e9) e9) e9) e9) e9) e9) e9) e9) e9) e9) ff) .normal [(0,0)] (phys_Check.c1p a0 (iadd .i64 v7 (1:Int)))) (by kernel_rfl)) ((phys_Check.c1_ok k a0 n (iadd .i64 v7 (1:Int))).ap hy))) (fun e8 =>
  oS (loop_exit (phys_Check.cok k) hmix [fF] [] [(0,0)] (exne 0) (via (finP (aI tv0 e8) (.exit 0) [(0,0)] (phys_Check.c1q a0 ())) (by kernel_rfl)))))
noncomputable def phys_Check.c2p (a0:V28):SL:=⟨[(1,(.val .ptr ⟨0,0,(0:Int),0,0⟩))],[(0,.cells T28 a0)]⟩
noncomputable def phys_Check.c2q (o:Bool):SL:=(fun v=>⟨[(73,(.val T4 v))],[]⟩) o
noncomputable def phys_Check.c2x (o:Bool):Ex:=(fun _=>.normal) o
noncomputable def phys_Check.c2n (o:Bool):Nat:=(fun _=>0) o
theorem phys_Check.c2_ok (k:Nat) (a0:V28):Owp (phys_Check.c2 k a0) fun o=>Triple PR (phys_Check.cx k) (sub phys_Check.code [1,1,1,1,0,0]) 1 (phys_Check.c2p a0) (phys_Check.c2x o) (phys_Check.c2n o) (phys_Check.c2q o):=by
 unfold phys_Check.c2; exact
  oF (fun e14 =>
  oS (tW (phys_Check.cok k) hmix [tT,tT,tT,tT,tT,tT,tT,tT,tT,tT,tT,tT,tT,tT,tT,tT,tT] [] [] (via (finP (aI (aI (aI (aI (aI (aI (aI (aI (aI (aI (aI (aI (aI (aI (aI (aI (aI tv0 e14) e14) e14) e14) e14) e14) e14) e14) e14) tt) tt) tt) tt) tt) tt) tt) tt) .normal [] (phys_Check.c2q true)) (by kernel_rfl)))) (fun e14 =>
  oF (fun e15 =>
  oS (tW (phys_Check.cok k) hmix [fF,fF,fF,fF,fF,fF,fF,fF,fF,tT,tT,tT,tT,tT,tT,tT,tT] [] [] (via (finP (aI (aI (aI (aI (aI (aI (aI (aI (aI (aI (aI (aI (aI (aI (aI (aI (aI tv0 e14) e14) e14) e14) e14) e14) e14) e14) e14) e15) e15) e15) e15) tt) tt) tt) tt) .normal [] (phys_Check.c2q true)) (by kernel_rfl)))) (fun e15 =>
  oF (fun e16 =>
  oS (tW (phys_Check.cok k) hmix [fF,fF,fF,fF,fF,fF,fF,fF,fF,fF,fF,fF,fF,tT,tT,tT,tT] [] [] (via (finP (aI (aI (aI (aI (aI (aI (aI (aI (aI (aI (aI (aI (aI (aI (aI (aI (aI tv0 e14) e14) e14) e14) e14) e14) e14) e14) e14) e15) e15) e15) e15) e16) e16) e16) e16) .normal [] (phys_Check.c2q true)) (by kernel_rfl)))) (fun e16 =>
  oS (tW (phys_Check.cok k) hmix [fF,fF,fF,fF,fF,fF,fF,fF,fF,fF,fF,fF,fF,fF,fF,fF,fF] [] [] (via (finP (aI (aI (aI (aI (aI (aI (aI (aI (aI (aI (aI (aI (aI (aI (aI (aI (aI tv0 e14) e14) e14) e14) e14) e14) e14) e14) e14) e15) e15) e15) e15) e16) e16) e16) e16) .normal [] (phys_Check.c2q (igt a0.2.2.2.2.1 (65536:Int)))) (by kernel_rfl))))))
@[irreducible] noncomputable def phys_Check.P (k:Nat) (a0:V28) (y:Int) (w:List Ans) (c0:List Cmd):Prop:=exec PR (phys_Check.cx k) phys_Check.code 0 (entry (.pair T28 .unit) (a0,())).st w (Ret (phys_Check.cx k) Tryz.f36 c0 (.one (.dp T2)) y)
theorem phys_Check.way (k:Nat) (a0:V28):Owp (phys_Check k a0) fun y=>∃ w c0,phys_Check.P k a0 y w c0:=by
 unfold phys_Check; exact
  oB fun y1 e2 =>
  oF (fun e3 =>
  oS (⟨[rS T2 y1,tT],[],via (retP (aI (aI tv0 e2) e3) (.one (.dp T2)) (y1:Int)) (by kernel_rfl)⟩)) (fun e3 =>
  oB fun y4 e5 =>
  oF (fun e6 =>
  oS (⟨[rS T2 y1,fF,rS T2 y4,tT],[],via (retP (aI (aI (aI (aI tv0 e2) e3) e5) e6) (.one (.dp T2)) (y4:Int)) (by kernel_rfl)⟩)) (fun e6 =>
  oB fun o12 e13 =>
  oB fun o17 e18 =>
  oF (fun e19 =>
  oS (⟨[rS T2 y1,fF,rS T2 y4,fF,.cut ⟨[],[(0,0)],(phys_Check.c1p a0 (0:Int)),1,(.exit 0),(phys_Check.c1q a0 ()),1⟩,.cutR 13 ⟨[],[(0,0)],(phys_Check.c2p a0),1,.normal,(phys_Check.c2q o17),0⟩,tT],[],via (cutP (aI (aI (aI (aI tv0 e2) e3) e5) e6) [(0,0)] (phys_Check.c1p a0 (0:Int)) (((phys_Check.c1_ok k a0 k (0:Int)).ap e13).triple) (cutP tv0 [(0,0)] (phys_Check.c2p a0) (((phys_Check.c2_ok k a0).ap e18)) (retP (aI tv0 e19) (.one (.dp T2)) ((1:Int):Int)))) (by kernel_rfl)⟩)) (fun e19 =>
  oS (⟨[rS T2 y1,fF,rS T2 y4,fF,.cut ⟨[],[(0,0)],(phys_Check.c1p a0 (0:Int)),1,(.exit 0),(phys_Check.c1q a0 ()),1⟩,.cutR 13 ⟨[],[(0,0)],(phys_Check.c2p a0),1,.normal,(phys_Check.c2q o17),0⟩,fF],[],via (cutP (aI (aI (aI (aI tv0 e2) e3) e5) e6) [(0,0)] (phys_Check.c1p a0 (0:Int)) (((phys_Check.c1_ok k a0 k (0:Int)).ap e13).triple) (cutP tv0 [(0,0)] (phys_Check.c2p a0) (((phys_Check.c2_ok k a0).ap e18)) (retP (aI tv0 e19) (.one (.dp T2)) ((0:Int):Int)))) (by kernel_rfl)⟩))))
theorem phys_Check.ok (k:Nat):FnOk PR 36 (phys_Check.sp k) :=
 fn_ok (phys_Check.cok k) hmix Tryz.func36 (code:=phys_Check.code) (by kernel_rfl) (by kernel_rfl) (by kernel_rfl) rfl rfl (by kernel_rfl) (by kernel_rfl) (by kernel_rfl) (fun x=>Nat.le_of_ble_eq_true (by kernel_rfl)) fun x y hy=>match (phys_Check.way k x.1).ap hy with | ⟨ans,c0,h⟩=>⟨ans,c0,via h (by kernel_rfl)⟩
noncomputable def phys_islands_1.code:Code:=Func.cd Tryz.f64
noncomputable def phys_islands_1.c1 (k:Nat) (a0:Int) (r1:(List Int)):Nat→Option (Unit)
 | 0=>none
 | n+1 =>
  req (inL a0 r1) <|bif' (ine (el 0 r1 a0) a0)
  (none)
  (some ())
noncomputable def phys_islands_1 (k:Nat) (a0:Int) (r1:(List Int)):Option Int :=
 bnd (phys_islands_1.c1 k a0 r1 k) fun o3 =>
 some a0
noncomputable def phys_islands_1.h (k:Nat):Go.Sx.HSp:=⟨(.pair T2 (.pair T22 .unit)),T2,2,fun x=>[.dat T2 x.1,.lent (.val .ptr ⟨0,0,(0:Int),0,0⟩)],fun x=>[(0,.cells .own (1:Nat)),(1,.row T2 x.2.1 3)],fun x=>phys_islands_1 k x.1 x.2.1,fun x y=>[(0,.cells .own (1:Nat)),(1,.row T2 x.2.1 3)],(.one (.dp T2)),fun y=>y,true,false⟩
noncomputable def phys_islands_1.cx (k:Nat):Go.Sx.Ctx:=⟨tys,[],eqs,25,2,[],true⟩
theorem phys_islands_1.cok (k:Nat):CtxOk PR (phys_islands_1.cx k):=ctx_ok tysOk eqsOk FnsOk.nil HsOk.nil
noncomputable def phys_islands_1.c1p (a0:Int) (r1:(List Int)):SL:=⟨[(0,(.val T2 a0)),(1,(.val .ptr ⟨0,0,(0:Int),0,0⟩))],[(0,.cells .own (1:Nat)),(1,.row T2 r1 3)]⟩
noncomputable def phys_islands_1.c1q (a0:Int) (r1:(List Int)) (o:Unit):SL:=(fun v=>⟨[(0,(.val T2 a0))],[(0,.cells .own (1:Nat)),(1,.row T2 r1 3)]⟩) o
noncomputable def phys_islands_1.c1x (o:Unit):Ex:=(fun _=>(.exit 0)) o
noncomputable def phys_islands_1.c1n (o:Unit):Nat:=(fun _=>2) o
theorem phys_islands_1.c1_ok (k:Nat) (a0:Int) (r1:(List Int)):∀ (n:Nat),Owp (phys_islands_1.c1 k a0 r1 n) fun o=>LTriple PR (phys_islands_1.cx k) (sub phys_islands_1.code [1,0,0,0]) 2 (phys_islands_1.c1p a0 r1) (phys_islands_1.c1x o) (phys_islands_1.c1n o) (phys_islands_1.c1q a0 r1 o)
 | 0=>fun _ h=>nomatch h
 | n+1=>Owp.of (phys_islands_1.c1.eq_2 ..) (
  oR fun h1 =>
  oF (fun e2 =>
  Owp.none) (fun e2 =>
  oS (loop_exit (phys_islands_1.cok k) hmix [fF] [] [(0,0),(1,1)] (exne 0) (via (finP (aI (aI (aI tv0 h1) h1) e2) (.exit 0) [(0,0),(1,1)] (phys_islands_1.c1q a0 r1 ())) (by kernel_rfl)))))
@[irreducible] noncomputable def phys_islands_1.P (k:Nat) (a0:Int) (r1:(List Int)) (y:Int) (w:List Ans) (c0:List Cmd):Prop:=exec PR (phys_islands_1.cx k) phys_islands_1.code 2 (entryH (phys_islands_1.h k) (a0,r1,())).st w (RetH (phys_islands_1.cx k) Tryz.f64 c0 (phys_islands_1.h k) (a0,r1,()) y)
theorem phys_islands_1.way (k:Nat) (a0:Int) (r1:(List Int)):Owp (phys_islands_1 k a0 r1) fun y=>∃ w c0,phys_islands_1.P k a0 r1 y w c0:=by
 unfold phys_islands_1; exact
  oB fun o3 e4 =>
  oS (⟨[.cut ⟨[],[(0,0),(1,1)],(phys_islands_1.c1p a0 r1),2,(.exit 0),(phys_islands_1.c1q a0 r1 ()),2⟩],[],via (cutP tv0 [(0,0),(1,1)] (phys_islands_1.c1p a0 r1) (((phys_islands_1.c1_ok k a0 r1 k).ap e4).triple) (rethP tv0 [(0,.cells .own (1:Nat)),(1,.row T2 r1 3)] (.one (.dp T2)) (a0:Int))) (by kernel_rfl)⟩)
theorem phys_islands_1.ok (k:Nat):HOk PR 64 (phys_islands_1.h k) :=
 fnH_ok (phys_islands_1.cok k) hmix Tryz.func64 (code:=phys_islands_1.code) (by kernel_rfl) (by kernel_rfl) (by kernel_rfl) (by kernel_rfl) (by kernel_rfl) (by kernel_rfl) (fun x=>Nat.le_of_ble_eq_true (by kernel_rfl)) fun x y hy=>match (phys_islands_1.way k x.1 x.2.1).ap hy with | ⟨ans,c0,h⟩=>⟨ans,c0,via h (by kernel_rfl)⟩
noncomputable def phys_islands.code:Code:=Func.cd Tryz.f40
noncomputable def phys_islands.c1 (k:Nat) (a0:(List V45)):Nat→Int→(List Int)→Option ((List Int))
 | 0,_,_=>none
 | n+1,v2,v3 =>
  bif' (ilt v2 (len (mk0 (0:Int) (len a0))))
  (req (inL v2 v3) <|phys_islands.c1 k a0 n (iadd .i64 v2 1) (st v3 v2 v2))
  (some v3)
noncomputable def phys_islands.c2 (k:Nat) (a1:(List V48)):Nat→Option (Unit)
 | 0=>none
 | n+1 =>
  bif' (ilt 0 (len a1))
  (req (inL 0 a1) <|none)
  (some ())
noncomputable def phys_islands.c3 (k:Nat) (a2:(List V102)):Nat→Option (Unit)
 | 0=>none
 | n+1 =>
  bif' (ilt 0 (len a2))
  (req (inL 0 a2) <|none)
  (some ())
noncomputable def phys_islands.c4 (k:Nat) (o6:(List Int)):Nat→Int→(List Int)→Option ((List Int))
 | 0,_,_=>none
 | n+1,v16,v17 =>
  bif' (ilt v16 (len o6))
  (bnd (phys_islands_1 k v16 v17) fun y19 =>
  req (inL v16 v17) <|phys_islands.c4 k o6 n (iadd .i64 v16 1) (st v17 v16 y19))
  (some v17)
noncomputable def phys_islands (k:Nat) (a0:(List V45)) (a1:(List V48)) (a2:(List V102)):Option (List Int) :=
 req (mkOk 8 (len a0) (len a0)) <|bnd (phys_islands.c1 k a0 k 0 (mk0 (0:Int) (len a0))) fun o6 =>
 bnd (phys_islands.c2 k a1 k) fun o10 =>
 bnd (phys_islands.c3 k a2 k) fun o14 =>
 bnd (phys_islands.c4 k o6 k 0 o6) fun o22 =>
 some o22
noncomputable def phys_islands.sp (k:Nat):Go.Sx.Spec:=⟨(.pair (.slice T45) (.pair (.slice T48) (.pair (.slice T102) .unit))),(.one (.ow T2 3)),fun x=>phys_islands k x.1 x.2.1 x.2.2.1,false⟩
noncomputable def phys_islands.cx (k:Nat):Go.Sx.Ctx:=⟨tys,[],eqs,70,0,[(64,phys_islands_1.h k)],true⟩
theorem phys_islands.cok (k:Nat):CtxOk PR (phys_islands.cx k):=ctx_ok tysOk eqsOk FnsOk.nil (HsOk.cons (phys_islands_1.ok k) HsOk.nil)
noncomputable def phys_islands.c1p (a0:(List V45)) (a1:(List V48)) (a2:(List V102)) (v2:Int) (v3:(List Int)):SL:=⟨[(1,(.val (.slice T48) a1)),(2,(.val (.slice T102) a2)),(3,(.val .ptr ⟨0,0,(0:Int),0,0⟩)),(7,(.val .ptr ⟨1,0,(0:Int),0,0⟩)),(20,(.val T2 (len (mk0 (0:Int) (len a0))))),(21,(.val T2 v2))],[(0,.cells (.slice T45) a0),(1,.cells .own (2:Nat)),(2,.row T2 v3 3)]⟩
noncomputable def phys_islands.c1q (a0:(List V45)) (a1:(List V48)) (a2:(List V102)) (o:(List Int)):SL:=(fun v=>⟨[(1,(.val (.slice T48) a1)),(2,(.val (.slice T102) a2)),(3,(.val .ptr ⟨0,0,(0:Int),0,0⟩)),(7,(.val .ptr ⟨1,0,(0:Int),0,0⟩))],[(0,.cells (.slice T45) a0),(1,.cells .own (2:Nat)),(2,.row T2 v 3)]⟩) o
noncomputable def phys_islands.c1x (o:(List Int)):Ex:=(fun _=>(.exit 0)) o
noncomputable def phys_islands.c1n (o:(List Int)):Nat:=(fun _=>3) o
theorem phys_islands.c1_ok (k:Nat) (a0:(List V45)) (a1:(List V48)) (a2:(List V102)):∀ (n:Nat) (v2:Int) (v3:(List Int)),Owp (phys_islands.c1 k a0 n v2 v3) fun o=>LTriple PR (phys_islands.cx k) (sub phys_islands.code [1,1,0,1,0,0]) 3 (phys_islands.c1p a0 a1 a2 v2 v3) (phys_islands.c1x o) (phys_islands.c1n o) (phys_islands.c1q a0 a1 a2 o)
 | 0,_,_=>fun _ h=>nomatch h
 | n+1,v2,v3=>Owp.of (phys_islands.c1.eq_2 ..) (
  oF (fun e4 =>
  oR fun h5 =>
  fun y hy=>loop_back (phys_islands.cok k) hmix 3 (phys_islands.c1p a0 a1 a2 (iadd .i64 v2 (1:Int)) (st v3 v2 v2)) [tT] [] [(0,0),(1,1),(2,2)] (via (finP (aI (aI (aI tv0 e4) h5) h5) .normal [(0,0),(1,1),(2,2)] (phys_islands.c1p a0 a1 a2 (iadd .i64 v2 (1:Int)) (st v3 v2 v2))) (by kernel_rfl)) ((phys_islands.c1_ok k a0 a1 a2 n (iadd .i64 v2 (1:Int)) (st v3 v2 v2)).ap hy)) (fun e4 =>
  oS (loop_exit (phys_islands.cok k) hmix [fF] [] [(0,0),(1,1),(2,2)] (exne 0) (via (finP (aI tv0 e4) (.exit 0) [(0,0),(1,1),(2,2)] (phys_islands.c1q a0 a1 a2 v3)) (by kernel_rfl)))))
noncomputable def phys_islands.c2p (a0:(List V45)) (a1:(List V48)) (a2:(List V102)) (o6:(List Int)):SL:=⟨[(2,(.val (.slice T102) a2)),(7,(.val .ptr ⟨0,0,(0:Int),0,0⟩)),(9,(.val .ptr ⟨1,0,(0:Int),0,0⟩)),(10,(.val .clo (65,[⟨2,0,(0:Int),0,0⟩,⟨1,0,(0:Int),0,0⟩,⟨0,0,(0:Int),0,0⟩]))),(31,(.val (.slice T48) a1)),(32,(.val T2 (len a1))),(33,(.val T2 (0:Int)))],[(0,.cells .own (3:Nat)),(1,.cells .clo (64,[⟨0,0,(0:Int),0,0⟩])),(2,.cells (.slice T45) a0),(3,.row T2 o6 3)]⟩
noncomputable def phys_islands.c2q (a0:(List V45)) (a2:(List V102)) (o6:(List Int)) (o:Unit):SL:=(fun v=>⟨[(2,(.val (.slice T102) a2)),(7,(.val .ptr ⟨0,0,(0:Int),0,0⟩)),(9,(.val .ptr ⟨1,0,(0:Int),0,0⟩)),(10,(.val .clo (65,[⟨2,0,(0:Int),0,0⟩,⟨1,0,(0:Int),0,0⟩,⟨0,0,(0:Int),0,0⟩])))],[(0,.cells .own (3:Nat)),(1,.cells .clo (64,[⟨0,0,(0:Int),0,0⟩])),(2,.cells (.slice T45) a0),(3,.row T2 o6 3)]⟩) o
noncomputable def phys_islands.c2x (o:Unit):Ex:=(fun _=>(.exit 2)) o
noncomputable def phys_islands.c2n (o:Unit):Nat:=(fun _=>4) o
theorem phys_islands.c2_ok (k:Nat) (a0:(List V45)) (a1:(List V48)) (a2:(List V102)) (o6:(List Int)):∀ (n:Nat),Owp (phys_islands.c2 k a1 n) fun o=>LTriple PR (phys_islands.cx k) (sub phys_islands.code [1,1,1,1,1,0,1,0,0]) 4 (phys_islands.c2p a0 a1 a2 o6) (phys_islands.c2x o) (phys_islands.c2n o) (phys_islands.c2q a0 a2 o6 o)
 | 0=>fun _ h=>nomatch h
 | n+1=>Owp.of (phys_islands.c2.eq_2 ..) (
  oF (fun e8 =>
  oR fun h9 =>
  Owp.none) (fun e8 =>
  oS (loop_exit (phys_islands.cok k) hmix [fF] [] [(0,0),(1,1),(2,2),(3,3)] (exne 2) (via (finP (aI tv0 e8) (.exit 2) [(0,0),(1,1),(2,2),(3,3)] (phys_islands.c2q a0 a2 o6 ())) (by kernel_rfl)))))
noncomputable def phys_islands.c3p (a0:(List V45)) (a2:(List V102)) (o6:(List Int)):SL:=⟨[(7,(.val .ptr ⟨0,0,(0:Int),0,0⟩)),(9,(.val .ptr ⟨1,0,(0:Int),0,0⟩)),(10,(.val .clo (65,[⟨2,0,(0:Int),0,0⟩,⟨1,0,(0:Int),0,0⟩,⟨0,0,(0:Int),0,0⟩]))),(44,(.val (.slice T102) a2)),(45,(.val T2 (len a2))),(46,(.val T2 (0:Int)))],[(0,.cells .own (3:Nat)),(1,.cells .clo (64,[⟨0,0,(0:Int),0,0⟩])),(2,.cells (.slice T45) a0),(3,.row T2 o6 3)]⟩
noncomputable def phys_islands.c3q (o6:(List Int)) (o:Unit):SL:=(fun v=>⟨[(7,(.val .ptr ⟨0,0,(0:Int),0,0⟩)),(9,(.val .ptr ⟨1,0,(0:Int),0,0⟩))],[(0,.cells .own (2:Nat)),(1,.cells .clo (64,[⟨0,0,(0:Int),0,0⟩])),(2,.row T2 o6 3)]⟩) o
noncomputable def phys_islands.c3x (o:Unit):Ex:=(fun _=>(.exit 4)) o
noncomputable def phys_islands.c3n (o:Unit):Nat:=(fun _=>3) o
theorem phys_islands.c3_ok (k:Nat) (a0:(List V45)) (a2:(List V102)) (o6:(List Int)):∀ (n:Nat),Owp (phys_islands.c3 k a2 n) fun o=>LTriple PR (phys_islands.cx k) (sub phys_islands.code [1,1,1,1,1,1,0,1,0,0]) 4 (phys_islands.c3p a0 a2 o6) (phys_islands.c3x o) (phys_islands.c3n o) (phys_islands.c3q o6 o)
 | 0=>fun _ h=>nomatch h
 | n+1=>Owp.of (phys_islands.c3.eq_2 ..) (
  oF (fun e12 =>
  oR fun h13 =>
  Owp.none) (fun e12 =>
  oS (loop_exit (phys_islands.cok k) hmix [fF] [] [(0,0),(1,1),(2,3)] (exne 4) (via (finP (aI tv0 e12) (.exit 4) [(0,0),(1,1),(2,3)] (phys_islands.c3q o6 ())) (by kernel_rfl)))))
noncomputable def phys_islands.c4p (o6:(List Int)) (v16:Int) (v17:(List Int)):SL:=⟨[(7,(.val .ptr ⟨0,0,(0:Int),0,0⟩)),(9,(.val .ptr ⟨1,0,(0:Int),0,0⟩)),(58,(.val T2 (len o6))),(59,(.val T2 v16))],[(0,.cells .own (2:Nat)),(1,.cells .clo (64,[⟨0,0,(0:Int),0,0⟩])),(2,.row T2 v17 3)]⟩
noncomputable def phys_islands.c4q (o:(List Int)):SL:=(fun v=>⟨[(7,(.val .ptr ⟨0,0,(0:Int),0,0⟩))],[(0,.cells .own (1:Nat)),(1,.row T2 v 3)]⟩) o
noncomputable def phys_islands.c4x (o:(List Int)):Ex:=(fun _=>(.exit 6)) o
noncomputable def phys_islands.c4n (o:(List Int)):Nat:=(fun _=>2) o
theorem phys_islands.c4_ok (k:Nat) (o6:(List Int)):∀ (n:Nat) (v16:Int) (v17:(List Int)),Owp (phys_islands.c4 k o6 n v16 v17) fun o=>LTriple PR (phys_islands.cx k) (sub phys_islands.code [1,1,1,1,1,1,1,0,1,0,0]) 3 (phys_islands.c4p o6 v16 v17) (phys_islands.c4x o) (phys_islands.c4n o) (phys_islands.c4q o)
 | 0,_,_=>fun _ h=>nomatch h
 | n+1,v16,v17=>Owp.of (phys_islands.c4.eq_2 ..) (
  oF (fun e18 =>
  oB fun y19 e20 =>
  oR fun h21 =>
  fun y hy=>loop_back (phys_islands.cok k) hmix 3 (phys_islands.c4p o6 (iadd .i64 v16 (1:Int)) (st v17 v16 y19)) [tT,.hres [(0,0),(1,2)] (.pair T2 (.pair T22 .unit)) (v16,v17,()) T2 y19] [] [(0,0),(1,1),(2,2)] (via (finP (aI (aI (aI (aI tv0 e18) (callHP (phys_islands_1.h k) [(0,0),(1,2)] (v16,v17,()) e20)) h21) h21) .normal [(0,0),(1,1),(2,2)] (phys_islands.c4p o6 (iadd .i64 v16 (1:Int)) (st v17 v16 y19))) (by kernel_rfl)) ((phys_islands.c4_ok k o6 n (iadd .i64 v16 (1:Int)) (st v17 v16 y19)).ap hy)) (fun e18 =>
  oS (loop_exit (phys_islands.cok k) hmix [fF] [] [(0,0),(1,2)] (exne 6) (via (finP (aI tv0 e18) (.exit 6) [(0,0),(1,2)] (phys_islands.c4q v17)) (by kernel_rfl)))))
theorem phys_islands.way (k:Nat) (a0:(List V45)) (a1:(List V48)) (a2:(List V102)):Owp (phys_islands k a0 a1 a2) fun y=>∃ w c0,exec PR (phys_islands.cx k) phys_islands.code 0 (entry (.pair (.slice T45) (.pair (.slice T48) (.pair (.slice T102) .unit))) (a0,a1,a2,())).st w (Ret (phys_islands.cx k) Tryz.f40 c0 (.one (.ow T2 3)) y):=by
 unfold phys_islands; exact
  oR fun h1 =>
  oB fun o6 e7 =>
  oB fun o10 e11 =>
  oB fun o14 e15 =>
  oB fun o22 e23 =>
  oS (⟨[.cut ⟨[],[(0,0),(1,5),(2,4)],(phys_islands.c1p a0 a1 a2 (0:Int) (mk0 (0:Int) (len a0))),3,(.exit 0),(phys_islands.c1q a0 a1 a2 o6),3⟩,.cut ⟨[],[(0,1),(1,4),(2,0),(3,2)],(phys_islands.c2p a0 a1 a2 o6),4,(.exit 2),(phys_islands.c2q a0 a2 o6 ()),4⟩,.cut ⟨[],[(0,0),(1,1),(2,2),(3,3)],(phys_islands.c3p a0 a2 o6),4,(.exit 4),(phys_islands.c3q o6 ()),3⟩,.cut ⟨[],[(0,0),(1,1),(2,2)],(phys_islands.c4p o6 (0:Int) o6),3,(.exit 6),(phys_islands.c4q o22),2⟩],[],via (cutP (aI tv0 h1) [(0,0),(1,5),(2,4)] (phys_islands.c1p a0 a1 a2 (0:Int) (mk0 (0:Int) (len a0))) (((phys_islands.c1_ok k a0 a1 a2 k (0:Int) (mk0 (0:Int) (len a0))).ap e7).triple) (cutP tv0 [(0,1),(1,4),(2,0),(3,2)] (phys_islands.c2p a0 a1 a2 o6) (((phys_islands.c2_ok k a0 a1 a2 o6 k).ap e11).triple) (cutP tv0 [(0,0),(1,1),(2,2),(3,3)] (phys_islands.c3p a0 a2 o6) (((phys_islands.c3_ok k a0 a2 o6 k).ap e15).triple) (cutP tv0 [(0,0),(1,1),(2,2)] (phys_islands.c4p o6 (0:Int) o6) (((phys_islands.c4_ok k o6 k (0:Int) o6).ap e23).triple) (retP tv0 (.one (.ow T2 3)) (o22:(List Int))))))) (by kernel_rfl)⟩)
theorem phys_islands.ok (k:Nat):FnOk PR 40 (phys_islands.sp k) :=
 fn_ok (phys_islands.cok k) hmix Tryz.func40 (code:=phys_islands.code) (by kernel_rfl) (by kernel_rfl) (by kernel_rfl) rfl rfl (by kernel_rfl) (by kernel_rfl) (by kernel_rfl) (fun x=>Nat.le_of_ble_eq_true (by kernel_rfl)) fun x y hy=>(phys_islands.way k x.1 x.2.1 x.2.2.1).ap hy
noncomputable def phys_wake.code:Code:=Func.cd Tryz.f41
noncomputable def phys_wake.c1 (k:Nat) (r0:(List V45)) (r1:(List Int)):Nat→Int→(List Bool)→Option ((List Bool))
 | 0,_,_=>none
 | n+1,v2,v3 =>
  bif' (ilt v2 (len r0))
  (req (inL v2 r0) <|req (inL v2 r1) <|req (inL (el 0 r1 v2) v3) <|bif' (el false v3 (el 0 r1 v2))
  (phys_wake.c1 k r0 r1 n (iadd .i64 v2 1) (st v3 (el 0 r1 v2) true))
  (bif' (igt (el Z45 r0 v2).2.2.2.2.1 0)
  (phys_wake.c1 k r0 r1 n (iadd .i64 v2 1) (st v3 (el 0 r1 v2) (!(el Z45 r0 v2).2.2.2.2.2.2.2.2.2.1)))
  (phys_wake.c1 k r0 r1 n (iadd .i64 v2 1) (st v3 (el 0 r1 v2) false))))
  (some v3)
noncomputable def phys_wake.c3 (k:Nat) (o10:(List Bool)) (r1:(List Int)) (v12:Int) (v13:(List V45)):Option (Bool) :=
 req (inL v12 v13) <|bif' (el Z45 v13 v12).2.2.2.2.2.2.2.2.2.1
 (req (inL v12 r1) <|req (inL (el 0 r1 v12) o10) <|some (el false o10 (el 0 r1 v12)))
 (some false)
noncomputable def phys_wake.c2 (k:Nat) (o10:(List Bool)) (r0:(List V45)) (r1:(List Int)):Nat→Int→(List V45)→Option ((List V45))
 | 0,_,_=>none
 | n+1,v12,v13 =>
  bif' (ilt v12 (len r0))
  (bnd (phys_wake.c3 k o10 r1 v12 v13) fun o19 =>
  bif' o19
  (req (inL v12 v13) <|req (inL v12 (st v13 v12 ((el Z45 v13 v12).1,(el Z45 v13 v12).2.1,(el Z45 v13 v12).2.2.1,(el Z45 v13 v12).2.2.2.1,(el Z45 v13 v12).2.2.2.2.1,(el Z45 v13 v12).2.2.2.2.2.1,(el Z45 v13 v12).2.2.2.2.2.2.1,(el Z45 v13 v12).2.2.2.2.2.2.2.1,(el Z45 v13 v12).2.2.2.2.2.2.2.2.1,false,(el Z45 v13 v12).2.2.2.2.2.2.2.2.2.2))) <|phys_wake.c2 k o10 r0 r1 n (iadd .i64 v12 1) (st (st v13 v12 ((el Z45 v13 v12).1,(el Z45 v13 v12).2.1,(el Z45 v13 v12).2.2.1,(el Z45 v13 v12).2.2.2.1,(el Z45 v13 v12).2.2.2.2.1,(el Z45 v13 v12).2.2.2.2.2.1,(el Z45 v13 v12).2.2.2.2.2.2.1,(el Z45 v13 v12).2.2.2.2.2.2.2.1,(el Z45 v13 v12).2.2.2.2.2.2.2.2.1,false,(el Z45 v13 v12).2.2.2.2.2.2.2.2.2.2)) v12 ((el Z45 (st v13 v12 ((el Z45 v13 v12).1,(el Z45 v13 v12).2.1,(el Z45 v13 v12).2.2.1,(el Z45 v13 v12).2.2.2.1,(el Z45 v13 v12).2.2.2.2.1,(el Z45 v13 v12).2.2.2.2.2.1,(el Z45 v13 v12).2.2.2.2.2.2.1,(el Z45 v13 v12).2.2.2.2.2.2.2.1,(el Z45 v13 v12).2.2.2.2.2.2.2.2.1,false,(el Z45 v13 v12).2.2.2.2.2.2.2.2.2.2)) v12).1,(el Z45 (st v13 v12 ((el Z45 v13 v12).1,(el Z45 v13 v12).2.1,(el Z45 v13 v12).2.2.1,(el Z45 v13 v12).2.2.2.1,(el Z45 v13 v12).2.2.2.2.1,(el Z45 v13 v12).2.2.2.2.2.1,(el Z45 v13 v12).2.2.2.2.2.2.1,(el Z45 v13 v12).2.2.2.2.2.2.2.1,(el Z45 v13 v12).2.2.2.2.2.2.2.2.1,false,(el Z45 v13 v12).2.2.2.2.2.2.2.2.2.2)) v12).2.1,(el Z45 (st v13 v12 ((el Z45 v13 v12).1,(el Z45 v13 v12).2.1,(el Z45 v13 v12).2.2.1,(el Z45 v13 v12).2.2.2.1,(el Z45 v13 v12).2.2.2.2.1,(el Z45 v13 v12).2.2.2.2.2.1,(el Z45 v13 v12).2.2.2.2.2.2.1,(el Z45 v13 v12).2.2.2.2.2.2.2.1,(el Z45 v13 v12).2.2.2.2.2.2.2.2.1,false,(el Z45 v13 v12).2.2.2.2.2.2.2.2.2.2)) v12).2.2.1,(el Z45 (st v13 v12 ((el Z45 v13 v12).1,(el Z45 v13 v12).2.1,(el Z45 v13 v12).2.2.1,(el Z45 v13 v12).2.2.2.1,(el Z45 v13 v12).2.2.2.2.1,(el Z45 v13 v12).2.2.2.2.2.1,(el Z45 v13 v12).2.2.2.2.2.2.1,(el Z45 v13 v12).2.2.2.2.2.2.2.1,(el Z45 v13 v12).2.2.2.2.2.2.2.2.1,false,(el Z45 v13 v12).2.2.2.2.2.2.2.2.2.2)) v12).2.2.2.1,(el Z45 (st v13 v12 ((el Z45 v13 v12).1,(el Z45 v13 v12).2.1,(el Z45 v13 v12).2.2.1,(el Z45 v13 v12).2.2.2.1,(el Z45 v13 v12).2.2.2.2.1,(el Z45 v13 v12).2.2.2.2.2.1,(el Z45 v13 v12).2.2.2.2.2.2.1,(el Z45 v13 v12).2.2.2.2.2.2.2.1,(el Z45 v13 v12).2.2.2.2.2.2.2.2.1,false,(el Z45 v13 v12).2.2.2.2.2.2.2.2.2.2)) v12).2.2.2.2.1,(el Z45 (st v13 v12 ((el Z45 v13 v12).1,(el Z45 v13 v12).2.1,(el Z45 v13 v12).2.2.1,(el Z45 v13 v12).2.2.2.1,(el Z45 v13 v12).2.2.2.2.1,(el Z45 v13 v12).2.2.2.2.2.1,(el Z45 v13 v12).2.2.2.2.2.2.1,(el Z45 v13 v12).2.2.2.2.2.2.2.1,(el Z45 v13 v12).2.2.2.2.2.2.2.2.1,false,(el Z45 v13 v12).2.2.2.2.2.2.2.2.2.2)) v12).2.2.2.2.2.1,(el Z45 (st v13 v12 ((el Z45 v13 v12).1,(el Z45 v13 v12).2.1,(el Z45 v13 v12).2.2.1,(el Z45 v13 v12).2.2.2.1,(el Z45 v13 v12).2.2.2.2.1,(el Z45 v13 v12).2.2.2.2.2.1,(el Z45 v13 v12).2.2.2.2.2.2.1,(el Z45 v13 v12).2.2.2.2.2.2.2.1,(el Z45 v13 v12).2.2.2.2.2.2.2.2.1,false,(el Z45 v13 v12).2.2.2.2.2.2.2.2.2.2)) v12).2.2.2.2.2.2.1,(el Z45 (st v13 v12 ((el Z45 v13 v12).1,(el Z45 v13 v12).2.1,(el Z45 v13 v12).2.2.1,(el Z45 v13 v12).2.2.2.1,(el Z45 v13 v12).2.2.2.2.1,(el Z45 v13 v12).2.2.2.2.2.1,(el Z45 v13 v12).2.2.2.2.2.2.1,(el Z45 v13 v12).2.2.2.2.2.2.2.1,(el Z45 v13 v12).2.2.2.2.2.2.2.2.1,false,(el Z45 v13 v12).2.2.2.2.2.2.2.2.2.2)) v12).2.2.2.2.2.2.2.1,(el Z45 (st v13 v12 ((el Z45 v13 v12).1,(el Z45 v13 v12).2.1,(el Z45 v13 v12).2.2.1,(el Z45 v13 v12).2.2.2.1,(el Z45 v13 v12).2.2.2.2.1,(el Z45 v13 v12).2.2.2.2.2.1,(el Z45 v13 v12).2.2.2.2.2.2.1,(el Z45 v13 v12).2.2.2.2.2.2.2.1,(el Z45 v13 v12).2.2.2.2.2.2.2.2.1,false,(el Z45 v13 v12).2.2.2.2.2.2.2.2.2.2)) v12).2.2.2.2.2.2.2.2.1,(el Z45 (st v13 v12 ((el Z45 v13 v12).1,(el Z45 v13 v12).2.1,(el Z45 v13 v12).2.2.1,(el Z45 v13 v12).2.2.2.1,(el Z45 v13 v12).2.2.2.2.1,(el Z45 v13 v12).2.2.2.2.2.1,(el Z45 v13 v12).2.2.2.2.2.2.1,(el Z45 v13 v12).2.2.2.2.2.2.2.1,(el Z45 v13 v12).2.2.2.2.2.2.2.2.1,false,(el Z45 v13 v12).2.2.2.2.2.2.2.2.2.2)) v12).2.2.2.2.2.2.2.2.2.1,0,())))
  (phys_wake.c2 k o10 r0 r1 n (iadd .i64 v12 1) v13))
  (some v13)
noncomputable def phys_wake (k:Nat) (r0:(List V45)) (r1:(List Int)):Option (List V45) :=
 req (mkOk 1 (len r0) (len r0)) <|bnd (phys_wake.c1 k r0 r1 k 0 (mk0 false (len r0))) fun o10 =>
 bnd (phys_wake.c2 k o10 r0 r1 k 0 r0) fun o24 =>
 some o24
noncomputable def phys_wake.h (k:Nat):Go.Sx.HSp:=⟨(.pair (.slice T45) (.pair T22 .unit)),(.slice T45),2,fun x=>[.lent (.val .own (0:Nat)),.lent (.val .own (1:Nat))],fun x=>[(0,.row T45 x.1 46),(1,.row T2 x.2.1 3)],fun x=>phys_wake k x.1 x.2.1,fun x y=>[(0,.row T45 y 46),(1,.row T2 x.2.1 3)],.none,fun y=>(),false,false⟩
noncomputable def phys_wake.cx (k:Nat):Go.Sx.Ctx:=⟨tys,[],eqs,70,2,[],false⟩
theorem phys_wake.cok (k:Nat):CtxOk PR (phys_wake.cx k):=ctx_ok tysOk eqsOk FnsOk.nil HsOk.nil
noncomputable def phys_wake.c1p (r0:(List V45)) (r1:(List Int)) (v2:Int) (v3:(List Bool)):SL:=⟨[(0,(.val .own (0:Nat))),(1,(.val .own (1:Nat))),(4,(.val .own (2:Nat))),(11,(.val .own (0:Nat))),(12,(.val T2 (len r0))),(13,(.val T2 v2))],[(0,.row T45 r0 46),(1,.row T2 r1 3),(2,.row T4 v3 4)]⟩
noncomputable def phys_wake.c1q (r0:(List V45)) (r1:(List Int)) (o:(List Bool)):SL:=(fun v=>⟨[(0,(.val .own (0:Nat))),(1,(.val .own (1:Nat))),(4,(.val .own (2:Nat)))],[(0,.row T45 r0 46),(1,.row T2 r1 3),(2,.row T4 v 4)]⟩) o
noncomputable def phys_wake.c1x (o:(List Bool)):Ex:=(fun _=>(.exit 0)) o
noncomputable def phys_wake.c1n (o:(List Bool)):Nat:=(fun _=>3) o
theorem phys_wake.c1_ok (k:Nat) (r0:(List V45)) (r1:(List Int)):∀ (n:Nat) (v2:Int) (v3:(List Bool)),Owp (phys_wake.c1 k r0 r1 n v2 v3) fun o=>LTriple PR (phys_wake.cx k) (sub phys_wake.code [1,0,1,0,0]) 3 (phys_wake.c1p r0 r1 v2 v3) (phys_wake.c1x o) (phys_wake.c1n o) (phys_wake.c1q r0 r1 o)
 | 0,_,_=>fun _ h=>nomatch h
 | n+1,v2,v3=>Owp.of (phys_wake.c1.eq_2 ..) (
  oF (fun e4 =>
  oR fun h5 =>
  oR fun h6 =>
  oR fun h7 =>
  oF (fun e8 =>
  fun y hy=>loop_back (phys_wake.cok k) hmix 3 (phys_wake.c1p r0 r1 (iadd .i64 v2 (1:Int)) (st v3 (el (0:Int) r1 v2) true)) [tT,tT,tT,tT,tT,tT,tT,tT,tT,tT,tT] [] [(0,0),(1,1),(2,2)] (via (finP (aI (aI (aI (aI (aI (aI (aI (aI (aI (aI (aI (aI (aI (aI (aI (aI (aI tv0 e4) h5) h5) h6) h6) h6) h6) h7) h7) e8) e8) e8) e8) e8) e8) h7) h7) .normal [(0,0),(1,1),(2,2)] (phys_wake.c1p r0 r1 (iadd .i64 v2 (1:Int)) (st v3 (el (0:Int) r1 v2) true))) (by kernel_rfl)) ((phys_wake.c1_ok k r0 r1 n (iadd .i64 v2 (1:Int)) (st v3 (el (0:Int) r1 v2) true)).ap hy)) (fun e8 =>
  oF (fun e9 =>
  fun y hy=>loop_back (phys_wake.cok k) hmix 3 (phys_wake.c1p r0 r1 (iadd .i64 v2 (1:Int)) (st v3 (el (0:Int) r1 v2) (!(el Z45 r0 v2).2.2.2.2.2.2.2.2.2.1))) [tT,fF,fF,fF,fF,tT,tT,tT,fF,tT,fF] [] [(0,0),(1,1),(2,2)] (via (finP (aI (aI (aI (aI (aI (aI (aI (aI (aI (aI (aI (aI (aI (aI (aI (aI (aI (aI (aI (aI tv0 e4) h5) h5) h6) h6) h6) h6) h7) h7) e8) e8) e8) e8) e9) e9) e9) (aI e8 e9)) e8) h7) h7) .normal [(0,0),(1,1),(2,2)] (phys_wake.c1p r0 r1 (iadd .i64 v2 (1:Int)) (st v3 (el (0:Int) r1 v2) (!(el Z45 r0 v2).2.2.2.2.2.2.2.2.2.1)))) (by kernel_rfl)) ((phys_wake.c1_ok k r0 r1 n (iadd .i64 v2 (1:Int)) (st v3 (el (0:Int) r1 v2) (!(el Z45 r0 v2).2.2.2.2.2.2.2.2.2.1))).ap hy)) (fun e9 =>
  fun y hy=>loop_back (phys_wake.cok k) hmix 3 (phys_wake.c1p r0 r1 (iadd .i64 v2 (1:Int)) (st v3 (el (0:Int) r1 v2) false)) [tT,fF,fF,fF,fF,fF,fF,fF,fF,fF,fF] [] [(0,0),(1,1),(2,2)] (via (finP (aI (aI (aI (aI (aI (aI (aI (aI (aI (aI (aI (aI (aI (aI (aI (aI (aI (aI (aI (aI tv0 e4) h5) h5) h6) h6) h6) h6) h7) h7) e8) e8) e8) e8) e9) e9) e9) (aI e8 e9)) e8) h7) h7) .normal [(0,0),(1,1),(2,2)] (phys_wake.c1p r0 r1 (iadd .i64 v2 (1:Int)) (st v3 (el (0:Int) r1 v2) false))) (by kernel_rfl)) ((phys_wake.c1_ok k r0 r1 n (iadd .i64 v2 (1:Int)) (st v3 (el (0:Int) r1 v2) false)).ap hy)))) (fun e4 =>
  oS (loop_exit (phys_wake.cok k) hmix [fF] [] [(0,0),(1,1),(2,2)] (exne 0) (via (finP (aI tv0 e4) (.exit 0) [(0,0),(1,1),(2,2)] (phys_wake.c1q r0 r1 v3)) (by kernel_rfl)))))
noncomputable def phys_wake.c3p (o10:(List Bool)) (r0:(List V45)) (r1:(List Int)) (v12:Int) (v13:(List V45)):SL:=⟨[(0,(.val .own (0:Nat))),(1,(.val .own (1:Nat))),(4,(.val .own (2:Nat))),(7,(.val T2 v12)),(43,(.val T2 (len r0))),(44,(.val T2 v12))],[(0,.row T45 v13 46),(1,.row T2 r1 3),(2,.row T4 o10 4)]⟩
noncomputable def phys_wake.c3q (o10:(List Bool)) (r0:(List V45)) (r1:(List Int)) (v12:Int) (v13:(List V45)) (o:Bool):SL:=(fun v=>⟨[(0,(.val .own (0:Nat))),(1,(.val .own (1:Nat))),(4,(.val .own (2:Nat))),(7,(.val T2 v12)),(43,(.val T2 (len r0))),(44,(.val T2 v12)),(60,(.val T4 v))],[(0,.row T45 v13 46),(1,.row T2 r1 3),(2,.row T4 o10 4)]⟩) o
noncomputable def phys_wake.c3x (o:Bool):Ex:=(fun _=>.normal) o
noncomputable def phys_wake.c3n (o:Bool):Nat:=(fun _=>3) o
theorem phys_wake.c3_ok (k:Nat) (o10:(List Bool)) (r0:(List V45)) (r1:(List Int)) (v12:Int) (v13:(List V45)):Owp (phys_wake.c3 k o10 r1 v12 v13) fun o=>Triple PR (phys_wake.cx k) (sub phys_wake.code [1,1,1,0,0,1,1,0,0,1,0]) 3 (phys_wake.c3p o10 r0 r1 v12 v13) (phys_wake.c3x o) (phys_wake.c3n o) (phys_wake.c3q o10 r0 r1 v12 v13 o):=by
 unfold phys_wake.c3; exact
  oR fun h15 =>
  oF (fun e16 =>
  oR fun h17 =>
  oR fun h18 =>
  oS (tW (phys_wake.cok k) hmix [tT,tT,tT,tT,tT,tT,tT,tT] [] [(0,0),(1,1),(2,2)] (via (finP (aI (aI (aI (aI (aI (aI (aI (aI (aI (aI tv0 h15) h15) e16) e16) e16) (aI e16 h17)) (aI e16 h17)) (aI e16 h18)) (aI e16 h18)) e16) .normal [(0,0),(1,1),(2,2)] (phys_wake.c3q o10 r0 r1 v12 v13 (el false o10 (el (0:Int) r1 v12)))) (by kernel_rfl)))) (fun e16 =>
  oS (tW (phys_wake.cok k) hmix [fF,fF,fF,fF,fF,fF,fF,fF] [] [(0,0),(1,1),(2,2)] (via (finP (aI (aI (aI (aI (aI (aI (aI (aI (aI (aI tv0 h15) h15) e16) e16) e16) e16) e16) e16) e16) e16) .normal [(0,0),(1,1),(2,2)] (phys_wake.c3q o10 r0 r1 v12 v13 false)) (by kernel_rfl))))
noncomputable def phys_wake.c2p (o10:(List Bool)) (r0:(List V45)) (r1:(List Int)) (v12:Int) (v13:(List V45)):SL:=⟨[(0,(.val .own (0:Nat))),(1,(.val .own (1:Nat))),(4,(.val .own (2:Nat))),(43,(.val T2 (len r0))),(44,(.val T2 v12))],[(0,.row T45 v13 46),(1,.row T2 r1 3),(2,.row T4 o10 4)]⟩
noncomputable def phys_wake.c2q (r1:(List Int)) (o:(List V45)):SL:=(fun v=>⟨[],[(0,.row T45 v 46),(1,.row T2 r1 3)]⟩) o
noncomputable def phys_wake.c2x (o:(List V45)):Ex:=(fun _=>(.exit 2)) o
noncomputable def phys_wake.c2n (o:(List V45)):Nat:=(fun _=>2) o
theorem phys_wake.c2_ok (k:Nat) (o10:(List Bool)) (r0:(List V45)) (r1:(List Int)):∀ (n:Nat) (v12:Int) (v13:(List V45)),Owp (phys_wake.c2 k o10 r0 r1 n v12 v13) fun o=>LTriple PR (phys_wake.cx k) (sub phys_wake.code [1,1,1,0,0]) 3 (phys_wake.c2p o10 r0 r1 v12 v13) (phys_wake.c2x o) (phys_wake.c2n o) (phys_wake.c2q r1 o)
 | 0,_,_=>fun _ h=>nomatch h
 | n+1,v12,v13=>Owp.of (phys_wake.c2.eq_2 ..) (
  oF (fun e14 =>
  oB fun o19 e20 =>
  oF (fun e21 =>
  oR fun h22 =>
  oR fun h23 =>
  fun y hy=>loop_back (phys_wake.cok k) hmix 3 (phys_wake.c2p o10 r0 r1 (iadd .i64 v12 (1:Int)) (st (st v13 v12 ((el Z45 v13 v12).1,(el Z45 v13 v12).2.1,(el Z45 v13 v12).2.2.1,(el Z45 v13 v12).2.2.2.1,(el Z45 v13 v12).2.2.2.2.1,(el Z45 v13 v12).2.2.2.2.2.1,(el Z45 v13 v12).2.2.2.2.2.2.1,(el Z45 v13 v12).2.2.2.2.2.2.2.1,(el Z45 v13 v12).2.2.2.2.2.2.2.2.1,false,(el Z45 v13 v12).2.2.2.2.2.2.2.2.2.2)) v12 ((el Z45 (st v13 v12 ((el Z45 v13 v12).1,(el Z45 v13 v12).2.1,(el Z45 v13 v12).2.2.1,(el Z45 v13 v12).2.2.2.1,(el Z45 v13 v12).2.2.2.2.1,(el Z45 v13 v12).2.2.2.2.2.1,(el Z45 v13 v12).2.2.2.2.2.2.1,(el Z45 v13 v12).2.2.2.2.2.2.2.1,(el Z45 v13 v12).2.2.2.2.2.2.2.2.1,false,(el Z45 v13 v12).2.2.2.2.2.2.2.2.2.2)) v12).1,(el Z45 (st v13 v12 ((el Z45 v13 v12).1,(el Z45 v13 v12).2.1,(el Z45 v13 v12).2.2.1,(el Z45 v13 v12).2.2.2.1,(el Z45 v13 v12).2.2.2.2.1,(el Z45 v13 v12).2.2.2.2.2.1,(el Z45 v13 v12).2.2.2.2.2.2.1,(el Z45 v13 v12).2.2.2.2.2.2.2.1,(el Z45 v13 v12).2.2.2.2.2.2.2.2.1,false,(el Z45 v13 v12).2.2.2.2.2.2.2.2.2.2)) v12).2.1,(el Z45 (st v13 v12 ((el Z45 v13 v12).1,(el Z45 v13 v12).2.1,(el Z45 v13 v12).2.2.1,(el Z45 v13 v12).2.2.2.1,(el Z45 v13 v12).2.2.2.2.1,(el Z45 v13 v12).2.2.2.2.2.1,(el Z45 v13 v12).2.2.2.2.2.2.1,(el Z45 v13 v12).2.2.2.2.2.2.2.1,(el Z45 v13 v12).2.2.2.2.2.2.2.2.1,false,(el Z45 v13 v12).2.2.2.2.2.2.2.2.2.2)) v12).2.2.1,(el Z45 (st v13 v12 ((el Z45 v13 v12).1,(el Z45 v13 v12).2.1,(el Z45 v13 v12).2.2.1,(el Z45 v13 v12).2.2.2.1,(el Z45 v13 v12).2.2.2.2.1,(el Z45 v13 v12).2.2.2.2.2.1,(el Z45 v13 v12).2.2.2.2.2.2.1,(el Z45 v13 v12).2.2.2.2.2.2.2.1,(el Z45 v13 v12).2.2.2.2.2.2.2.2.1,false,(el Z45 v13 v12).2.2.2.2.2.2.2.2.2.2)) v12).2.2.2.1,(el Z45 (st v13 v12 ((el Z45 v13 v12).1,(el Z45 v13 v12).2.1,(el Z45 v13 v12).2.2.1,(el Z45 v13 v12).2.2.2.1,(el Z45 v13 v12).2.2.2.2.1,(el Z45 v13 v12).2.2.2.2.2.1,(el Z45 v13 v12).2.2.2.2.2.2.1,(el Z45 v13 v12).2.2.2.2.2.2.2.1,(el Z45 v13 v12).2.2.2.2.2.2.2.2.1,false,(el Z45 v13 v12).2.2.2.2.2.2.2.2.2.2)) v12).2.2.2.2.1,(el Z45 (st v13 v12 ((el Z45 v13 v12).1,(el Z45 v13 v12).2.1,(el Z45 v13 v12).2.2.1,(el Z45 v13 v12).2.2.2.1,(el Z45 v13 v12).2.2.2.2.1,(el Z45 v13 v12).2.2.2.2.2.1,(el Z45 v13 v12).2.2.2.2.2.2.1,(el Z45 v13 v12).2.2.2.2.2.2.2.1,(el Z45 v13 v12).2.2.2.2.2.2.2.2.1,false,(el Z45 v13 v12).2.2.2.2.2.2.2.2.2.2)) v12).2.2.2.2.2.1,(el Z45 (st v13 v12 ((el Z45 v13 v12).1,(el Z45 v13 v12).2.1,(el Z45 v13 v12).2.2.1,(el Z45 v13 v12).2.2.2.1,(el Z45 v13 v12).2.2.2.2.1,(el Z45 v13 v12).2.2.2.2.2.1,(el Z45 v13 v12).2.2.2.2.2.2.1,(el Z45 v13 v12).2.2.2.2.2.2.2.1,(el Z45 v13 v12).2.2.2.2.2.2.2.2.1,false,(el Z45 v13 v12).2.2.2.2.2.2.2.2.2.2)) v12).2.2.2.2.2.2.1,(el Z45 (st v13 v12 ((el Z45 v13 v12).1,(el Z45 v13 v12).2.1,(el Z45 v13 v12).2.2.1,(el Z45 v13 v12).2.2.2.1,(el Z45 v13 v12).2.2.2.2.1,(el Z45 v13 v12).2.2.2.2.2.1,(el Z45 v13 v12).2.2.2.2.2.2.1,(el Z45 v13 v12).2.2.2.2.2.2.2.1,(el Z45 v13 v12).2.2.2.2.2.2.2.2.1,false,(el Z45 v13 v12).2.2.2.2.2.2.2.2.2.2)) v12).2.2.2.2.2.2.2.1,(el Z45 (st v13 v12 ((el Z45 v13 v12).1,(el Z45 v13 v12).2.1,(el Z45 v13 v12).2.2.1,(el Z45 v13 v12).2.2.2.1,(el Z45 v13 v12).2.2.2.2.1,(el Z45 v13 v12).2.2.2.2.2.1,(el Z45 v13 v12).2.2.2.2.2.2.1,(el Z45 v13 v12).2.2.2.2.2.2.2.1,(el Z45 v13 v12).2.2.2.2.2.2.2.2.1,false,(el Z45 v13 v12).2.2.2.2.2.2.2.2.2.2)) v12).2.2.2.2.2.2.2.2.1,(el Z45 (st v13 v12 ((el Z45 v13 v12).1,(el Z45 v13 v12).2.1,(el Z45 v13 v12).2.2.1,(el Z45 v13 v12).2.2.2.1,(el Z45 v13 v12).2.2.2.2.1,(el Z45 v13 v12).2.2.2.2.2.1,(el Z45 v13 v12).2.2.2.2.2.2.1,(el Z45 v13 v12).2.2.2.2.2.2.2.1,(el Z45 v13 v12).2.2.2.2.2.2.2.2.1,false,(el Z45 v13 v12).2.2.2.2.2.2.2.2.2.2)) v12).2.2.2.2.2.2.2.2.2.1,(0:Int),()))) [tT,.cutR 9 ⟨[],[(0,0),(1,1),(2,2)],(phys_wake.c3p o10 r0 r1 v12 v13),3,.normal,(phys_wake.c3q o10 r0 r1 v12 v13 o19),3⟩,tT] [] [(0,0),(1,1),(2,2)] (via (cutP (aI tv0 e14) [(0,0),(1,1),(2,2)] (phys_wake.c3p o10 r0 r1 v12 v13) (((phys_wake.c3_ok k o10 r0 r1 v12 v13).ap e20)) (finP (aI (aI (aI (aI (aI tv0 e21) h22) h22) h23) h23) .normal [(0,0),(1,1),(2,2)] (phys_wake.c2p o10 r0 r1 (iadd .i64 v12 (1:Int)) (st (st v13 v12 ((el Z45 v13 v12).1,(el Z45 v13 v12).2.1,(el Z45 v13 v12).2.2.1,(el Z45 v13 v12).2.2.2.1,(el Z45 v13 v12).2.2.2.2.1,(el Z45 v13 v12).2.2.2.2.2.1,(el Z45 v13 v12).2.2.2.2.2.2.1,(el Z45 v13 v12).2.2.2.2.2.2.2.1,(el Z45 v13 v12).2.2.2.2.2.2.2.2.1,false,(el Z45 v13 v12).2.2.2.2.2.2.2.2.2.2)) v12 ((el Z45 (st v13 v12 ((el Z45 v13 v12).1,(el Z45 v13 v12).2.1,(el Z45 v13 v12).2.2.1,(el Z45 v13 v12).2.2.2.1,(el Z45 v13 v12).2.2.2.2.1,(el Z45 v13 v12).2.2.2.2.2.1,(el Z45 v13 v12).2.2.2.2.2.2.1,(el Z45 v13 v12).2.2.2.2.2.2.2.1,(el Z45 v13 v12).2.2.2.2.2.2.2.2.1,false,(el Z45 v13 v12).2.2.2.2.2.2.2.2.2.2)) v12).1,(el Z45 (st v13 v12 ((el Z45 v13 v12).1,(el Z45 v13 v12).2.1,(el Z45 v13 v12).2.2.1,(el Z45 v13 v12).2.2.2.1,(el Z45 v13 v12).2.2.2.2.1,(el Z45 v13 v12).2.2.2.2.2.1,(el Z45 v13 v12).2.2.2.2.2.2.1,(el Z45 v13 v12).2.2.2.2.2.2.2.1,(el Z45 v13 v12).2.2.2.2.2.2.2.2.1,false,(el Z45 v13 v12).2.2.2.2.2.2.2.2.2.2)) v12).2.1,(el Z45 (st v13 v12 ((el Z45 v13 v12).1,(el Z45 v13 v12).2.1,(el Z45 v13 v12).2.2.1,(el Z45 v13 v12).2.2.2.1,(el Z45 v13 v12).2.2.2.2.1,(el Z45 v13 v12).2.2.2.2.2.1,(el Z45 v13 v12).2.2.2.2.2.2.1,(el Z45 v13 v12).2.2.2.2.2.2.2.1,(el Z45 v13 v12).2.2.2.2.2.2.2.2.1,false,(el Z45 v13 v12).2.2.2.2.2.2.2.2.2.2)) v12).2.2.1,(el Z45 (st v13 v12 ((el Z45 v13 v12).1,(el Z45 v13 v12).2.1,(el Z45 v13 v12).2.2.1,(el Z45 v13 v12).2.2.2.1,(el Z45 v13 v12).2.2.2.2.1,(el Z45 v13 v12).2.2.2.2.2.1,(el Z45 v13 v12).2.2.2.2.2.2.1,(el Z45 v13 v12).2.2.2.2.2.2.2.1,(el Z45 v13 v12).2.2.2.2.2.2.2.2.1,false,(el Z45 v13 v12).2.2.2.2.2.2.2.2.2.2)) v12).2.2.2.1,(el Z45 (st v13 v12 ((el Z45 v13 v12).1,(el Z45 v13 v12).2.1,(el Z45 v13 v12).2.2.1,(el Z45 v13 v12).2.2.2.1,(el Z45 v13 v12).2.2.2.2.1,(el Z45 v13 v12).2.2.2.2.2.1,(el Z45 v13 v12).2.2.2.2.2.2.1,(el Z45 v13 v12).2.2.2.2.2.2.2.1,(el Z45 v13 v12).2.2.2.2.2.2.2.2.1,false,(el Z45 v13 v12).2.2.2.2.2.2.2.2.2.2)) v12).2.2.2.2.1,(el Z45 (st v13 v12 ((el Z45 v13 v12).1,(el Z45 v13 v12).2.1,(el Z45 v13 v12).2.2.1,(el Z45 v13 v12).2.2.2.1,(el Z45 v13 v12).2.2.2.2.1,(el Z45 v13 v12).2.2.2.2.2.1,(el Z45 v13 v12).2.2.2.2.2.2.1,(el Z45 v13 v12).2.2.2.2.2.2.2.1,(el Z45 v13 v12).2.2.2.2.2.2.2.2.1,false,(el Z45 v13 v12).2.2.2.2.2.2.2.2.2.2)) v12).2.2.2.2.2.1,(el Z45 (st v13 v12 ((el Z45 v13 v12).1,(el Z45 v13 v12).2.1,(el Z45 v13 v12).2.2.1,(el Z45 v13 v12).2.2.2.1,(el Z45 v13 v12).2.2.2.2.1,(el Z45 v13 v12).2.2.2.2.2.1,(el Z45 v13 v12).2.2.2.2.2.2.1,(el Z45 v13 v12).2.2.2.2.2.2.2.1,(el Z45 v13 v12).2.2.2.2.2.2.2.2.1,false,(el Z45 v13 v12).2.2.2.2.2.2.2.2.2.2)) v12).2.2.2.2.2.2.1,(el Z45 (st v13 v12 ((el Z45 v13 v12).1,(el Z45 v13 v12).2.1,(el Z45 v13 v12).2.2.1,(el Z45 v13 v12).2.2.2.1,(el Z45 v13 v12).2.2.2.2.1,(el Z45 v13 v12).2.2.2.2.2.1,(el Z45 v13 v12).2.2.2.2.2.2.1,(el Z45 v13 v12).2.2.2.2.2.2.2.1,(el Z45 v13 v12).2.2.2.2.2.2.2.2.1,false,(el Z45 v13 v12).2.2.2.2.2.2.2.2.2.2)) v12).2.2.2.2.2.2.2.1,(el Z45 (st v13 v12 ((el Z45 v13 v12).1,(el Z45 v13 v12).2.1,(el Z45 v13 v12).2.2.1,(el Z45 v13 v12).2.2.2.1,(el Z45 v13 v12).2.2.2.2.1,(el Z45 v13 v12).2.2.2.2.2.1,(el Z45 v13 v12).2.2.2.2.2.2.1,(el Z45 v13 v12).2.2.2.2.2.2.2.1,(el Z45 v13 v12).2.2.2.2.2.2.2.2.1,false,(el Z45 v13 v12).2.2.2.2.2.2.2.2.2.2)) v12).2.2.2.2.2.2.2.2.1,(el Z45 (st v13 v12 ((el Z45 v13 v12).1,(el Z45 v13 v12).2.1,(el Z45 v13 v12).2.2.1,(el Z45 v13 v12).2.2.2.1,(el Z45 v13 v12).2.2.2.2.1,(el Z45 v13 v12).2.2.2.2.2.1,(el Z45 v13 v12).2.2.2.2.2.2.1,(el Z45 v13 v12).2.2.2.2.2.2.2.1,(el Z45 v13 v12).2.2.2.2.2.2.2.2.1,false,(el Z45 v13 v12).2.2.2.2.2.2.2.2.2.2)) v12).2.2.2.2.2.2.2.2.2.1,(0:Int),()))))) (by kernel_rfl)) ((phys_wake.c2_ok k o10 r0 r1 n (iadd .i64 v12 (1:Int)) (st (st v13 v12 ((el Z45 v13 v12).1,(el Z45 v13 v12).2.1,(el Z45 v13 v12).2.2.1,(el Z45 v13 v12).2.2.2.1,(el Z45 v13 v12).2.2.2.2.1,(el Z45 v13 v12).2.2.2.2.2.1,(el Z45 v13 v12).2.2.2.2.2.2.1,(el Z45 v13 v12).2.2.2.2.2.2.2.1,(el Z45 v13 v12).2.2.2.2.2.2.2.2.1,false,(el Z45 v13 v12).2.2.2.2.2.2.2.2.2.2)) v12 ((el Z45 (st v13 v12 ((el Z45 v13 v12).1,(el Z45 v13 v12).2.1,(el Z45 v13 v12).2.2.1,(el Z45 v13 v12).2.2.2.1,(el Z45 v13 v12).2.2.2.2.1,(el Z45 v13 v12).2.2.2.2.2.1,(el Z45 v13 v12).2.2.2.2.2.2.1,(el Z45 v13 v12).2.2.2.2.2.2.2.1,(el Z45 v13 v12).2.2.2.2.2.2.2.2.1,false,(el Z45 v13 v12).2.2.2.2.2.2.2.2.2.2)) v12).1,(el Z45 (st v13 v12 ((el Z45 v13 v12).1,(el Z45 v13 v12).2.1,(el Z45 v13 v12).2.2.1,(el Z45 v13 v12).2.2.2.1,(el Z45 v13 v12).2.2.2.2.1,(el Z45 v13 v12).2.2.2.2.2.1,(el Z45 v13 v12).2.2.2.2.2.2.1,(el Z45 v13 v12).2.2.2.2.2.2.2.1,(el Z45 v13 v12).2.2.2.2.2.2.2.2.1,false,(el Z45 v13 v12).2.2.2.2.2.2.2.2.2.2)) v12).2.1,(el Z45 (st v13 v12 ((el Z45 v13 v12).1,(el Z45 v13 v12).2.1,(el Z45 v13 v12).2.2.1,(el Z45 v13 v12).2.2.2.1,(el Z45 v13 v12).2.2.2.2.1,(el Z45 v13 v12).2.2.2.2.2.1,(el Z45 v13 v12).2.2.2.2.2.2.1,(el Z45 v13 v12).2.2.2.2.2.2.2.1,(el Z45 v13 v12).2.2.2.2.2.2.2.2.1,false,(el Z45 v13 v12).2.2.2.2.2.2.2.2.2.2)) v12).2.2.1,(el Z45 (st v13 v12 ((el Z45 v13 v12).1,(el Z45 v13 v12).2.1,(el Z45 v13 v12).2.2.1,(el Z45 v13 v12).2.2.2.1,(el Z45 v13 v12).2.2.2.2.1,(el Z45 v13 v12).2.2.2.2.2.1,(el Z45 v13 v12).2.2.2.2.2.2.1,(el Z45 v13 v12).2.2.2.2.2.2.2.1,(el Z45 v13 v12).2.2.2.2.2.2.2.2.1,false,(el Z45 v13 v12).2.2.2.2.2.2.2.2.2.2)) v12).2.2.2.1,(el Z45 (st v13 v12 ((el Z45 v13 v12).1,(el Z45 v13 v12).2.1,(el Z45 v13 v12).2.2.1,(el Z45 v13 v12).2.2.2.1,(el Z45 v13 v12).2.2.2.2.1,(el Z45 v13 v12).2.2.2.2.2.1,(el Z45 v13 v12).2.2.2.2.2.2.1,(el Z45 v13 v12).2.2.2.2.2.2.2.1,(el Z45 v13 v12).2.2.2.2.2.2.2.2.1,false,(el Z45 v13 v12).2.2.2.2.2.2.2.2.2.2)) v12).2.2.2.2.1,(el Z45 (st v13 v12 ((el Z45 v13 v12).1,(el Z45 v13 v12).2.1,(el Z45 v13 v12).2.2.1,(el Z45 v13 v12).2.2.2.1,(el Z45 v13 v12).2.2.2.2.1,(el Z45 v13 v12).2.2.2.2.2.1,(el Z45 v13 v12).2.2.2.2.2.2.1,(el Z45 v13 v12).2.2.2.2.2.2.2.1,(el Z45 v13 v12).2.2.2.2.2.2.2.2.1,false,(el Z45 v13 v12).2.2.2.2.2.2.2.2.2.2)) v12).2.2.2.2.2.1,(el Z45 (st v13 v12 ((el Z45 v13 v12).1,(el Z45 v13 v12).2.1,(el Z45 v13 v12).2.2.1,(el Z45 v13 v12).2.2.2.1,(el Z45 v13 v12).2.2.2.2.1,(el Z45 v13 v12).2.2.2.2.2.1,(el Z45 v13 v12).2.2.2.2.2.2.1,(el Z45 v13 v12).2.2.2.2.2.2.2.1,(el Z45 v13 v12).2.2.2.2.2.2.2.2.1,false,(el Z45 v13 v12).2.2.2.2.2.2.2.2.2.2)) v12).2.2.2.2.2.2.1,(el Z45 (st v13 v12 ((el Z45 v13 v12).1,(el Z45 v13 v12).2.1,(el Z45 v13 v12).2.2.1,(el Z45 v13 v12).2.2.2.1,(el Z45 v13 v12).2.2.2.2.1,(el Z45 v13 v12).2.2.2.2.2.1,(el Z45 v13 v12).2.2.2.2.2.2.1,(el Z45 v13 v12).2.2.2.2.2.2.2.1,(el Z45 v13 v12).2.2.2.2.2.2.2.2.1,false,(el Z45 v13 v12).2.2.2.2.2.2.2.2.2.2)) v12).2.2.2.2.2.2.2.1,(el Z45 (st v13 v12 ((el Z45 v13 v12).1,(el Z45 v13 v12).2.1,(el Z45 v13 v12).2.2.1,(el Z45 v13 v12).2.2.2.1,(el Z45 v13 v12).2.2.2.2.1,(el Z45 v13 v12).2.2.2.2.2.1,(el Z45 v13 v12).2.2.2.2.2.2.1,(el Z45 v13 v12).2.2.2.2.2.2.2.1,(el Z45 v13 v12).2.2.2.2.2.2.2.2.1,false,(el Z45 v13 v12).2.2.2.2.2.2.2.2.2.2)) v12).2.2.2.2.2.2.2.2.1,(el Z45 (st v13 v12 ((el Z45 v13 v12).1,(el Z45 v13 v12).2.1,(el Z45 v13 v12).2.2.1,(el Z45 v13 v12).2.2.2.1,(el Z45 v13 v12).2.2.2.2.1,(el Z45 v13 v12).2.2.2.2.2.1,(el Z45 v13 v12).2.2.2.2.2.2.1,(el Z45 v13 v12).2.2.2.2.2.2.2.1,(el Z45 v13 v12).2.2.2.2.2.2.2.2.1,false,(el Z45 v13 v12).2.2.2.2.2.2.2.2.2.2)) v12).2.2.2.2.2.2.2.2.2.1,(0:Int),()))).ap hy)) (fun e21 =>
  fun y hy=>loop_back (phys_wake.cok k) hmix 3 (phys_wake.c2p o10 r0 r1 (iadd .i64 v12 (1:Int)) v13) [tT,.cutR 9 ⟨[],[(0,0),(1,1),(2,2)],(phys_wake.c3p o10 r0 r1 v12 v13),3,.normal,(phys_wake.c3q o10 r0 r1 v12 v13 o19),3⟩,fF] [] [(0,0),(1,1),(2,2)] (via (cutP (aI tv0 e14) [(0,0),(1,1),(2,2)] (phys_wake.c3p o10 r0 r1 v12 v13) (((phys_wake.c3_ok k o10 r0 r1 v12 v13).ap e20)) (finP (aI tv0 e21) .normal [(0,0),(1,1),(2,2)] (phys_wake.c2p o10 r0 r1 (iadd .i64 v12 (1:Int)) v13))) (by kernel_rfl)) ((phys_wake.c2_ok k o10 r0 r1 n (iadd .i64 v12 (1:Int)) v13).ap hy))) (fun e14 =>
  oS (loop_exit (phys_wake.cok k) hmix [fF] [] [(0,0),(1,1)] (exne 2) (via (finP (aI tv0 e14) (.exit 2) [(0,0),(1,1)] (phys_wake.c2q r1 v13)) (by kernel_rfl)))))
@[irreducible] noncomputable def phys_wake.P (k:Nat) (r0:(List V45)) (r1:(List Int)) (y:(List V45)) (w:List Ans) (c0:List Cmd):Prop:=exec PR (phys_wake.cx k) phys_wake.code 2 (entryH (phys_wake.h k) (r0,r1,())).st w (RetH (phys_wake.cx k) Tryz.f41 c0 (phys_wake.h k) (r0,r1,()) y)
theorem phys_wake.way (k:Nat) (r0:(List V45)) (r1:(List Int)):Owp (phys_wake k r0 r1) fun y=>∃ w c0,phys_wake.P k r0 r1 y w c0:=by
 unfold phys_wake; exact
  oR fun h1 =>
  oB fun o10 e11 =>
  oB fun o24 e25 =>
  oS (⟨[.cut ⟨[],[(0,0),(1,1),(2,4)],(phys_wake.c1p r0 r1 (0:Int) (mk0 false (len r0))),3,(.exit 0),(phys_wake.c1q r0 r1 o10),3⟩,.cut ⟨[],[(0,0),(1,1),(2,2)],(phys_wake.c2p o10 r0 r1 (0:Int) r0),3,(.exit 2),(phys_wake.c2q r1 o24),2⟩],[],via (cutP (aI tv0 h1) [(0,0),(1,1),(2,4)] (phys_wake.c1p r0 r1 (0:Int) (mk0 false (len r0))) (((phys_wake.c1_ok k r0 r1 k (0:Int) (mk0 false (len r0))).ap e11).triple) (cutP tv0 [(0,0),(1,1),(2,2)] (phys_wake.c2p o10 r0 r1 (0:Int) r0) (((phys_wake.c2_ok k o10 r0 r1 k (0:Int) r0).ap e25).triple) (rethP tv0 [(0,.row T45 o24 46),(1,.row T2 r1 3)] .none (():Unit)))) (by kernel_rfl)⟩)
theorem phys_wake.ok (k:Nat):HOk PR 41 (phys_wake.h k) :=
 fnH_ok (phys_wake.cok k) hmix Tryz.func41 (code:=phys_wake.code) (by kernel_rfl) (by kernel_rfl) (by kernel_rfl) (by kernel_rfl) (by kernel_rfl) (by kernel_rfl) (fun x=>Nat.le_of_ble_eq_true (by kernel_rfl)) fun x y hy=>match (phys_wake.way k x.1 x.2.1).ap hy with | ⟨ans,c0,h⟩=>⟨ans,c0,via h (by kernel_rfl)⟩
noncomputable def phys_fall.code:Code:=Func.cd Tryz.f42
noncomputable def phys_fall.c2 (k:Nat) (v1:Int) (v2:(List V45)):Option (Bool) :=
 bif' (igt (el Z45 v2 v1).2.2.2.2.1 0)
 (some (!(el Z45 v2 v1).2.2.2.2.2.2.2.2.2.1))
 (some false)
noncomputable def phys_fall.c1 (k:Nat) (a1:V26) (a2:Int) (r0:(List V45)):Nat→Int→(List V45)→Option ((List V45))
 | 0,_,_=>none
 | n+1,v1,v2 =>
  bif' (ilt v1 (len r0))
  (req (inL v1 v2) <|bnd (phys_fall.c2 k v1 v2) fun o6 =>
  bif' o6
  (bnd (fix_Mul k a1.1 a2) fun y9 =>
  bnd (fix_Mul k a1.2.1 a2) fun y11 =>
  bnd (vec_Add k (el Z45 v2 v1).2.1 (y9,y11,())) fun y13 =>
  phys_fall.c1 k a1 a2 r0 n (iadd .i64 v1 1) (st v2 v1 ((el Z45 v2 v1).1,((imin (imax y13.1 (-268435456)) 268435456),(imin (imax y13.2.1 (-268435456)) 268435456),()),(el Z45 v2 v1).2.2)))
  (phys_fall.c1 k a1 a2 r0 n (iadd .i64 v1 1) v2))
  (some v2)
noncomputable def phys_fall (k:Nat) (a1:V26) (a2:Int) (r0:(List V45)):Option (List V45) :=
 bnd (phys_fall.c1 k a1 a2 r0 k 0 r0) fun o15 =>
 some o15
noncomputable def phys_fall.h (k:Nat):Go.Sx.HSp:=⟨(.pair T26 (.pair T2 (.pair (.slice T45) .unit))),(.slice T45),1,fun x=>[.lent (.val .own (0:Nat)),.dat T26 x.1,.dat T2 x.2.1],fun x=>[(0,.row T45 x.2.2.1 46)],fun x=>phys_fall k x.1 x.2.1 x.2.2.1,fun x y=>[(0,.row T45 y 46)],.none,fun y=>(),false,false⟩
noncomputable def phys_fall.cx (k:Nat):Go.Sx.Ctx:=⟨tys,[(47,fix_Mul.sp k),(10,vec_Add.sp k)],eqs,50,1,[],false⟩
theorem phys_fall.cok (k:Nat):CtxOk PR (phys_fall.cx k):=ctx_ok tysOk eqsOk (fC (fix_Mul.ok k) (fC (vec_Add.ok k) FnsOk.nil)) HsOk.nil
noncomputable def phys_fall.c2p (a1:V26) (a2:Int) (r0:(List V45)) (v1:Int) (v2:(List V45)):SL:=⟨[(0,(.val .own (0:Nat))),(2,(.val T2 a2)),(4,(.val .ptr ⟨1,0,(0:Int),0,0⟩)),(6,(.val T2 v1)),(7,(.val .ptr ⟨2,0,(0:Int),0,0⟩)),(9,(.val .own (0:Nat))),(10,(.val T2 (len r0))),(11,(.val T2 v1))],[(0,.row T45 v2 46),(1,.cells T26 a1),(2,.cells T45 (el Z45 v2 v1))]⟩
noncomputable def phys_fall.c2q (a1:V26) (a2:Int) (r0:(List V45)) (v1:Int) (v2:(List V45)) (o:Bool):SL:=(fun v=>⟨[(0,(.val .own (0:Nat))),(2,(.val T2 a2)),(4,(.val .ptr ⟨1,0,(0:Int),0,0⟩)),(6,(.val T2 v1)),(7,(.val .ptr ⟨2,0,(0:Int),0,0⟩)),(9,(.val .own (0:Nat))),(10,(.val T2 (len r0))),(11,(.val T2 v1)),(23,(.val T4 v))],[(0,.row T45 v2 46),(1,.cells T26 a1),(2,.cells T45 (el Z45 v2 v1))]⟩) o
noncomputable def phys_fall.c2x (o:Bool):Ex:=(fun _=>.normal) o
noncomputable def phys_fall.c2n (o:Bool):Nat:=(fun _=>3) o
theorem phys_fall.c2_ok (k:Nat) (a1:V26) (a2:Int) (r0:(List V45)) (v1:Int) (v2:(List V45)):Owp (phys_fall.c2 k v1 v2) fun o=>Triple PR (phys_fall.cx k) (sub phys_fall.code [1,1,0,0,1,1,0,0,1,0]) 3 (phys_fall.c2p a1 a2 r0 v1 v2) (phys_fall.c2x o) (phys_fall.c2n o) (phys_fall.c2q a1 a2 r0 v1 v2 o):=by
 unfold phys_fall.c2; exact
  oF (fun e5 =>
  oS (tW (phys_fall.cok k) hmix [tT,tT,tT,tT] [] [(0,0),(1,1),(2,2)] (via (finP (aI (aI (aI (aI tv0 e5) e5) e5) e5) .normal [(0,0),(1,1),(2,2)] (phys_fall.c2q a1 a2 r0 v1 v2 (!(el Z45 v2 v1).2.2.2.2.2.2.2.2.2.1))) (by kernel_rfl)))) (fun e5 =>
  oS (tW (phys_fall.cok k) hmix [fF,fF,fF,fF] [] [(0,0),(1,1),(2,2)] (via (finP (aI (aI (aI (aI tv0 e5) e5) e5) e5) .normal [(0,0),(1,1),(2,2)] (phys_fall.c2q a1 a2 r0 v1 v2 false)) (by kernel_rfl))))
noncomputable def phys_fall.c1p (a1:V26) (a2:Int) (r0:(List V45)) (v1:Int) (v2:(List V45)):SL:=⟨[(0,(.val .own (0:Nat))),(2,(.val T2 a2)),(4,(.val .ptr ⟨1,0,(0:Int),0,0⟩)),(9,(.val .own (0:Nat))),(10,(.val T2 (len r0))),(11,(.val T2 v1))],[(0,.row T45 v2 46),(1,.cells T26 a1)]⟩
noncomputable def phys_fall.c1q (o:(List V45)):SL:=(fun v=>⟨[],[(0,.row T45 v 46)]⟩) o
noncomputable def phys_fall.c1x (o:(List V45)):Ex:=(fun _=>(.exit 0)) o
noncomputable def phys_fall.c1n (o:(List V45)):Nat:=(fun _=>1) o
theorem phys_fall.c1_ok (k:Nat) (a1:V26) (a2:Int) (r0:(List V45)):∀ (n:Nat) (v1:Int) (v2:(List V45)),Owp (phys_fall.c1 k a1 a2 r0 n v1 v2) fun o=>LTriple PR (phys_fall.cx k) (sub phys_fall.code [1,1,0,0]) 2 (phys_fall.c1p a1 a2 r0 v1 v2) (phys_fall.c1x o) (phys_fall.c1n o) (phys_fall.c1q o)
 | 0,_,_=>fun _ h=>nomatch h
 | n+1,v1,v2=>Owp.of (phys_fall.c1.eq_2 ..) (
  oF (fun e3 =>
  oR fun h4 =>
  oB fun o6 e7 =>
  oF (fun e8 =>
  oB fun y9 e10 =>
  oB fun y11 e12 =>
  oB fun y13 e14 =>
  fun y hy=>loop_back (phys_fall.cok k) hmix 2 (phys_fall.c1p a1 a2 r0 (iadd .i64 v1 (1:Int)) (st v2 v1 ((el Z45 v2 v1).1,((imin (imax y13.1 (-268435456:Int)) (268435456:Int)),(imin (imax y13.2.1 (-268435456:Int)) (268435456:Int)),()),(el Z45 v2 v1).2.2))) [tT,.cutR 4 ⟨[],[(0,0),(1,1),(2,6)],(phys_fall.c2p a1 a2 r0 v1 v2),3,.normal,(phys_fall.c2q a1 a2 r0 v1 v2 o6),3⟩,tT,rS T2 y9,rS T2 y11,rS T26 y13] [] [(0,0),(1,1)] (via (cutP (aI (aI (aI tv0 e3) h4) h4) [(0,0),(1,1),(2,6)] (phys_fall.c2p a1 a2 r0 v1 v2) (((phys_fall.c2_ok k a1 a2 r0 v1 v2).ap e7)) (finP (aI (aI (aI (aI (aI (aI tv0 e8) e10) e12) e14) h4) h4) .normal [(0,0),(1,1)] (phys_fall.c1p a1 a2 r0 (iadd .i64 v1 (1:Int)) (st v2 v1 ((el Z45 v2 v1).1,((imin (imax y13.1 (-268435456:Int)) (268435456:Int)),(imin (imax y13.2.1 (-268435456:Int)) (268435456:Int)),()),(el Z45 v2 v1).2.2))))) (by kernel_rfl)) ((phys_fall.c1_ok k a1 a2 r0 n (iadd .i64 v1 (1:Int)) (st v2 v1 ((el Z45 v2 v1).1,((imin (imax y13.1 (-268435456:Int)) (268435456:Int)),(imin (imax y13.2.1 (-268435456:Int)) (268435456:Int)),()),(el Z45 v2 v1).2.2))).ap hy)) (fun e8 =>
  fun y hy=>loop_back (phys_fall.cok k) hmix 2 (phys_fall.c1p a1 a2 r0 (iadd .i64 v1 (1:Int)) v2) [tT,.cutR 4 ⟨[],[(0,0),(1,1),(2,6)],(phys_fall.c2p a1 a2 r0 v1 v2),3,.normal,(phys_fall.c2q a1 a2 r0 v1 v2 o6),3⟩,fF] [] [(0,0),(1,1)] (via (cutP (aI (aI (aI tv0 e3) h4) h4) [(0,0),(1,1),(2,6)] (phys_fall.c2p a1 a2 r0 v1 v2) (((phys_fall.c2_ok k a1 a2 r0 v1 v2).ap e7)) (finP (aI tv0 e8) .normal [(0,0),(1,1)] (phys_fall.c1p a1 a2 r0 (iadd .i64 v1 (1:Int)) v2))) (by kernel_rfl)) ((phys_fall.c1_ok k a1 a2 r0 n (iadd .i64 v1 (1:Int)) v2).ap hy))) (fun e3 =>
  oS (loop_exit (phys_fall.cok k) hmix [fF] [] [(0,0)] (exne 0) (via (finP (aI tv0 e3) (.exit 0) [(0,0)] (phys_fall.c1q v2)) (by kernel_rfl)))))
@[irreducible] noncomputable def phys_fall.P (k:Nat) (a1:V26) (a2:Int) (r0 y:(List V45)) (w:List Ans) (c0:List Cmd):Prop:=exec PR (phys_fall.cx k) phys_fall.code 1 (entryH (phys_fall.h k) (a1,a2,r0,())).st w (RetH (phys_fall.cx k) Tryz.f42 c0 (phys_fall.h k) (a1,a2,r0,()) y)
theorem phys_fall.way (k:Nat) (a1:V26) (a2:Int) (r0:(List V45)):Owp (phys_fall k a1 a2 r0) fun y=>∃ w c0,phys_fall.P k a1 a2 r0 y w c0:=by
 unfold phys_fall; exact
  oB fun o15 e16 =>
  oS (⟨[.cut ⟨[],[(0,0),(1,1)],(phys_fall.c1p a1 a2 r0 (0:Int) r0),2,(.exit 0),(phys_fall.c1q o15),1⟩],[],via (cutP tv0 [(0,0),(1,1)] (phys_fall.c1p a1 a2 r0 (0:Int) r0) (((phys_fall.c1_ok k a1 a2 r0 k (0:Int) r0).ap e16).triple) (rethP tv0 [(0,.row T45 o15 46)] .none (():Unit))) (by kernel_rfl)⟩)
theorem phys_fall.ok (k:Nat):HOk PR 42 (phys_fall.h k) :=
 fnH_ok (phys_fall.cok k) hmix Tryz.func42 (code:=phys_fall.code) (by kernel_rfl) (by kernel_rfl) (by kernel_rfl) (by kernel_rfl) (by kernel_rfl) (by kernel_rfl) (fun x=>Nat.le_of_ble_eq_true (by kernel_rfl)) fun x y hy=>match (phys_fall.way k x.1 x.2.1 x.2.2.1).ap hy with | ⟨ans,c0,h⟩=>⟨ans,c0,via h (by kernel_rfl)⟩
end Go.Proofs.T1
