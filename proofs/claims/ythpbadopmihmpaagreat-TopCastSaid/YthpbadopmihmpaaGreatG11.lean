import Derived.Test.YthpbadopmihmpaaGreatG0
import Derived.Test.YthpbadopmihmpaaGreatG1
import Derived.Test.YthpbadopmihmpaaGreatG4
import Derived.Test.YthpbadopmihmpaaGreatG5
import Derived.Test.YthpbadopmihmpaaGreatG8
namespace Go.Proofs.T1
open Go Go.Sx Go.Proofs
set_option maxRecDepth 100000
set_option linter.unusedVariables false
noncomputable def ray_within.code:Code:=Func.cd Tryz.f14
noncomputable def ray_within (k:Nat) (a0:V26):Option Bool :=
 bif' (ige a0.1 (-65536000))
 (bif' (ile a0.1 65536000)
  (bif' (ige a0.2.1 (-65536000))
  (some (ile a0.2.1 65536000))
  (some false))
  (some false))
 (some false)
noncomputable def ray_within.sp (k:Nat):Go.Sx.Spec:=⟨(.pair T26 .unit),(.one (.dp T4)),fun x=>ray_within k x.1,false⟩
noncomputable def ray_within.cx (k:Nat):Go.Sx.Ctx:=⟨tys,[],eqs,21,0,[],false⟩
theorem ray_within.cok (k:Nat):CtxOk PR (ray_within.cx k):=ctx_ok tysOk eqsOk FnsOk.nil HsOk.nil
theorem ray_within.way (k:Nat) (a0:V26):Owp (ray_within k a0) fun y=>∃ w c0,exec PR (ray_within.cx k) ray_within.code 0 (entry (.pair T26 .unit) (a0,())).st w (Ret (ray_within.cx k) Tryz.f14 c0 (.one (.dp T4)) y):=by
 unfold ray_within; exact
  oF (fun e1 =>
  oF (fun e2 =>
  oF (fun e3 =>
  oS (⟨[tT,tT,tT,tT,tT,tT,tT,tT,tT,tT,tT,tT],[],via (retP (aI (aI (aI (aI (aI (aI (aI (aI (aI (aI (aI (aI tv0 e1) e1) e1) e1) e2) e2) e2) e2) e3) e3) e3) e3) (.one (.dp T4)) ((ile a0.2.1 (65536000:Int)):Bool)) (by kernel_rfl)⟩)) (fun e3 =>
  oS (⟨[tT,tT,tT,tT,tT,tT,tT,tT,fF,fF,fF,fF],[],via (retP (aI (aI (aI (aI (aI (aI (aI (aI (aI (aI (aI (aI tv0 e1) e1) e1) e1) e2) e2) e2) e2) e3) e3) e3) e3) (.one (.dp T4)) (false:Bool)) (by kernel_rfl)⟩))) (fun e2 =>
  oS (⟨[tT,tT,tT,tT,fF,fF,fF,fF,fF,fF,fF,fF],[],via (retP (aI (aI (aI (aI (aI (aI (aI (aI (aI (aI (aI (aI tv0 e1) e1) e1) e1) e2) e2) e2) e2) ff) ff) ff) ff) (.one (.dp T4)) (false:Bool)) (by kernel_rfl)⟩))) (fun e1 =>
  oS (⟨[fF,fF,fF,fF,fF,fF,fF,fF,fF,fF,fF,fF],[],via (retP (aI (aI (aI (aI (aI (aI (aI (aI (aI (aI (aI (aI tv0 e1) e1) e1) e1) ff) ff) ff) ff) ff) ff) ff) ff) (.one (.dp T4)) (false:Bool)) (by kernel_rfl)⟩))
theorem ray_within.ok (k:Nat):FnOk PR 14 (ray_within.sp k) :=
 fn_ok (ray_within.cok k) hmix Tryz.func14 (code:=ray_within.code) (by kernel_rfl) (by kernel_rfl) (by kernel_rfl) rfl rfl (by kernel_rfl) (by kernel_rfl) (by kernel_rfl) (fun x=>Nat.le_of_ble_eq_true (by kernel_rfl)) fun x y hy=>(ray_within.way k x.1).ap hy
noncomputable def ray_first.code:Code:=Func.cd Tryz.f15
noncomputable def ray_first.c2 (k:Nat) (v1 v2:Int) (y8:(Int × Bool)):Option (Bool) :=
 bif' y8.2
 (bif' (ilt v1 0)
  (some true)
  (some (ilt y8.1 v2)))
 (some false)
noncomputable def ray_first.c1 (k:Nat) (a0:(List V45)) (a1:(((List V26) × Unit)→Option (Int × Bool))):Nat→Int→Int→Int→Option ((Int × Int))
 | 0,_,_,_=>none
 | n+1,v1,v2,v3 =>
  bif' (ilt v3 (len a0))
  (req (inL v3 a0) <|bnd (body_Place k (el Z45 a0 v3)) fun y6 =>
  bnd (a1 (y6,())) fun y8 =>
  bnd (ray_first.c2 k v1 v2 y8) fun o12 =>
  bif' o12
  (ray_first.c1 k a0 a1 n v3 y8.1 (iadd .i64 v3 1))
  (ray_first.c1 k a0 a1 n v1 v2 (iadd .i64 v3 1)))
  (some (v1,v2))
noncomputable def ray_first (k:Nat) (a0:(List V45)) (a1:(((List V26) × Unit)→Option (Int × Bool))):Option (Int × (Int × Int)) :=
 bnd (ray_first.c1 k a0 a1 k (-1) 0 0) fun o15 =>
 bif' (ilt o15.1 0)
 (some (0,0,4))
 (some (o15.1,o15.2,0))
noncomputable def ray_first.sp (k:Nat):Go.Sx.Spec:=⟨(.pair (.slice T45) (.pair (.fn2 (.pair T36 .unit) T2 T4) .unit)),(.more (.dp T2) (.more (.dp T2) (.one (.dp T2)))),fun x=>ray_first k x.1 x.2.1,false⟩
noncomputable def ray_first.cx (k:Nat):Go.Sx.Ctx:=⟨tys,[(26,(body_Place.sp k).frz)],eqs,44,0,[],false⟩
theorem ray_first.cok (k:Nat):CtxOk PR (ray_first.cx k):=ctx_ok tysOk eqsOk (fC (FnOk.frz rfl (body_Place.ok k)) FnsOk.nil) HsOk.nil
noncomputable def ray_first.c2p (a0:(List V45)) (a1:(((List V26) × Unit)→Option (Int × Bool))) (v1 v2 v3:Int) (y8:(Int × Bool)):SL:=⟨[(1,(.val (.fn2 (.pair T36 .unit) T2 T4) a1)),(7,(.val T2 v1)),(8,(.val T2 v2)),(9,(.val T2 v3)),(11,(.val T2 y8.1)),(12,(.val T4 y8.2)),(13,(.val (.slice T45) a0)),(14,(.val T2 (len a0))),(15,(.val T2 v3))],[]⟩
noncomputable def ray_first.c2q (a0:(List V45)) (a1:(((List V26) × Unit)→Option (Int × Bool))) (v1 v2 v3:Int) (y8:(Int × Bool)) (o:Bool):SL:=(fun v=>⟨[(1,(.val (.fn2 (.pair T36 .unit) T2 T4) a1)),(7,(.val T2 v1)),(8,(.val T2 v2)),(9,(.val T2 v3)),(11,(.val T2 y8.1)),(13,(.val (.slice T45) a0)),(14,(.val T2 (len a0))),(15,(.val T2 v3)),(36,(.val T4 v))],[]⟩) o
noncomputable def ray_first.c2x (o:Bool):Ex:=(fun _=>.normal) o
noncomputable def ray_first.c2n (o:Bool):Nat:=(fun _=>0) o
theorem ray_first.c2_ok (k:Nat) (a0:(List V45)) (a1:(((List V26) × Unit)→Option (Int × Bool))) (v1 v2 v3:Int) (y8:(Int × Bool)):Owp (ray_first.c2 k v1 v2 y8) fun o=>Triple PR (ray_first.cx k) (sub ray_first.code [1,1,0,1,0,0,1,1,0,0,1,1,0]) 0 (ray_first.c2p a0 a1 v1 v2 v3 y8) (ray_first.c2x o) (ray_first.c2n o) (ray_first.c2q a0 a1 v1 v2 v3 y8 o):=by
 unfold ray_first.c2; exact
  oF (fun e10 =>
  oF (fun e11 =>
  oS (tW (ray_first.cok k) hmix [tT,tT,tT,tT,tT,tT,tT,tT,tT] [] [] (via (finP (aI (aI (aI (aI (aI (aI (aI (aI tv0 e10) e10) e10) e11) e11) e11) (aI e10 e11)) e10) .normal [] (ray_first.c2q a0 a1 v1 v2 v3 y8 true)) (by kernel_rfl)))) (fun e11 =>
  oS (tW (ray_first.cok k) hmix [tT,tT,tT,fF,fF,fF,tT,fF,tT] [] [] (via (finP (aI (aI (aI (aI (aI (aI (aI (aI tv0 e10) e10) e10) e11) e11) e11) (aI e10 e11)) e10) .normal [] (ray_first.c2q a0 a1 v1 v2 v3 y8 (ilt y8.1 v2))) (by kernel_rfl))))) (fun e10 =>
  oS (tW (ray_first.cok k) hmix [fF,fF,fF,tT,tT,tT,fF,tT,fF] [] [] (via (finP (aI (aI (aI (aI (aI tv0 e10) e10) e10) e10) e10) .normal [] (ray_first.c2q a0 a1 v1 v2 v3 y8 false)) (by kernel_rfl))))
noncomputable def ray_first.c1p (a0:(List V45)) (a1:(((List V26) × Unit)→Option (Int × Bool))) (v1 v2 v3:Int):SL:=⟨[(1,(.val (.fn2 (.pair T36 .unit) T2 T4) a1)),(7,(.val T2 v1)),(8,(.val T2 v2)),(13,(.val (.slice T45) a0)),(14,(.val T2 (len a0))),(15,(.val T2 v3))],[]⟩
noncomputable def ray_first.c1q (o:(Int × Int)):SL:=(fun v=>⟨[(7,(.val T2 v.1)),(8,(.val T2 v.2))],[]⟩) o
noncomputable def ray_first.c1x (o:(Int × Int)):Ex:=(fun _=>(.exit 0)) o
noncomputable def ray_first.c1n (o:(Int × Int)):Nat:=(fun _=>0) o
theorem ray_first.c1_ok (k:Nat) (a0:(List V45)) (a1:(((List V26) × Unit)→Option (Int × Bool))):∀ (n:Nat) (v1 v2 v3:Int),Owp (ray_first.c1 k a0 a1 n v1 v2 v3) fun o=>LTriple PR (ray_first.cx k) (sub ray_first.code [1,1,0,1,0,0]) 0 (ray_first.c1p a0 a1 v1 v2 v3) (ray_first.c1x o) (ray_first.c1n o) (ray_first.c1q o)
 | 0,_,_,_=>fun _ h=>nomatch h
 | n+1,v1,v2,v3=>Owp.of (ray_first.c1.eq_2 ..) (
  oF (fun e4 =>
  oR fun h5 =>
  oB fun y6 e7 =>
  oB fun y8 e9 =>
  oB fun o12 e13 =>
  oF (fun e14 =>
  fun y hy=>loop_back (ray_first.cok k) hmix 0 (ray_first.c1p a0 a1 v3 y8.1 (iadd .i64 v3 (1:Int))) [tT,rS T36 y6,.res (.more (.dp T2) (.one (.dp T4))) y8,.cutR 6 ⟨[],[],(ray_first.c2p a0 a1 v1 v2 v3 y8),0,.normal,(ray_first.c2q a0 a1 v1 v2 v3 y8 o12),0⟩,tT] [] [] (via (cutP (aI (aI (aI (aI tv0 e4) h5) e7) e9) [] (ray_first.c2p a0 a1 v1 v2 v3 y8) (((ray_first.c2_ok k a0 a1 v1 v2 v3 y8).ap e13)) (finP (aI tv0 e14) .normal [] (ray_first.c1p a0 a1 v3 y8.1 (iadd .i64 v3 (1:Int))))) (by kernel_rfl)) ((ray_first.c1_ok k a0 a1 n v3 y8.1 (iadd .i64 v3 (1:Int))).ap hy)) (fun e14 =>
  fun y hy=>loop_back (ray_first.cok k) hmix 0 (ray_first.c1p a0 a1 v1 v2 (iadd .i64 v3 (1:Int))) [tT,rS T36 y6,.res (.more (.dp T2) (.one (.dp T4))) y8,.cutR 6 ⟨[],[],(ray_first.c2p a0 a1 v1 v2 v3 y8),0,.normal,(ray_first.c2q a0 a1 v1 v2 v3 y8 o12),0⟩,fF] [] [] (via (cutP (aI (aI (aI (aI tv0 e4) h5) e7) e9) [] (ray_first.c2p a0 a1 v1 v2 v3 y8) (((ray_first.c2_ok k a0 a1 v1 v2 v3 y8).ap e13)) (finP (aI tv0 e14) .normal [] (ray_first.c1p a0 a1 v1 v2 (iadd .i64 v3 (1:Int))))) (by kernel_rfl)) ((ray_first.c1_ok k a0 a1 n v1 v2 (iadd .i64 v3 (1:Int))).ap hy))) (fun e4 =>
  oS (loop_exit (ray_first.cok k) hmix [fF] [] [] (exne 0) (via (finP (aI tv0 e4) (.exit 0) [] (ray_first.c1q (v1,v2))) (by kernel_rfl)))))
theorem ray_first.way (k:Nat) (a0:(List V45)) (a1:(((List V26) × Unit)→Option (Int × Bool))):Owp (ray_first k a0 a1) fun y=>∃ w c0,exec PR (ray_first.cx k) ray_first.code 0 (entry (.pair (.slice T45) (.pair (.fn2 (.pair T36 .unit) T2 T4) .unit)) (a0,a1,())).st w (Ret (ray_first.cx k) Tryz.f15 c0 (.more (.dp T2) (.more (.dp T2) (.one (.dp T2)))) y):=by
 unfold ray_first; exact
  oB fun o15 e16 =>
  oF (fun e17 =>
  oS (⟨[.cut ⟨[],[],(ray_first.c1p a0 a1 (-1:Int) (0:Int) (0:Int)),0,(.exit 0),(ray_first.c1q o15),0⟩,tT],[],via (cutP tv0 [] (ray_first.c1p a0 a1 (-1:Int) (0:Int) (0:Int)) (((ray_first.c1_ok k a0 a1 k (-1:Int) (0:Int) (0:Int)).ap e16).triple) (retP (aI tv0 e17) (.more (.dp T2) (.more (.dp T2) (.one (.dp T2)))) (((0:Int),(0:Int),(4:Int)):(Int × (Int × Int))))) (by kernel_rfl)⟩)) (fun e17 =>
  oS (⟨[.cut ⟨[],[],(ray_first.c1p a0 a1 (-1:Int) (0:Int) (0:Int)),0,(.exit 0),(ray_first.c1q o15),0⟩,fF],[],via (cutP tv0 [] (ray_first.c1p a0 a1 (-1:Int) (0:Int) (0:Int)) (((ray_first.c1_ok k a0 a1 k (-1:Int) (0:Int) (0:Int)).ap e16).triple) (retP (aI tv0 e17) (.more (.dp T2) (.more (.dp T2) (.one (.dp T2)))) ((o15.1,o15.2,(0:Int)):(Int × (Int × Int))))) (by kernel_rfl)⟩))
theorem ray_first.ok (k:Nat):FnOk PR 15 (ray_first.sp k) :=
 fn_ok (ray_first.cok k) hmix Tryz.func15 (code:=ray_first.code) (by kernel_rfl) (by kernel_rfl) (by kernel_rfl) rfl rfl (by kernel_rfl) (by kernel_rfl) (by kernel_rfl) (fun x=>Nat.le_of_ble_eq_true (by kernel_rfl)) fun x y hy=>(ray_first.way k x.1 x.2.1).ap hy
noncomputable def ray_part_cmp.code:Code:=Func.cd Tryz.f27
noncomputable def ray_part_cmp (k:Nat) (a0 a1:V26):Option Int :=
 bnd (poly_Times k a0.1 a1.2.1) fun y1 =>
 bnd (poly_Times k a1.1 a0.2.1) fun y3 =>
 bnd (poly_Wide_Cmp k y1 y3) fun y5 =>
 some y5
noncomputable def ray_part_cmp.sp (k:Nat):Go.Sx.Spec:=⟨T133,(.one (.dp T2)),fun x=>ray_part_cmp k x.1 x.2.1,false⟩
noncomputable def ray_part_cmp.cx (k:Nat):Go.Sx.Ctx:=⟨tys,[(55,poly_Times.sp k),(56,poly_Wide_Cmp.sp k)],eqs,16,0,[],false⟩
theorem ray_part_cmp.cok (k:Nat):CtxOk PR (ray_part_cmp.cx k):=ctx_ok tysOk eqsOk (fC (poly_Times.ok k) (fC (poly_Wide_Cmp.ok k) FnsOk.nil)) HsOk.nil
theorem ray_part_cmp.way (k:Nat) (a0 a1:V26):Owp (ray_part_cmp k a0 a1) fun y=>∃ w c0,exec PR (ray_part_cmp.cx k) ray_part_cmp.code 0 (entry T133 (a0,a1,())).st w (Ret (ray_part_cmp.cx k) Tryz.f27 c0 (.one (.dp T2)) y):=by
 unfold ray_part_cmp; exact
  oB fun y1 e2 =>
  oB fun y3 e4 =>
  oB fun y5 e6 =>
  oS (⟨[rS T94 y1,rS T94 y3,rS T2 y5],[],via (retP (aI (aI (aI tv0 e2) e4) e6) (.one (.dp T2)) (y5:Int)) (by kernel_rfl)⟩)
theorem ray_part_cmp.ok (k:Nat):FnOk PR 27 (ray_part_cmp.sp k) :=
 fn_ok (ray_part_cmp.cok k) hmix Tryz.func27 (code:=ray_part_cmp.code) (by kernel_rfl) (by kernel_rfl) (by kernel_rfl) rfl rfl (by kernel_rfl) (by kernel_rfl) (by kernel_rfl) (fun x=>Nat.le_of_ble_eq_true (by kernel_rfl)) fun x y hy=>(ray_part_cmp.way k x.1 x.2.1).ap hy
noncomputable def ray_part_floor.code:Code:=Func.cd Tryz.f28
noncomputable def ray_part_floor.c1 (k:Nat) (a0:V26):Nat→Int→Int→Option (Int)
 | 0,_,_=>none
 | n+1,v1,v2 =>
  bif' (igt (isub .i64 v2 v1) 1)
  (bnd (poly_Times k (iquo .i64 (iadd .i64 v1 v2) 2) a0.2.1) fun y4 =>
  bnd (poly_Times k a0.1 65536) fun y6 =>
  bnd (poly_Wide_Cmp k y4 y6) fun y8 =>
  bif' (ile y8 0)
  (ray_part_floor.c1 k a0 n (iquo .i64 (iadd .i64 v1 v2) 2) v2)
  (ray_part_floor.c1 k a0 n v1 (iquo .i64 (iadd .i64 v1 v2) 2)))
  (some v1)
noncomputable def ray_part_floor (k:Nat) (a0:V26):Option Int :=
 bnd (ray_part_floor.c1 k a0 k 0 65537) fun o11 =>
 some o11
noncomputable def ray_part_floor.sp (k:Nat):Go.Sx.Spec:=⟨(.pair T26 .unit),(.one (.dp T2)),fun x=>ray_part_floor k x.1,false⟩
noncomputable def ray_part_floor.cx (k:Nat):Go.Sx.Ctx:=⟨tys,[(55,poly_Times.sp k),(56,poly_Wide_Cmp.sp k)],eqs,26,0,[],false⟩
theorem ray_part_floor.cok (k:Nat):CtxOk PR (ray_part_floor.cx k):=ctx_ok tysOk eqsOk (fC (poly_Times.ok k) (fC (poly_Wide_Cmp.ok k) FnsOk.nil)) HsOk.nil
noncomputable def ray_part_floor.c1p (a0:V26) (v1 v2:Int):SL:=⟨[(1,(.val .ptr ⟨0,0,(0:Int),0,0⟩)),(3,(.val T2 v1)),(4,(.val T2 v2))],[(0,.cells T26 a0)]⟩
noncomputable def ray_part_floor.c1q (o:Int):SL:=(fun v=>⟨[(3,(.val T2 v))],[]⟩) o
noncomputable def ray_part_floor.c1x (o:Int):Ex:=(fun _=>(.exit 0)) o
noncomputable def ray_part_floor.c1n (o:Int):Nat:=(fun _=>0) o
theorem ray_part_floor.c1_ok (k:Nat) (a0:V26):∀ (n:Nat) (v1 v2:Int),Owp (ray_part_floor.c1 k a0 n v1 v2) fun o=>LTriple PR (ray_part_floor.cx k) (sub ray_part_floor.code [1,1,0,0,0]) 1 (ray_part_floor.c1p a0 v1 v2) (ray_part_floor.c1x o) (ray_part_floor.c1n o) (ray_part_floor.c1q o)
 | 0,_,_=>fun _ h=>nomatch h
 | n+1,v1,v2=>Owp.of (ray_part_floor.c1.eq_2 ..) (
  oF (fun e3 =>
  oB fun y4 e5 =>
  oB fun y6 e7 =>
  oB fun y8 e9 =>
  oF (fun e10 =>
  fun y hy=>loop_back (ray_part_floor.cok k) hmix 1 (ray_part_floor.c1p a0 (iquo .i64 (iadd .i64 v1 v2) (2:Int)) v2) [tT,rS T94 y4,rS T94 y6,rS T2 y8,tT] [] [(0,0)] (via (finP (aI (aI (aI (aI (aI (aI tv0 e3) (by decide:nz (2:Int))) e5) e7) e9) e10) .normal [(0,0)] (ray_part_floor.c1p a0 (iquo .i64 (iadd .i64 v1 v2) (2:Int)) v2)) (by kernel_rfl)) ((ray_part_floor.c1_ok k a0 n (iquo .i64 (iadd .i64 v1 v2) (2:Int)) v2).ap hy)) (fun e10 =>
  fun y hy=>loop_back (ray_part_floor.cok k) hmix 1 (ray_part_floor.c1p a0 v1 (iquo .i64 (iadd .i64 v1 v2) (2:Int))) [tT,rS T94 y4,rS T94 y6,rS T2 y8,fF] [] [(0,0)] (via (finP (aI (aI (aI (aI (aI (aI tv0 e3) (by decide:nz (2:Int))) e5) e7) e9) e10) .normal [(0,0)] (ray_part_floor.c1p a0 v1 (iquo .i64 (iadd .i64 v1 v2) (2:Int)))) (by kernel_rfl)) ((ray_part_floor.c1_ok k a0 n v1 (iquo .i64 (iadd .i64 v1 v2) (2:Int))).ap hy))) (fun e3 =>
  oS (loop_exit (ray_part_floor.cok k) hmix [fF] [] [] (exne 0) (via (finP (aI tv0 e3) (.exit 0) [] (ray_part_floor.c1q v1)) (by kernel_rfl)))))
theorem ray_part_floor.way (k:Nat) (a0:V26):Owp (ray_part_floor k a0) fun y=>∃ w c0,exec PR (ray_part_floor.cx k) ray_part_floor.code 0 (entry (.pair T26 .unit) (a0,())).st w (Ret (ray_part_floor.cx k) Tryz.f28 c0 (.one (.dp T2)) y):=by
 unfold ray_part_floor; exact
  oB fun o11 e12 =>
  oS (⟨[.cut ⟨[],[(0,0)],(ray_part_floor.c1p a0 (0:Int) (65537:Int)),1,(.exit 0),(ray_part_floor.c1q o11),0⟩],[],via (cutP tv0 [(0,0)] (ray_part_floor.c1p a0 (0:Int) (65537:Int)) (((ray_part_floor.c1_ok k a0 k (0:Int) (65537:Int)).ap e12).triple) (retP tv0 (.one (.dp T2)) (o11:Int))) (by kernel_rfl)⟩)
theorem ray_part_floor.ok (k:Nat):FnOk PR 28 (ray_part_floor.sp k) :=
 fn_ok (ray_part_floor.cok k) hmix Tryz.func28 (code:=ray_part_floor.code) (by kernel_rfl) (by kernel_rfl) (by kernel_rfl) rfl rfl (by kernel_rfl) (by kernel_rfl) (by kernel_rfl) (fun x=>Nat.le_of_ble_eq_true (by kernel_rfl)) fun x y hy=>(ray_part_floor.way k x.1).ap hy
noncomputable def ray_line.code:Code:=Func.cd Tryz.f17
noncomputable def ray_line.c2 (k:Nat) (a0:(List V26)) (a1 a2:V26) (v1:Int):Option (Bool) :=
 bif' (ieq (iadd .i64 (imul .i64 (isub .i64 (el Z26 a0 (irem (iadd .i64 v1 1) (len a0))).2.1 (el Z26 a0 v1).2.1) a2.1) (imul .i64 (isub .i64 (el Z26 a0 v1).1 (el Z26 a0 (irem (iadd .i64 v1 1) (len a0))).1) a2.2.1)) 0)
 (some (ilt (iadd .i64 (imul .i64 (isub .i64 (el Z26 a0 (irem (iadd .i64 v1 1) (len a0))).2.1 (el Z26 a0 v1).2.1) (isub .i64 (el Z26 a0 v1).1 a1.1)) (imul .i64 (isub .i64 (el Z26 a0 v1).1 (el Z26 a0 (irem (iadd .i64 v1 1) (len a0))).1) (isub .i64 (el Z26 a0 v1).2.1 a1.2.1))) 0))
 (some false)
noncomputable def ray_line.c3 (k:Nat) (a0:(List V26)) (a1 a2:V26) (v1 v4 v5:Int):Option (Bool) :=
 bif' (igt (iadd .i64 (imul .i64 (isub .i64 (el Z26 a0 (irem (iadd .i64 v1 1) (len a0))).2.1 (el Z26 a0 v1).2.1) a2.1) (imul .i64 (isub .i64 (el Z26 a0 v1).1 (el Z26 a0 (irem (iadd .i64 v1 1) (len a0))).1) a2.2.1)) 0)
 (bnd (ray_part_cmp k ((iadd .i64 (imul .i64 (isub .i64 (el Z26 a0 (irem (iadd .i64 v1 1) (len a0))).2.1 (el Z26 a0 v1).2.1) (isub .i64 (el Z26 a0 v1).1 a1.1)) (imul .i64 (isub .i64 (el Z26 a0 v1).1 (el Z26 a0 (irem (iadd .i64 v1 1) (len a0))).1) (isub .i64 (el Z26 a0 v1).2.1 a1.2.1))),(iadd .i64 (imul .i64 (isub .i64 (el Z26 a0 (irem (iadd .i64 v1 1) (len a0))).2.1 (el Z26 a0 v1).2.1) a2.1) (imul .i64 (isub .i64 (el Z26 a0 v1).1 (el Z26 a0 (irem (iadd .i64 v1 1) (len a0))).1) a2.2.1)),()) (v4,v5,())) fun y15 =>
  some (ilt y15 0))
 (some false)
noncomputable def ray_line.c4 (k:Nat) (a0:(List V26)) (a1 a2:V26) (v1 v2 v3:Int):Option (Bool) :=
 bif' (ilt (iadd .i64 (imul .i64 (isub .i64 (el Z26 a0 (irem (iadd .i64 v1 1) (len a0))).2.1 (el Z26 a0 v1).2.1) a2.1) (imul .i64 (isub .i64 (el Z26 a0 v1).1 (el Z26 a0 (irem (iadd .i64 v1 1) (len a0))).1) a2.2.1)) 0)
 (bnd (ray_part_cmp k ((ineg .i64 (iadd .i64 (imul .i64 (isub .i64 (el Z26 a0 (irem (iadd .i64 v1 1) (len a0))).2.1 (el Z26 a0 v1).2.1) (isub .i64 (el Z26 a0 v1).1 a1.1)) (imul .i64 (isub .i64 (el Z26 a0 v1).1 (el Z26 a0 (irem (iadd .i64 v1 1) (len a0))).1) (isub .i64 (el Z26 a0 v1).2.1 a1.2.1)))),(ineg .i64 (iadd .i64 (imul .i64 (isub .i64 (el Z26 a0 (irem (iadd .i64 v1 1) (len a0))).2.1 (el Z26 a0 v1).2.1) a2.1) (imul .i64 (isub .i64 (el Z26 a0 v1).1 (el Z26 a0 (irem (iadd .i64 v1 1) (len a0))).1) a2.2.1))),()) (v2,v3,())) fun y21 =>
  some (igt y21 0))
 (some false)
noncomputable def ray_line.c1 (k:Nat) (a0:(List V26)) (a1 a2:V26):Nat→Int→Int→Int→Int→Int→Option (Unit ⊕ (Int × (Int × (Int × Int))))
 | 0,_,_,_,_,_=>none
 | n+1,v1,v2,v3,v4,v5 =>
  bif' (ilt v1 (len a0))
  (req (inL v1 a0) <|req (nz (len a0)) <|req (inL (irem (iadd .i64 v1 1) (len a0)) a0) <|bnd (ray_line.c2 k a0 a1 a2 v1) fun o11 =>
  bif' o11
  (some (.inl ()))
  (bnd (ray_line.c3 k a0 a1 a2 v1 v4 v5) fun o17 =>
  bif' o17
  (ray_line.c1 k a0 a1 a2 n (iadd .i64 v1 1) v2 v3 (iadd .i64 (imul .i64 (isub .i64 (el Z26 a0 (irem (iadd .i64 v1 1) (len a0))).2.1 (el Z26 a0 v1).2.1) (isub .i64 (el Z26 a0 v1).1 a1.1)) (imul .i64 (isub .i64 (el Z26 a0 v1).1 (el Z26 a0 (irem (iadd .i64 v1 1) (len a0))).1) (isub .i64 (el Z26 a0 v1).2.1 a1.2.1))) (iadd .i64 (imul .i64 (isub .i64 (el Z26 a0 (irem (iadd .i64 v1 1) (len a0))).2.1 (el Z26 a0 v1).2.1) a2.1) (imul .i64 (isub .i64 (el Z26 a0 v1).1 (el Z26 a0 (irem (iadd .i64 v1 1) (len a0))).1) a2.2.1)))
  (bnd (ray_line.c4 k a0 a1 a2 v1 v2 v3) fun o23 =>
  bif' o23
  (ray_line.c1 k a0 a1 a2 n (iadd .i64 v1 1) (ineg .i64 (iadd .i64 (imul .i64 (isub .i64 (el Z26 a0 (irem (iadd .i64 v1 1) (len a0))).2.1 (el Z26 a0 v1).2.1) (isub .i64 (el Z26 a0 v1).1 a1.1)) (imul .i64 (isub .i64 (el Z26 a0 v1).1 (el Z26 a0 (irem (iadd .i64 v1 1) (len a0))).1) (isub .i64 (el Z26 a0 v1).2.1 a1.2.1)))) (ineg .i64 (iadd .i64 (imul .i64 (isub .i64 (el Z26 a0 (irem (iadd .i64 v1 1) (len a0))).2.1 (el Z26 a0 v1).2.1) a2.1) (imul .i64 (isub .i64 (el Z26 a0 v1).1 (el Z26 a0 (irem (iadd .i64 v1 1) (len a0))).1) a2.2.1))) v4 v5)
  (ray_line.c1 k a0 a1 a2 n (iadd .i64 v1 1) v2 v3 v4 v5))))
  (some (.inr (v2,v3,v4,v5)))
noncomputable def ray_line (k:Nat) (a0:(List V26)) (a1 a2:V26):Option (Int × Bool) :=
 bnd (ray_line.c1 k a0 a1 a2 k 0 0 1 1 1) fun o26 =>
 two o26 (fun y28 =>
 some (0,false)) (fun y30 =>
 bnd (ray_part_cmp k (y30.1,y30.2.1,()) (y30.2.2.1,y30.2.2.2,())) fun y32 =>
  bif' (igt y32 0)
  (some (0,false))
  (bnd (ray_part_floor k (y30.1,y30.2.1,())) fun y35 =>
  some (y35,true)))
noncomputable def ray_line.sp (k:Nat):Go.Sx.Spec:=⟨(.pair T36 T133),(.more (.dp T2) (.one (.dp T4))),fun x=>ray_line k x.1 x.2.1 x.2.2.1,false⟩
noncomputable def ray_line.cx (k:Nat):Go.Sx.Ctx:=⟨tys,[(27,ray_part_cmp.sp k),(28,ray_part_floor.sp k)],eqs,118,0,[],false⟩
theorem ray_line.cok (k:Nat):CtxOk PR (ray_line.cx k):=ctx_ok tysOk eqsOk (fC (ray_part_cmp.ok k) (fC (ray_part_floor.ok k) FnsOk.nil)) HsOk.nil
noncomputable def ray_line.c2p (a0:(List V26)) (a1 a2:V26) (v1 v2 v3 v4 v5:Int):SL:=⟨[(0,(.val T36 a0)),(4,(.val .ptr ⟨0,0,(0:Int),0,0⟩)),(5,(.val .ptr ⟨1,0,(0:Int),0,0⟩)),(8,(.val .ptr ⟨2,0,(0:Int),0,0⟩)),(9,(.val .ptr ⟨3,0,(0:Int),0,0⟩)),(14,(.val T2 (iadd .i64 (imul .i64 (isub .i64 (el Z26 a0 (irem (iadd .i64 v1 (1:Int)) (len a0))).2.1 (el Z26 a0 v1).2.1) (isub .i64 (el Z26 a0 v1).1 a1.1)) (imul .i64 (isub .i64 (el Z26 a0 v1).1 (el Z26 a0 (irem (iadd .i64 v1 (1:Int)) (len a0))).1) (isub .i64 (el Z26 a0 v1).2.1 a1.2.1))))),(15,(.val T2 (iadd .i64 (imul .i64 (isub .i64 (el Z26 a0 (irem (iadd .i64 v1 (1:Int)) (len a0))).2.1 (el Z26 a0 v1).2.1) a2.1) (imul .i64 (isub .i64 (el Z26 a0 v1).1 (el Z26 a0 (irem (iadd .i64 v1 (1:Int)) (len a0))).1) a2.2.1)))),(18,(.val T36 a0)),(19,(.val T2 (len a0))),(20,(.val T2 v1))],[(0,.cells T26 a1),(1,.cells T26 a2),(2,.cells T26 (v2,v3,())),(3,.cells T26 (v4,v5,()))]⟩
noncomputable def ray_line.c2q (a0:(List V26)) (a1 a2:V26) (v1 v2 v3 v4 v5:Int) (o:Bool):SL:=(fun v=>⟨[(0,(.val T36 a0)),(4,(.val .ptr ⟨0,0,(0:Int),0,0⟩)),(5,(.val .ptr ⟨1,0,(0:Int),0,0⟩)),(8,(.val .ptr ⟨2,0,(0:Int),0,0⟩)),(9,(.val .ptr ⟨3,0,(0:Int),0,0⟩)),(14,(.val T2 (iadd .i64 (imul .i64 (isub .i64 (el Z26 a0 (irem (iadd .i64 v1 (1:Int)) (len a0))).2.1 (el Z26 a0 v1).2.1) (isub .i64 (el Z26 a0 v1).1 a1.1)) (imul .i64 (isub .i64 (el Z26 a0 v1).1 (el Z26 a0 (irem (iadd .i64 v1 (1:Int)) (len a0))).1) (isub .i64 (el Z26 a0 v1).2.1 a1.2.1))))),(15,(.val T2 (iadd .i64 (imul .i64 (isub .i64 (el Z26 a0 (irem (iadd .i64 v1 (1:Int)) (len a0))).2.1 (el Z26 a0 v1).2.1) a2.1) (imul .i64 (isub .i64 (el Z26 a0 v1).1 (el Z26 a0 (irem (iadd .i64 v1 (1:Int)) (len a0))).1) a2.2.1)))),(18,(.val T36 a0)),(19,(.val T2 (len a0))),(20,(.val T2 v1)),(72,(.val T4 v))],[(0,.cells T26 a1),(1,.cells T26 a2),(2,.cells T26 (v2,v3,())),(3,.cells T26 (v4,v5,()))]⟩) o
noncomputable def ray_line.c2x (o:Bool):Ex:=(fun _=>.normal) o
noncomputable def ray_line.c2n (o:Bool):Nat:=(fun _=>4) o
theorem ray_line.c2_ok (k:Nat) (a0:(List V26)) (a1 a2:V26) (v1 v2 v3 v4 v5:Int):Owp (ray_line.c2 k a0 a1 a2 v1) fun o=>Triple PR (ray_line.cx k) (sub ray_line.code [1,1,0,1,0,0,1,1,0,0,1,1,1,1,0,0]) 4 (ray_line.c2p a0 a1 a2 v1 v2 v3 v4 v5) (ray_line.c2x o) (ray_line.c2n o) (ray_line.c2q a0 a1 a2 v1 v2 v3 v4 v5 o):=by
 unfold ray_line.c2; exact
  oF (fun e10 =>
  oS (tW (ray_line.cok k) hmix [tT,tT,tT] [] [(0,0),(1,1),(2,2),(3,3)] (via (finP (aI (aI (aI tv0 e10) e10) e10) .normal [(0,0),(1,1),(2,2),(3,3)] (ray_line.c2q a0 a1 a2 v1 v2 v3 v4 v5 (ilt (iadd .i64 (imul .i64 (isub .i64 (el Z26 a0 (irem (iadd .i64 v1 (1:Int)) (len a0))).2.1 (el Z26 a0 v1).2.1) (isub .i64 (el Z26 a0 v1).1 a1.1)) (imul .i64 (isub .i64 (el Z26 a0 v1).1 (el Z26 a0 (irem (iadd .i64 v1 (1:Int)) (len a0))).1) (isub .i64 (el Z26 a0 v1).2.1 a1.2.1))) (0:Int)))) (by kernel_rfl)))) (fun e10 =>
  oS (tW (ray_line.cok k) hmix [fF,fF,fF] [] [(0,0),(1,1),(2,2),(3,3)] (via (finP (aI (aI (aI tv0 e10) e10) e10) .normal [(0,0),(1,1),(2,2),(3,3)] (ray_line.c2q a0 a1 a2 v1 v2 v3 v4 v5 false)) (by kernel_rfl))))
noncomputable def ray_line.c3p (a0:(List V26)) (a1 a2:V26) (v1 v2 v3 v4 v5:Int):SL:=⟨[(0,(.val T36 a0)),(4,(.val .ptr ⟨0,0,(0:Int),0,0⟩)),(5,(.val .ptr ⟨1,0,(0:Int),0,0⟩)),(8,(.val .ptr ⟨2,0,(0:Int),0,0⟩)),(9,(.val .ptr ⟨3,0,(0:Int),0,0⟩)),(14,(.val T2 (iadd .i64 (imul .i64 (isub .i64 (el Z26 a0 (irem (iadd .i64 v1 (1:Int)) (len a0))).2.1 (el Z26 a0 v1).2.1) (isub .i64 (el Z26 a0 v1).1 a1.1)) (imul .i64 (isub .i64 (el Z26 a0 v1).1 (el Z26 a0 (irem (iadd .i64 v1 (1:Int)) (len a0))).1) (isub .i64 (el Z26 a0 v1).2.1 a1.2.1))))),(15,(.val T2 (iadd .i64 (imul .i64 (isub .i64 (el Z26 a0 (irem (iadd .i64 v1 (1:Int)) (len a0))).2.1 (el Z26 a0 v1).2.1) a2.1) (imul .i64 (isub .i64 (el Z26 a0 v1).1 (el Z26 a0 (irem (iadd .i64 v1 (1:Int)) (len a0))).1) a2.2.1)))),(18,(.val T36 a0)),(19,(.val T2 (len a0))),(20,(.val T2 v1))],[(0,.cells T26 a1),(1,.cells T26 a2),(2,.cells T26 (v2,v3,())),(3,.cells T26 (v4,v5,()))]⟩
noncomputable def ray_line.c3q (a0:(List V26)) (a1 a2:V26) (v1 v2 v3 v4 v5:Int) (o:Bool):SL:=(fun v=>⟨[(0,(.val T36 a0)),(4,(.val .ptr ⟨0,0,(0:Int),0,0⟩)),(5,(.val .ptr ⟨1,0,(0:Int),0,0⟩)),(8,(.val .ptr ⟨2,0,(0:Int),0,0⟩)),(9,(.val .ptr ⟨3,0,(0:Int),0,0⟩)),(14,(.val T2 (iadd .i64 (imul .i64 (isub .i64 (el Z26 a0 (irem (iadd .i64 v1 (1:Int)) (len a0))).2.1 (el Z26 a0 v1).2.1) (isub .i64 (el Z26 a0 v1).1 a1.1)) (imul .i64 (isub .i64 (el Z26 a0 v1).1 (el Z26 a0 (irem (iadd .i64 v1 (1:Int)) (len a0))).1) (isub .i64 (el Z26 a0 v1).2.1 a1.2.1))))),(15,(.val T2 (iadd .i64 (imul .i64 (isub .i64 (el Z26 a0 (irem (iadd .i64 v1 (1:Int)) (len a0))).2.1 (el Z26 a0 v1).2.1) a2.1) (imul .i64 (isub .i64 (el Z26 a0 v1).1 (el Z26 a0 (irem (iadd .i64 v1 (1:Int)) (len a0))).1) a2.2.1)))),(18,(.val T36 a0)),(19,(.val T2 (len a0))),(20,(.val T2 v1)),(79,(.val T4 v))],[(0,.cells T26 a1),(1,.cells T26 a2),(2,.cells T26 (v2,v3,())),(3,.cells T26 (v4,v5,()))]⟩) o
noncomputable def ray_line.c3x (o:Bool):Ex:=(fun _=>.normal) o
noncomputable def ray_line.c3n (o:Bool):Nat:=(fun _=>4) o
theorem ray_line.c3_ok (k:Nat) (a0:(List V26)) (a1 a2:V26) (v1 v2 v3 v4 v5:Int):Owp (ray_line.c3 k a0 a1 a2 v1 v4 v5) fun o=>Triple PR (ray_line.cx k) (sub ray_line.code [1,1,0,1,0,0,1,1,0,0,1,1,1,1,0,1,1,0]) 4 (ray_line.c3p a0 a1 a2 v1 v2 v3 v4 v5) (ray_line.c3x o) (ray_line.c3n o) (ray_line.c3q a0 a1 a2 v1 v2 v3 v4 v5 o):=by
 unfold ray_line.c3; exact
  oF (fun e14 =>
  oB fun y15 e16 =>
  oS (tW (ray_line.cok k) hmix [tT,tT,tT,tT,tT,rS T2 y15,tT,tT] [] [(0,0),(1,1),(2,2),(3,3)] (via (finP (aI (aI (aI (aI (aI (aI (aI tv0 e14) e14) e14) e14) (aI e14 e16)) e14) e14) .normal [(0,0),(1,1),(2,2),(3,3)] (ray_line.c3q a0 a1 a2 v1 v2 v3 v4 v5 (ilt y15 (0:Int)))) (by kernel_rfl)))) (fun e14 =>
  oS (tW (ray_line.cok k) hmix [fF,fF,fF,fF,fF,tT,fF,fF] [] [(0,0),(1,1),(2,2),(3,3)] (via (finP (aI (aI (aI (aI (aI (aI (aI tv0 e14) e14) e14) e14) e14) e14) e14) .normal [(0,0),(1,1),(2,2),(3,3)] (ray_line.c3q a0 a1 a2 v1 v2 v3 v4 v5 false)) (by kernel_rfl))))
noncomputable def ray_line.c4p (a0:(List V26)) (a1 a2:V26) (v1 v2 v3 v4 v5:Int):SL:=⟨[(0,(.val T36 a0)),(4,(.val .ptr ⟨0,0,(0:Int),0,0⟩)),(5,(.val .ptr ⟨1,0,(0:Int),0,0⟩)),(8,(.val .ptr ⟨2,0,(0:Int),0,0⟩)),(9,(.val .ptr ⟨3,0,(0:Int),0,0⟩)),(14,(.val T2 (iadd .i64 (imul .i64 (isub .i64 (el Z26 a0 (irem (iadd .i64 v1 (1:Int)) (len a0))).2.1 (el Z26 a0 v1).2.1) (isub .i64 (el Z26 a0 v1).1 a1.1)) (imul .i64 (isub .i64 (el Z26 a0 v1).1 (el Z26 a0 (irem (iadd .i64 v1 (1:Int)) (len a0))).1) (isub .i64 (el Z26 a0 v1).2.1 a1.2.1))))),(15,(.val T2 (iadd .i64 (imul .i64 (isub .i64 (el Z26 a0 (irem (iadd .i64 v1 (1:Int)) (len a0))).2.1 (el Z26 a0 v1).2.1) a2.1) (imul .i64 (isub .i64 (el Z26 a0 v1).1 (el Z26 a0 (irem (iadd .i64 v1 (1:Int)) (len a0))).1) a2.2.1)))),(18,(.val T36 a0)),(19,(.val T2 (len a0))),(20,(.val T2 v1))],[(0,.cells T26 a1),(1,.cells T26 a2),(2,.cells T26 (v2,v3,())),(3,.cells T26 (v4,v5,()))]⟩
noncomputable def ray_line.c4q (a0:(List V26)) (a1 a2:V26) (v1 v2 v3 v4 v5:Int) (o:Bool):SL:=(fun v=>⟨[(0,(.val T36 a0)),(4,(.val .ptr ⟨0,0,(0:Int),0,0⟩)),(5,(.val .ptr ⟨1,0,(0:Int),0,0⟩)),(8,(.val .ptr ⟨2,0,(0:Int),0,0⟩)),(9,(.val .ptr ⟨3,0,(0:Int),0,0⟩)),(14,(.val T2 (iadd .i64 (imul .i64 (isub .i64 (el Z26 a0 (irem (iadd .i64 v1 (1:Int)) (len a0))).2.1 (el Z26 a0 v1).2.1) (isub .i64 (el Z26 a0 v1).1 a1.1)) (imul .i64 (isub .i64 (el Z26 a0 v1).1 (el Z26 a0 (irem (iadd .i64 v1 (1:Int)) (len a0))).1) (isub .i64 (el Z26 a0 v1).2.1 a1.2.1))))),(15,(.val T2 (iadd .i64 (imul .i64 (isub .i64 (el Z26 a0 (irem (iadd .i64 v1 (1:Int)) (len a0))).2.1 (el Z26 a0 v1).2.1) a2.1) (imul .i64 (isub .i64 (el Z26 a0 v1).1 (el Z26 a0 (irem (iadd .i64 v1 (1:Int)) (len a0))).1) a2.2.1)))),(18,(.val T36 a0)),(19,(.val T2 (len a0))),(20,(.val T2 v1)),(93,(.val T4 v))],[(0,.cells T26 a1),(1,.cells T26 a2),(2,.cells T26 (v2,v3,())),(3,.cells T26 (v4,v5,()))]⟩) o
noncomputable def ray_line.c4x (o:Bool):Ex:=(fun _=>.normal) o
noncomputable def ray_line.c4n (o:Bool):Nat:=(fun _=>4) o
theorem ray_line.c4_ok (k:Nat) (a0:(List V26)) (a1 a2:V26) (v1 v2 v3 v4 v5:Int):Owp (ray_line.c4 k a0 a1 a2 v1 v2 v3) fun o=>Triple PR (ray_line.cx k) (sub ray_line.code [1,1,0,1,0,0,1,1,0,0,1,1,1,1,0,1,1,1,1,0]) 4 (ray_line.c4p a0 a1 a2 v1 v2 v3 v4 v5) (ray_line.c4x o) (ray_line.c4n o) (ray_line.c4q a0 a1 a2 v1 v2 v3 v4 v5 o):=by
 unfold ray_line.c4; exact
  oF (fun e20 =>
  oB fun y21 e22 =>
  oS (tW (ray_line.cok k) hmix [tT,tT,tT,tT,tT,tT,tT,rS T2 y21,tT,tT] [] [(0,0),(1,1),(2,2),(3,3)] (via (finP (aI (aI (aI (aI (aI (aI (aI (aI (aI tv0 e20) e20) e20) e20) e20) e20) (aI e20 e22)) e20) e20) .normal [(0,0),(1,1),(2,2),(3,3)] (ray_line.c4q a0 a1 a2 v1 v2 v3 v4 v5 (igt y21 (0:Int)))) (by kernel_rfl)))) (fun e20 =>
  oS (tW (ray_line.cok k) hmix [fF,fF,fF,fF,fF,fF,fF,tT,fF,fF] [] [(0,0),(1,1),(2,2),(3,3)] (via (finP (aI (aI (aI (aI (aI (aI (aI (aI (aI tv0 e20) e20) e20) e20) e20) e20) e20) e20) e20) .normal [(0,0),(1,1),(2,2),(3,3)] (ray_line.c4q a0 a1 a2 v1 v2 v3 v4 v5 false)) (by kernel_rfl))))
noncomputable def ray_line.c1p (a0:(List V26)) (a1 a2:V26) (v1 v2 v3 v4 v5:Int):SL:=⟨[(0,(.val T36 a0)),(4,(.val .ptr ⟨0,0,(0:Int),0,0⟩)),(5,(.val .ptr ⟨1,0,(0:Int),0,0⟩)),(8,(.val .ptr ⟨2,0,(0:Int),0,0⟩)),(9,(.val .ptr ⟨3,0,(0:Int),0,0⟩)),(18,(.val T36 a0)),(19,(.val T2 (len a0))),(20,(.val T2 v1))],[(0,.cells T26 a1),(1,.cells T26 a2),(2,.cells T26 (v2,v3,())),(3,.cells T26 (v4,v5,()))]⟩
noncomputable def ray_line.c1q (o:Unit ⊕ (Int × (Int × (Int × Int)))):SL:=(fun o=>two o (fun v=>⟨[(6,(.val T2 (0:Int))),(7,(.val T4 false))],[]⟩) (fun v=>⟨[(8,(.val .ptr ⟨0,0,(0:Int),0,0⟩)),(9,(.val .ptr ⟨1,0,(0:Int),0,0⟩))],[(0,.cells T26 (v.1,v.2.1,())),(1,.cells T26 (v.2.2.1,v.2.2.2,()))]⟩)) o
noncomputable def ray_line.c1x (o:Unit ⊕ (Int × (Int × (Int × Int)))):Ex:=(fun o=>two o (fun _=>.ret) (fun _=>(.exit 0))) o
noncomputable def ray_line.c1n (o:Unit ⊕ (Int × (Int × (Int × Int)))):Nat:=(fun o=>two o (fun _=>0) (fun _=>2)) o
theorem ray_line.c1_ok (k:Nat) (a0:(List V26)) (a1 a2:V26):∀ (n:Nat) (v1 v2 v3 v4 v5:Int),Owp (ray_line.c1 k a0 a1 a2 n v1 v2 v3 v4 v5) fun o=>LTriple PR (ray_line.cx k) (sub ray_line.code [1,1,0,1,0,0]) 4 (ray_line.c1p a0 a1 a2 v1 v2 v3 v4 v5) (ray_line.c1x o) (ray_line.c1n o) (ray_line.c1q o)
 | 0,_,_,_,_,_=>fun _ h=>nomatch h
 | n+1,v1,v2,v3,v4,v5=>Owp.of (ray_line.c1.eq_2 ..) (
  oF (fun e6 =>
  oR fun h7 =>
  oR fun h8 =>
  oR fun h9 =>
  oB fun o11 e12 =>
  oF (fun e13 =>
  oS (loop_exit (ray_line.cok k) hmix [tT,.cutR 8 ⟨[],[(0,0),(1,1),(2,2),(3,3)],(ray_line.c2p a0 a1 a2 v1 v2 v3 v4 v5),4,.normal,(ray_line.c2q a0 a1 a2 v1 v2 v3 v4 v5 o11),4⟩,tT] [] [] exne_ret (via (cutP (aI (aI (aI (aI tv0 e6) h7) h8) h9) [(0,0),(1,1),(2,2),(3,3)] (ray_line.c2p a0 a1 a2 v1 v2 v3 v4 v5) (((ray_line.c2_ok k a0 a1 a2 v1 v2 v3 v4 v5).ap e12)) (finP (aI tv0 e13) .ret [] (ray_line.c1q (.inl ())))) (by kernel_rfl)))) (fun e13 =>
  oB fun o17 e18 =>
  oF (fun e19 =>
  fun y hy=>loop_back (ray_line.cok k) hmix 4 (ray_line.c1p a0 a1 a2 (iadd .i64 v1 (1:Int)) v2 v3 (iadd .i64 (imul .i64 (isub .i64 (el Z26 a0 (irem (iadd .i64 v1 (1:Int)) (len a0))).2.1 (el Z26 a0 v1).2.1) (isub .i64 (el Z26 a0 v1).1 a1.1)) (imul .i64 (isub .i64 (el Z26 a0 v1).1 (el Z26 a0 (irem (iadd .i64 v1 (1:Int)) (len a0))).1) (isub .i64 (el Z26 a0 v1).2.1 a1.2.1))) (iadd .i64 (imul .i64 (isub .i64 (el Z26 a0 (irem (iadd .i64 v1 (1:Int)) (len a0))).2.1 (el Z26 a0 v1).2.1) a2.1) (imul .i64 (isub .i64 (el Z26 a0 v1).1 (el Z26 a0 (irem (iadd .i64 v1 (1:Int)) (len a0))).1) a2.2.1))) [tT,.cutR 8 ⟨[],[(0,0),(1,1),(2,2),(3,3)],(ray_line.c2p a0 a1 a2 v1 v2 v3 v4 v5),4,.normal,(ray_line.c2q a0 a1 a2 v1 v2 v3 v4 v5 o11),4⟩,fF,.cutR 10 ⟨[],[(0,0),(1,1),(2,2),(3,3)],(ray_line.c3p a0 a1 a2 v1 v2 v3 v4 v5),4,.normal,(ray_line.c3q a0 a1 a2 v1 v2 v3 v4 v5 o17),4⟩,tT] [] [(0,0),(1,1),(2,2),(3,3)] (via (cutP (aI (aI (aI (aI tv0 e6) h7) h8) h9) [(0,0),(1,1),(2,2),(3,3)] (ray_line.c2p a0 a1 a2 v1 v2 v3 v4 v5) (((ray_line.c2_ok k a0 a1 a2 v1 v2 v3 v4 v5).ap e12)) (cutP (aI tv0 e13) [(0,0),(1,1),(2,2),(3,3)] (ray_line.c3p a0 a1 a2 v1 v2 v3 v4 v5) (((ray_line.c3_ok k a0 a1 a2 v1 v2 v3 v4 v5).ap e18)) (finP (aI tv0 e19) .normal [(0,0),(1,1),(2,2),(3,3)] (ray_line.c1p a0 a1 a2 (iadd .i64 v1 (1:Int)) v2 v3 (iadd .i64 (imul .i64 (isub .i64 (el Z26 a0 (irem (iadd .i64 v1 (1:Int)) (len a0))).2.1 (el Z26 a0 v1).2.1) (isub .i64 (el Z26 a0 v1).1 a1.1)) (imul .i64 (isub .i64 (el Z26 a0 v1).1 (el Z26 a0 (irem (iadd .i64 v1 (1:Int)) (len a0))).1) (isub .i64 (el Z26 a0 v1).2.1 a1.2.1))) (iadd .i64 (imul .i64 (isub .i64 (el Z26 a0 (irem (iadd .i64 v1 (1:Int)) (len a0))).2.1 (el Z26 a0 v1).2.1) a2.1) (imul .i64 (isub .i64 (el Z26 a0 v1).1 (el Z26 a0 (irem (iadd .i64 v1 (1:Int)) (len a0))).1) a2.2.1)))))) (by kernel_rfl)) ((ray_line.c1_ok k a0 a1 a2 n (iadd .i64 v1 (1:Int)) v2 v3 (iadd .i64 (imul .i64 (isub .i64 (el Z26 a0 (irem (iadd .i64 v1 (1:Int)) (len a0))).2.1 (el Z26 a0 v1).2.1) (isub .i64 (el Z26 a0 v1).1 a1.1)) (imul .i64 (isub .i64 (el Z26 a0 v1).1 (el Z26 a0 (irem (iadd .i64 v1 (1:Int)) (len a0))).1) (isub .i64 (el Z26 a0 v1).2.1 a1.2.1))) (iadd .i64 (imul .i64 (isub .i64 (el Z26 a0 (irem (iadd .i64 v1 (1:Int)) (len a0))).2.1 (el Z26 a0 v1).2.1) a2.1) (imul .i64 (isub .i64 (el Z26 a0 v1).1 (el Z26 a0 (irem (iadd .i64 v1 (1:Int)) (len a0))).1) a2.2.1))).ap hy)) (fun e19 =>
  oB fun o23 e24 =>
  oF (fun e25 =>
  fun y hy=>loop_back (ray_line.cok k) hmix 4 (ray_line.c1p a0 a1 a2 (iadd .i64 v1 (1:Int)) (ineg .i64 (iadd .i64 (imul .i64 (isub .i64 (el Z26 a0 (irem (iadd .i64 v1 (1:Int)) (len a0))).2.1 (el Z26 a0 v1).2.1) (isub .i64 (el Z26 a0 v1).1 a1.1)) (imul .i64 (isub .i64 (el Z26 a0 v1).1 (el Z26 a0 (irem (iadd .i64 v1 (1:Int)) (len a0))).1) (isub .i64 (el Z26 a0 v1).2.1 a1.2.1)))) (ineg .i64 (iadd .i64 (imul .i64 (isub .i64 (el Z26 a0 (irem (iadd .i64 v1 (1:Int)) (len a0))).2.1 (el Z26 a0 v1).2.1) a2.1) (imul .i64 (isub .i64 (el Z26 a0 v1).1 (el Z26 a0 (irem (iadd .i64 v1 (1:Int)) (len a0))).1) a2.2.1))) v4 v5) [tT,.cutR 8 ⟨[],[(0,0),(1,1),(2,2),(3,3)],(ray_line.c2p a0 a1 a2 v1 v2 v3 v4 v5),4,.normal,(ray_line.c2q a0 a1 a2 v1 v2 v3 v4 v5 o11),4⟩,fF,.cutR 10 ⟨[],[(0,0),(1,1),(2,2),(3,3)],(ray_line.c3p a0 a1 a2 v1 v2 v3 v4 v5),4,.normal,(ray_line.c3q a0 a1 a2 v1 v2 v3 v4 v5 o17),4⟩,fF,.cutR 12 ⟨[],[(0,0),(1,1),(2,2),(3,3)],(ray_line.c4p a0 a1 a2 v1 v2 v3 v4 v5),4,.normal,(ray_line.c4q a0 a1 a2 v1 v2 v3 v4 v5 o23),4⟩,tT] [] [(0,0),(1,1),(2,2),(3,3)] (via (cutP (aI (aI (aI (aI tv0 e6) h7) h8) h9) [(0,0),(1,1),(2,2),(3,3)] (ray_line.c2p a0 a1 a2 v1 v2 v3 v4 v5) (((ray_line.c2_ok k a0 a1 a2 v1 v2 v3 v4 v5).ap e12)) (cutP (aI tv0 e13) [(0,0),(1,1),(2,2),(3,3)] (ray_line.c3p a0 a1 a2 v1 v2 v3 v4 v5) (((ray_line.c3_ok k a0 a1 a2 v1 v2 v3 v4 v5).ap e18)) (cutP (aI tv0 e19) [(0,0),(1,1),(2,2),(3,3)] (ray_line.c4p a0 a1 a2 v1 v2 v3 v4 v5) (((ray_line.c4_ok k a0 a1 a2 v1 v2 v3 v4 v5).ap e24)) (finP (aI tv0 e25) .normal [(0,0),(1,1),(2,2),(3,3)] (ray_line.c1p a0 a1 a2 (iadd .i64 v1 (1:Int)) (ineg .i64 (iadd .i64 (imul .i64 (isub .i64 (el Z26 a0 (irem (iadd .i64 v1 (1:Int)) (len a0))).2.1 (el Z26 a0 v1).2.1) (isub .i64 (el Z26 a0 v1).1 a1.1)) (imul .i64 (isub .i64 (el Z26 a0 v1).1 (el Z26 a0 (irem (iadd .i64 v1 (1:Int)) (len a0))).1) (isub .i64 (el Z26 a0 v1).2.1 a1.2.1)))) (ineg .i64 (iadd .i64 (imul .i64 (isub .i64 (el Z26 a0 (irem (iadd .i64 v1 (1:Int)) (len a0))).2.1 (el Z26 a0 v1).2.1) a2.1) (imul .i64 (isub .i64 (el Z26 a0 v1).1 (el Z26 a0 (irem (iadd .i64 v1 (1:Int)) (len a0))).1) a2.2.1))) v4 v5))))) (by kernel_rfl)) ((ray_line.c1_ok k a0 a1 a2 n (iadd .i64 v1 (1:Int)) (ineg .i64 (iadd .i64 (imul .i64 (isub .i64 (el Z26 a0 (irem (iadd .i64 v1 (1:Int)) (len a0))).2.1 (el Z26 a0 v1).2.1) (isub .i64 (el Z26 a0 v1).1 a1.1)) (imul .i64 (isub .i64 (el Z26 a0 v1).1 (el Z26 a0 (irem (iadd .i64 v1 (1:Int)) (len a0))).1) (isub .i64 (el Z26 a0 v1).2.1 a1.2.1)))) (ineg .i64 (iadd .i64 (imul .i64 (isub .i64 (el Z26 a0 (irem (iadd .i64 v1 (1:Int)) (len a0))).2.1 (el Z26 a0 v1).2.1) a2.1) (imul .i64 (isub .i64 (el Z26 a0 v1).1 (el Z26 a0 (irem (iadd .i64 v1 (1:Int)) (len a0))).1) a2.2.1))) v4 v5).ap hy)) (fun e25 =>
  fun y hy=>loop_back (ray_line.cok k) hmix 4 (ray_line.c1p a0 a1 a2 (iadd .i64 v1 (1:Int)) v2 v3 v4 v5) [tT,.cutR 8 ⟨[],[(0,0),(1,1),(2,2),(3,3)],(ray_line.c2p a0 a1 a2 v1 v2 v3 v4 v5),4,.normal,(ray_line.c2q a0 a1 a2 v1 v2 v3 v4 v5 o11),4⟩,fF,.cutR 10 ⟨[],[(0,0),(1,1),(2,2),(3,3)],(ray_line.c3p a0 a1 a2 v1 v2 v3 v4 v5),4,.normal,(ray_line.c3q a0 a1 a2 v1 v2 v3 v4 v5 o17),4⟩,fF,.cutR 12 ⟨[],[(0,0),(1,1),(2,2),(3,3)],(ray_line.c4p a0 a1 a2 v1 v2 v3 v4 v5),4,.normal,(ray_line.c4q a0 a1 a2 v1 v2 v3 v4 v5 o23),4⟩,fF] [] [(0,0),(1,1),(2,2),(3,3)] (via (cutP (aI (aI (aI (aI tv0 e6) h7) h8) h9) [(0,0),(1,1),(2,2),(3,3)] (ray_line.c2p a0 a1 a2 v1 v2 v3 v4 v5) (((ray_line.c2_ok k a0 a1 a2 v1 v2 v3 v4 v5).ap e12)) (cutP (aI tv0 e13) [(0,0),(1,1),(2,2),(3,3)] (ray_line.c3p a0 a1 a2 v1 v2 v3 v4 v5) (((ray_line.c3_ok k a0 a1 a2 v1 v2 v3 v4 v5).ap e18)) (cutP (aI tv0 e19) [(0,0),(1,1),(2,2),(3,3)] (ray_line.c4p a0 a1 a2 v1 v2 v3 v4 v5) (((ray_line.c4_ok k a0 a1 a2 v1 v2 v3 v4 v5).ap e24)) (finP (aI tv0 e25) .normal [(0,0),(1,1),(2,2),(3,3)] (ray_line.c1p a0 a1 a2 (iadd .i64 v1 (1:Int)) v2 v3 v4 v5))))) (by kernel_rfl)) ((ray_line.c1_ok k a0 a1 a2 n (iadd .i64 v1 (1:Int)) v2 v3 v4 v5).ap hy))))) (fun e6 =>
  oS (loop_exit (ray_line.cok k) hmix [fF] [] [(0,2),(1,3)] (exne 0) (via (finP (aI tv0 e6) (.exit 0) [(0,2),(1,3)] (ray_line.c1q (.inr (v2,v3,v4,v5)))) (by kernel_rfl)))))
theorem ray_line.way (k:Nat) (a0:(List V26)) (a1 a2:V26):Owp (ray_line k a0 a1 a2) fun y=>∃ w c0,exec PR (ray_line.cx k) ray_line.code 0 (entry (.pair T36 T133) (a0,a1,a2,())).st w (Ret (ray_line.cx k) Tryz.f17 c0 (.more (.dp T2) (.one (.dp T4))) y):=by
 unfold ray_line; exact
  oB fun o26 e27 =>
  Owp.two (fun y28 e29 =>
  oS (⟨[.cut ⟨[],[(0,0),(1,1),(2,6),(3,7)],(ray_line.c1p a0 a1 a2 (0:Int) (0:Int) (1:Int) (1:Int) (1:Int)),4,.ret,(ray_line.c1q (.inl ())),0⟩],[],via (cutP tv0 [(0,0),(1,1),(2,6),(3,7)] (ray_line.c1p a0 a1 a2 (0:Int) (0:Int) (1:Int) (1:Int) (1:Int)) (((ray_line.c1_ok k a0 a1 a2 k (0:Int) (0:Int) (1:Int) (1:Int) (1:Int)).ap (e27.trans (congrArg some e29))).triple) (retP tv0 (.more (.dp T2) (.one (.dp T4))) (((0:Int),false):(Int × Bool)))) (by kernel_rfl)⟩)) (fun y30 e31 =>
  oB fun y32 e33 =>
  oF (fun e34 =>
  oS (⟨[.cut ⟨[],[(0,0),(1,1),(2,6),(3,7)],(ray_line.c1p a0 a1 a2 (0:Int) (0:Int) (1:Int) (1:Int) (1:Int)),4,(.exit 0),(ray_line.c1q (.inr y30)),2⟩,rS T2 y32,tT],[],via (cutP tv0 [(0,0),(1,1),(2,6),(3,7)] (ray_line.c1p a0 a1 a2 (0:Int) (0:Int) (1:Int) (1:Int) (1:Int)) (((ray_line.c1_ok k a0 a1 a2 k (0:Int) (0:Int) (1:Int) (1:Int) (1:Int)).ap (e27.trans (congrArg some e31))).triple) (retP (aI (aI tv0 e33) e34) (.more (.dp T2) (.one (.dp T4))) (((0:Int),false):(Int × Bool)))) (by kernel_rfl)⟩)) (fun e34 =>
  oB fun y35 e36 =>
  oS (⟨[.cut ⟨[],[(0,0),(1,1),(2,6),(3,7)],(ray_line.c1p a0 a1 a2 (0:Int) (0:Int) (1:Int) (1:Int) (1:Int)),4,(.exit 0),(ray_line.c1q (.inr y30)),2⟩,rS T2 y32,fF,rS T2 y35],[],via (cutP tv0 [(0,0),(1,1),(2,6),(3,7)] (ray_line.c1p a0 a1 a2 (0:Int) (0:Int) (1:Int) (1:Int) (1:Int)) (((ray_line.c1_ok k a0 a1 a2 k (0:Int) (0:Int) (1:Int) (1:Int) (1:Int)).ap (e27.trans (congrArg some e31))).triple) (retP (aI (aI (aI tv0 e33) e34) e36) (.more (.dp T2) (.one (.dp T4))) ((y35,true):(Int × Bool)))) (by kernel_rfl)⟩)))
theorem ray_line.ok (k:Nat):FnOk PR 17 (ray_line.sp k) :=
 fn_ok (ray_line.cok k) hmix Tryz.func17 (code:=ray_line.code) (by kernel_rfl) (by kernel_rfl) (by kernel_rfl) rfl rfl (by kernel_rfl) (by kernel_rfl) (by kernel_rfl) (fun x=>Nat.le_of_ble_eq_true (by kernel_rfl)) fun x y hy=>(ray_line.way k x.1 x.2.1 x.2.2.1).ap hy
noncomputable def ray_Cast_1.code:Code:=Func.cd Tryz.f16
noncomputable def ray_Cast_1 (k:Nat) (a0:(List V26)) (a1 a2:V26):Option (Int × Bool) :=
 bnd (ray_line k a0 a1 a2) fun y1 =>
 some (y1.1,y1.2)
noncomputable def ray_Cast_1.sp (k:Nat):Go.Sx.Spec:=⟨(.pair T36 (.pair (.ref T26) (.pair (.ref T26) .unit))),(.more (.dp T2) (.one (.dp T4))),fun x=>ray_Cast_1 k x.1 x.2.1 x.2.2.1,false⟩
noncomputable def ray_Cast_1.cx (k:Nat):Go.Sx.Ctx:=⟨tys,[(17,ray_line.sp k)],eqs,12,0,[],false⟩
theorem ray_Cast_1.cok (k:Nat):CtxOk PR (ray_Cast_1.cx k):=ctx_ok tysOk eqsOk (fC (ray_line.ok k) FnsOk.nil) HsOk.nil
theorem ray_Cast_1.way (k:Nat) (a0:(List V26)) (a1 a2:V26):Owp (ray_Cast_1 k a0 a1 a2) fun y=>∃ w c0,exec PR (ray_Cast_1.cx k) ray_Cast_1.code 0 (entry (.pair T36 (.pair (.ref T26) (.pair (.ref T26) .unit))) (a0,a1,a2,())).st w (Ret (ray_Cast_1.cx k) Tryz.f16 c0 (.more (.dp T2) (.one (.dp T4))) y):=by
 unfold ray_Cast_1; exact
  oB fun y1 e2 =>
  oS (⟨[.res (.more (.dp T2) (.one (.dp T4))) y1],[],via (retP (aI tv0 e2) (.more (.dp T2) (.one (.dp T4))) ((y1.1,y1.2):(Int × Bool))) (by kernel_rfl)⟩)
theorem ray_Cast_1.ok (k:Nat):FnOk PR 16 (ray_Cast_1.sp k) :=
 fn_ok (ray_Cast_1.cok k) hmix Tryz.func16 (code:=ray_Cast_1.code) (by kernel_rfl) (by kernel_rfl) (by kernel_rfl) rfl rfl (by kernel_rfl) (by kernel_rfl) (by kernel_rfl) (fun x=>Nat.le_of_ble_eq_true (by kernel_rfl)) fun x y hy=>(ray_Cast_1.way k x.1 x.2.1 x.2.2.1).ap hy
noncomputable def ray_Cast.code:Code:=Func.cd Tryz.f7
noncomputable def ray_Cast.c1 (k:Nat) (a1 a2:V26):Option (Bool) :=
 bnd (ray_within k a1) fun y4 =>
 bif' y4
 (bnd (ray_within k a2) fun y7 =>
  some (!y7))
 (some true)
noncomputable def ray_Cast (k:Nat) (a0:(List V45)) (a1 a2:V26):Option (Int × (Int × Int)) :=
 bnd (keep_Check k a0) fun y1 =>
 bif' (ine y1 0)
 (some (0,0,y1))
 (bnd (ray_Cast.c1 k a1 a2) fun o9 =>
  bif' o9
  (some (0,0,1))
  (bnd (ray_first k a0 (fun x:((List V26) × Unit)=>ray_Cast_1 k (x.1) a1 a2)) fun y12 =>
  some (y12.1,y12.2.1,y12.2.2)))
noncomputable def ray_Cast.sp (k:Nat):Go.Sx.Spec:=⟨(.pair (.slice T45) T133),(.more (.dp T2) (.more (.dp T2) (.one (.dp T2)))),fun x=>ray_Cast k x.1 x.2.1 x.2.2.1,false⟩
noncomputable def ray_Cast.cx (k:Nat):Go.Sx.Ctx:=⟨tys,[(13,keep_Check.sp k),(14,ray_within.sp k),(15,ray_first.sp k),(16,ray_Cast_1.sp k)],eqs,29,0,[],false⟩
theorem ray_Cast.cok (k:Nat):CtxOk PR (ray_Cast.cx k):=ctx_ok tysOk eqsOk (fC (keep_Check.ok k) (fC (ray_within.ok k) (fC (ray_first.ok k) (fC (ray_Cast_1.ok k) FnsOk.nil)))) HsOk.nil
noncomputable def ray_Cast.c1p (a0:(List V45)) (a1 a2:V26):SL:=⟨[(0,(.val (.slice T45) a0)),(4,(.val .ptr ⟨0,0,(0:Int),0,0⟩)),(5,(.val .ptr ⟨1,0,(0:Int),0,0⟩))],[(0,.cells T26 a1),(1,.cells T26 a2)]⟩
noncomputable def ray_Cast.c1q (a0:(List V45)) (a1 a2:V26) (o:Bool):SL:=(fun v=>⟨[(0,(.val (.slice T45) a0)),(4,(.val .ptr ⟨0,0,(0:Int),0,0⟩)),(5,(.val .ptr ⟨1,0,(0:Int),0,0⟩)),(22,(.val T4 v))],[(0,.cells T26 a1),(1,.cells T26 a2)]⟩) o
noncomputable def ray_Cast.c1x (o:Bool):Ex:=(fun _=>.normal) o
noncomputable def ray_Cast.c1n (o:Bool):Nat:=(fun _=>2) o
theorem ray_Cast.c1_ok (k:Nat) (a0:(List V45)) (a1 a2:V26):Owp (ray_Cast.c1 k a1 a2) fun o=>Triple PR (ray_Cast.cx k) (sub ray_Cast.code [1,1,0,0]) 2 (ray_Cast.c1p a0 a1 a2) (ray_Cast.c1x o) (ray_Cast.c1n o) (ray_Cast.c1q a0 a1 a2 o):=by
 unfold ray_Cast.c1; exact
  oB fun y4 e5 =>
  oF (fun e6 =>
  oB fun y7 e8 =>
  oS (tW (ray_Cast.cok k) hmix [rS T4 y4,fF,fF,rS T4 y7,fF,fF] [] [(0,0),(1,1)] (via (finP (aI (aI (aI (aI (aI tv0 e5) (congrArg not e6)) (aI (congrArg not e6) e8)) (congrArg not e6)) (congrArg not e6)) .normal [(0,0),(1,1)] (ray_Cast.c1q a0 a1 a2 (!y7))) (by kernel_rfl)))) (fun e6 =>
  oS (tW (ray_Cast.cok k) hmix [rS T4 y4,tT,tT,tT,tT,tT] [] [(0,0),(1,1)] (via (finP (aI (aI (aI (aI (aI tv0 e5) (congrArg not e6)) (congrArg not e6)) (congrArg not e6)) (congrArg not e6)) .normal [(0,0),(1,1)] (ray_Cast.c1q a0 a1 a2 true)) (by kernel_rfl))))
theorem ray_Cast.way (k:Nat) (a0:(List V45)) (a1 a2:V26):Owp (ray_Cast k a0 a1 a2) fun y=>∃ w c0,exec PR (ray_Cast.cx k) ray_Cast.code 0 (entry (.pair (.slice T45) T133) (a0,a1,a2,())).st w (Ret (ray_Cast.cx k) Tryz.f7 c0 (.more (.dp T2) (.more (.dp T2) (.one (.dp T2)))) y):=by
 unfold ray_Cast; exact
  oB fun y1 e2 =>
  oF (fun e3 =>
  oS (⟨[rS T2 y1,tT],[],via (retP (aI (aI tv0 e2) e3) (.more (.dp T2) (.more (.dp T2) (.one (.dp T2)))) (((0:Int),(0:Int),y1):(Int × (Int × Int)))) (by kernel_rfl)⟩)) (fun e3 =>
  oB fun o9 e10 =>
  oF (fun e11 =>
  oS (⟨[rS T2 y1,fF,.cutR 4 ⟨[],[(0,0),(1,1)],(ray_Cast.c1p a0 a1 a2),2,.normal,(ray_Cast.c1q a0 a1 a2 o9),2⟩,tT],[],via (cutP (aI (aI tv0 e2) e3) [(0,0),(1,1)] (ray_Cast.c1p a0 a1 a2) (((ray_Cast.c1_ok k a0 a1 a2).ap e10)) (retP (aI tv0 e11) (.more (.dp T2) (.more (.dp T2) (.one (.dp T2)))) (((0:Int),(0:Int),(1:Int)):(Int × (Int × Int))))) (by kernel_rfl)⟩)) (fun e11 =>
  oB fun y12 e13 =>
  oS (⟨[rS T2 y1,fF,.cutR 4 ⟨[],[(0,0),(1,1)],(ray_Cast.c1p a0 a1 a2),2,.normal,(ray_Cast.c1q a0 a1 a2 o9),2⟩,fF,.res (.more (.dp T2) (.more (.dp T2) (.one (.dp T2)))) y12],[],via (cutP (aI (aI tv0 e2) e3) [(0,0),(1,1)] (ray_Cast.c1p a0 a1 a2) (((ray_Cast.c1_ok k a0 a1 a2).ap e10)) (retP (aI (aI tv0 e11) e13) (.more (.dp T2) (.more (.dp T2) (.one (.dp T2)))) ((y12.1,y12.2.1,y12.2.2):(Int × (Int × Int))))) (by kernel_rfl)⟩)))
theorem ray_Cast.ok (k:Nat):FnOk PR 7 (ray_Cast.sp k) :=
 fn_ok (ray_Cast.cok k) hmix Tryz.func7 (code:=ray_Cast.code) (by kernel_rfl) (by kernel_rfl) (by kernel_rfl) rfl rfl (by kernel_rfl) (by kernel_rfl) (by kernel_rfl) (fun x=>Nat.le_of_ble_eq_true (by kernel_rfl)) fun x y hy=>(ray_Cast.way k x.1 x.2.1 x.2.2.1).ap hy
noncomputable def ray_Shape_1.code:Code:=Func.cd Tryz.f19
noncomputable def ray_Shape_1 (k:Nat) (a0 a1:(List V26)) (a2:V26):Option (Int × Bool) :=
 bnd (near_Minus k a0 a1) fun y1 =>
 bnd (ray_line k y1.1 (0,0,()) a2) fun y3 =>
 some (y3.1,y3.2)
noncomputable def ray_Shape_1.sp (k:Nat):Go.Sx.Spec:=⟨(.pair T36 (.pair (.ref T36) (.pair (.ref T26) .unit))),(.more (.dp T2) (.one (.dp T4))),fun x=>ray_Shape_1 k x.1 x.2.1 x.2.2.1,false⟩
noncomputable def ray_Shape_1.cx (k:Nat):Go.Sx.Ctx:=⟨tys,[(20,near_Minus.sp k),(17,ray_line.sp k)],eqs,20,0,[],false⟩
theorem ray_Shape_1.cok (k:Nat):CtxOk PR (ray_Shape_1.cx k):=ctx_ok tysOk eqsOk (fC (near_Minus.ok k) (fC (ray_line.ok k) FnsOk.nil)) HsOk.nil
theorem ray_Shape_1.way (k:Nat) (a0 a1:(List V26)) (a2:V26):Owp (ray_Shape_1 k a0 a1 a2) fun y=>∃ w c0,exec PR (ray_Shape_1.cx k) ray_Shape_1.code 0 (entry (.pair T36 (.pair (.ref T36) (.pair (.ref T26) .unit))) (a0,a1,a2,())).st w (Ret (ray_Shape_1.cx k) Tryz.f19 c0 (.more (.dp T2) (.one (.dp T4))) y):=by
 unfold ray_Shape_1; exact
  oB fun y1 e2 =>
  oB fun y3 e4 =>
  oS (⟨[.res (.more (.ow T26 27) (.one (.dp T2))) y1,.res (.more (.dp T2) (.one (.dp T4))) y3],[],via (retP (aI (aI tv0 e2) e4) (.more (.dp T2) (.one (.dp T4))) ((y3.1,y3.2):(Int × Bool))) (by kernel_rfl)⟩)
theorem ray_Shape_1.ok (k:Nat):FnOk PR 19 (ray_Shape_1.sp k) :=
 fn_ok (ray_Shape_1.cok k) hmix Tryz.func19 (code:=ray_Shape_1.code) (by kernel_rfl) (by kernel_rfl) (by kernel_rfl) rfl rfl (by kernel_rfl) (by kernel_rfl) (by kernel_rfl) (fun x=>Nat.le_of_ble_eq_true (by kernel_rfl)) fun x y hy=>(ray_Shape_1.way k x.1 x.2.1 x.2.2.1).ap hy
noncomputable def ray_Shape.code:Code:=Func.cd Tryz.f8
noncomputable def ray_Shape (k:Nat) (a0:(List V45)) (a1:(List V26)) (a2:V26):Option (Int × (Int × Int)) :=
 bnd (keep_Check k a0) fun y1 =>
 bif' (ine y1 0)
 (some (0,0,y1))
 (bnd (poly_Check k a1) fun y4 =>
  bif' (ine y4 0)
  (some (0,0,y4))
  (bnd (ray_within k a2) fun y7 =>
  bif' y7
  (bnd (ray_first k a0 (fun x:((List V26) × Unit)=>ray_Shape_1 k (x.1) a1 a2)) fun y10 =>
  some (y10.1,y10.2.1,y10.2.2))
  (some (0,0,1))))
noncomputable def ray_Shape.sp (k:Nat):Go.Sx.Spec:=⟨(.pair (.slice T45) (.pair T36 (.pair T26 .unit))),(.more (.dp T2) (.more (.dp T2) (.one (.dp T2)))),fun x=>ray_Shape k x.1 x.2.1 x.2.2.1,false⟩
noncomputable def ray_Shape.cx (k:Nat):Go.Sx.Ctx:=⟨tys,[(13,keep_Check.sp k),(18,poly_Check.sp k),(14,ray_within.sp k),(15,ray_first.sp k),(19,ray_Shape_1.sp k)],eqs,30,0,[],false⟩
theorem ray_Shape.cok (k:Nat):CtxOk PR (ray_Shape.cx k):=ctx_ok tysOk eqsOk (fC (keep_Check.ok k) (fC (poly_Check.ok k) (fC (ray_within.ok k) (fC (ray_first.ok k) (fC (ray_Shape_1.ok k) FnsOk.nil))))) HsOk.nil
@[irreducible] noncomputable def ray_Shape.P (k:Nat) (a0:(List V45)) (a1:(List V26)) (a2:V26) (y:(Int × (Int × Int))) (w:List Ans) (c0:List Cmd):Prop:=exec PR (ray_Shape.cx k) ray_Shape.code 0 (entry (.pair (.slice T45) (.pair T36 (.pair T26 .unit))) (a0,a1,a2,())).st w (Ret (ray_Shape.cx k) Tryz.f8 c0 (.more (.dp T2) (.more (.dp T2) (.one (.dp T2)))) y)
theorem ray_Shape.way (k:Nat) (a0:(List V45)) (a1:(List V26)) (a2:V26):Owp (ray_Shape k a0 a1 a2) fun y=>∃ w c0,ray_Shape.P k a0 a1 a2 y w c0:=by
 unfold ray_Shape; exact
  oB fun y1 e2 =>
  oF (fun e3 =>
  oS (⟨[rS T2 y1,tT],[],via (retP (aI (aI tv0 e2) e3) (.more (.dp T2) (.more (.dp T2) (.one (.dp T2)))) (((0:Int),(0:Int),y1):(Int × (Int × Int)))) (by kernel_rfl)⟩)) (fun e3 =>
  oB fun y4 e5 =>
  oF (fun e6 =>
  oS (⟨[rS T2 y1,fF,rS T2 y4,tT],[],via (retP (aI (aI (aI (aI tv0 e2) e3) e5) e6) (.more (.dp T2) (.more (.dp T2) (.one (.dp T2)))) (((0:Int),(0:Int),y4):(Int × (Int × Int)))) (by kernel_rfl)⟩)) (fun e6 =>
  oB fun y7 e8 =>
  oF (fun e9 =>
  oB fun y10 e11 =>
  oS (⟨[rS T2 y1,fF,rS T2 y4,fF,rS T4 y7,fF,.res (.more (.dp T2) (.more (.dp T2) (.one (.dp T2)))) y10],[],via (retP (aI (aI (aI (aI (aI (aI (aI tv0 e2) e3) e5) e6) e8) (congrArg not e9)) e11) (.more (.dp T2) (.more (.dp T2) (.one (.dp T2)))) ((y10.1,y10.2.1,y10.2.2):(Int × (Int × Int)))) (by kernel_rfl)⟩)) (fun e9 =>
  oS (⟨[rS T2 y1,fF,rS T2 y4,fF,rS T4 y7,tT],[],via (retP (aI (aI (aI (aI (aI (aI tv0 e2) e3) e5) e6) e8) (congrArg not e9)) (.more (.dp T2) (.more (.dp T2) (.one (.dp T2)))) (((0:Int),(0:Int),(1:Int)):(Int × (Int × Int)))) (by kernel_rfl)⟩))))
theorem ray_Shape.ok (k:Nat):FnOk PR 8 (ray_Shape.sp k) :=
 fn_ok (ray_Shape.cok k) hmix Tryz.func8 (code:=ray_Shape.code) (by kernel_rfl) (by kernel_rfl) (by kernel_rfl) rfl rfl (by kernel_rfl) (by kernel_rfl) (by kernel_rfl) (fun x=>Nat.le_of_ble_eq_true (by kernel_rfl)) fun x y hy=>match (ray_Shape.way k x.1 x.2.1 x.2.2.1).ap hy with | ⟨ans,c0,h⟩=>⟨ans,c0,via h (by kernel_rfl)⟩
end Go.Proofs.T1
