import Derived.Test.YthpbadopmihmpaaGreatG0
import Derived.Test.YthpbadopmihmpaaGreatG1
import Derived.Test.YthpbadopmihmpaaGreatG2
import Derived.Test.YthpbadopmihmpaaGreatG6
import Derived.Test.YthpbadopmihmpaaGreatG7
import Derived.Test.YthpbadopmihmpaaGreatG8
import Derived.Test.YthpbadopmihmpaaGreatG12
import Derived.Test.YthpbadopmihmpaaGreatG13
namespace Go.Proofs.T1
open Go Go.Sx Go.Proofs
set_option maxRecDepth 100000
set_option linter.unusedVariables false
noncomputable def bits_Mul.code:Code:=Func.cd Tryz.f128
noncomputable def bits_Mul (k:Nat) (a0 a1:Int):Option (Int × Int) :=
 bnd (bits_Mul64 k a0 a1) fun y1 =>
 some (y1.1,y1.2)
noncomputable def bits_Mul.sp (k:Nat):Go.Sx.Spec:=⟨(.pair T12 (.pair T12 .unit)),(.more (.dp T12) (.one (.dp T12))),fun x=>bits_Mul k x.1 x.2.1,false⟩
noncomputable def bits_Mul.cx (k:Nat):Go.Sx.Ctx:=⟨tys,[(99,bits_Mul64.sp k)],eqs,30,0,[],false⟩
theorem bits_Mul.cok (k:Nat):CtxOk PR (bits_Mul.cx k):=ctx_ok tysOk eqsOk (fC (bits_Mul64.ok k) FnsOk.nil) HsOk.nil
theorem bits_Mul.way (k:Nat) (a0 a1:Int):Owp (bits_Mul k a0 a1) fun y=>∃ w c0,exec PR (bits_Mul.cx k) bits_Mul.code 0 (entry (.pair T12 (.pair T12 .unit)) (a0,a1,())).st w (Ret (bits_Mul.cx k) Tryz.f128 c0 (.more (.dp T12) (.one (.dp T12))) y):=by
 unfold bits_Mul; exact
  oB fun y1 e2 =>
  oS (⟨[fF,.res (.more (.dp T12) (.one (.dp T12))) y1],[],via (retP (aI (aI tv0 ff) e2) (.more (.dp T12) (.one (.dp T12))) ((y1.1,y1.2):(Int × Int))) (by kernel_rfl)⟩)
theorem bits_Mul.ok (k:Nat):FnOk PR 128 (bits_Mul.sp k) :=
 fn_ok (bits_Mul.cok k) hmix Tryz.func128 (code:=bits_Mul.code) (by kernel_rfl) (by kernel_rfl) (by kernel_rfl) rfl rfl (by kernel_rfl) (by kernel_rfl) (by kernel_rfl) (fun x=>Nat.le_of_ble_eq_true (by kernel_rfl)) fun x y hy=>(bits_Mul.way k x.1 x.2.1).ap hy
noncomputable def slices_Repeat.code:Code:=Func.cd Tryz.f77
noncomputable def slices_Repeat.c1 (k:Nat) (y2:(Int × Int)):Option (Bool) :=
 bif' (igt y2.1 0)
 (some true)
 (some (igt y2.2 9223372036854775807))
noncomputable def slices_Repeat.c2 (k:Nat) (a0:(List Int)) (y2:(Int × Int)):Nat→Option (Unit)
 | 0=>none
 | n+1 =>
  bif' (ilt ((Nat.min (List.length (a0:(List Int))) (List.length ((mk0 (0:Int) (icv .i64 y2.2)):(List Int))):Nat):Int) (len (List.take (List.length ((mk0 (0:Int) (icv .i64 y2.2)):(List Int))) (a0:(List Int))++List.drop (List.length (a0:(List Int))) ((mk0 (0:Int) (icv .i64 y2.2)):(List Int)))))
  (none)
  (some ())
noncomputable def slices_Repeat (k:Nat) (a0:(List Int)) (a1:Int):Option (List Int) :=
 bif' (ilt a1 0)
 (none)
 (bnd (bits_Mul k (icv .u64 (len a0)) (icv .u64 a1)) fun y2 =>
  bnd (slices_Repeat.c1 k y2) fun o5 =>
  bif' o5
  (none)
  (req (mkOk 8 (icv .i64 y2.2) (icv .i64 y2.2)) <|req (((mk0 (0:Int) (icv .i64 y2.2)):(List Int))≠[]∧(a0:(List Int))≠[]) <|bnd (slices_Repeat.c2 k a0 y2 k) fun o11 =>
  some (List.take (List.length ((mk0 (0:Int) (icv .i64 y2.2)):(List Int))) (a0:(List Int))++List.drop (List.length (a0:(List Int))) ((mk0 (0:Int) (icv .i64 y2.2)):(List Int)))))
noncomputable def slices_Repeat.sp (k:Nat):Go.Sx.Spec:=⟨(.pair T22 (.pair T2 .unit)),(.one (.ow T2 3)),fun x=>slices_Repeat k x.1 x.2.1,false⟩
noncomputable def slices_Repeat.cx (k:Nat):Go.Sx.Ctx:=⟨tys,[(128,bits_Mul.sp k)],eqs,48,0,[],false⟩
theorem slices_Repeat.cok (k:Nat):CtxOk PR (slices_Repeat.cx k):=ctx_ok tysOk eqsOk (fC (bits_Mul.ok k) FnsOk.nil) HsOk.nil
noncomputable def slices_Repeat.c1p (a0:(List Int)) (y2:(Int × Int)):SL:=⟨[(0,(.val T22 a0)),(5,(.val T12 y2.1)),(6,(.val T12 y2.2))],[]⟩
noncomputable def slices_Repeat.c1q (a0:(List Int)) (y2:(Int × Int)) (o:Bool):SL:=(fun v=>⟨[(0,(.val T22 a0)),(6,(.val T12 y2.2)),(26,(.val T4 v))],[]⟩) o
noncomputable def slices_Repeat.c1x (o:Bool):Ex:=(fun _=>.normal) o
noncomputable def slices_Repeat.c1n (o:Bool):Nat:=(fun _=>0) o
theorem slices_Repeat.c1_ok (k:Nat) (a0:(List Int)) (y2:(Int × Int)):Owp (slices_Repeat.c1 k y2) fun o=>Triple PR (slices_Repeat.cx k) (sub slices_Repeat.code [1,1,1,0,0]) 0 (slices_Repeat.c1p a0 y2) (slices_Repeat.c1x o) (slices_Repeat.c1n o) (slices_Repeat.c1q a0 y2 o):=by
 unfold slices_Repeat.c1; exact
  oF (fun e4 =>
  oS (tW (slices_Repeat.cok k) hmix [tT,tT,tT] [] [] (via (finP (aI (aI (aI tv0 e4) e4) e4) .normal [] (slices_Repeat.c1q a0 y2 true)) (by kernel_rfl)))) (fun e4 =>
  oS (tW (slices_Repeat.cok k) hmix [fF,fF,fF] [] [] (via (finP (aI (aI (aI tv0 e4) e4) e4) .normal [] (slices_Repeat.c1q a0 y2 (igt y2.2 (9223372036854775807:Int)))) (by kernel_rfl))))
noncomputable def slices_Repeat.c2p (a0:(List Int)) (y2:(Int × Int)):SL:=⟨[(7,(.val .own (0:Nat))),(8,(.val T2 ((Nat.min (List.length (a0:(List Int))) (List.length ((mk0 (0:Int) (icv .i64 y2.2)):(List Int))):Nat):Int)))],[(0,.row T2 (List.take (List.length ((mk0 (0:Int) (icv .i64 y2.2)):(List Int))) (a0:(List Int))++List.drop (List.length (a0:(List Int))) ((mk0 (0:Int) (icv .i64 y2.2)):(List Int))) 3)]⟩
noncomputable def slices_Repeat.c2q (a0:(List Int)) (y2:(Int × Int)) (o:Unit):SL:=(fun v=>⟨[(7,(.val .own (0:Nat)))],[(0,.row T2 (List.take (List.length ((mk0 (0:Int) (icv .i64 y2.2)):(List Int))) (a0:(List Int))++List.drop (List.length (a0:(List Int))) ((mk0 (0:Int) (icv .i64 y2.2)):(List Int))) 3)]⟩) o
noncomputable def slices_Repeat.c2x (o:Unit):Ex:=(fun _=>(.exit 0)) o
noncomputable def slices_Repeat.c2n (o:Unit):Nat:=(fun _=>1) o
theorem slices_Repeat.c2_ok (k:Nat) (a0:(List Int)) (y2:(Int × Int)):∀ (n:Nat),Owp (slices_Repeat.c2 k a0 y2 n) fun o=>LTriple PR (slices_Repeat.cx k) (sub slices_Repeat.code [1,1,1,1,1,1,0,0,0]) 1 (slices_Repeat.c2p a0 y2) (slices_Repeat.c2x o) (slices_Repeat.c2n o) (slices_Repeat.c2q a0 y2 o)
 | 0=>fun _ h=>nomatch h
 | n+1=>Owp.of (slices_Repeat.c2.eq_2 ..) (
  oF (fun e10 =>
  Owp.none) (fun e10 =>
  oS (loop_exit (slices_Repeat.cok k) hmix [fF] [] [(0,0)] (exne 0) (via (finP (aI tv0 e10) (.exit 0) [(0,0)] (slices_Repeat.c2q a0 y2 ())) (by kernel_rfl)))))
theorem slices_Repeat.way (k:Nat) (a0:(List Int)) (a1:Int):Owp (slices_Repeat k a0 a1) fun y=>∃ w c0,exec PR (slices_Repeat.cx k) slices_Repeat.code 0 (entry (.pair T22 (.pair T2 .unit)) (a0,a1,())).st w (Ret (slices_Repeat.cx k) Tryz.f77 c0 (.one (.ow T2 3)) y):=by
 unfold slices_Repeat; exact
  oF (fun e1 =>
  Owp.none) (fun e1 =>
  oB fun y2 e3 =>
  oB fun o5 e6 =>
  oF (fun e7 =>
  Owp.none) (fun e7 =>
  oR fun h8 =>
  oR fun h9 =>
  oB fun o11 e12 =>
  oS (⟨[fF,.res (.more (.dp T12) (.one (.dp T12))) y2,.cutR 4 ⟨[],[],(slices_Repeat.c1p a0 y2),0,.normal,(slices_Repeat.c1q a0 y2 o5),0⟩,fF,.cut ⟨[],[(0,2)],(slices_Repeat.c2p a0 y2),1,(.exit 0),(slices_Repeat.c2q a0 y2 ()),1⟩],[],via (cutP (aI (aI tv0 e1) e3) [] (slices_Repeat.c1p a0 y2) (((slices_Repeat.c1_ok k a0 y2).ap e6)) (cutP (aI (aI (aI tv0 e7) h8) h9) [(0,2)] (slices_Repeat.c2p a0 y2) (((slices_Repeat.c2_ok k a0 y2 k).ap e12).triple) (retP tv0 (.one (.ow T2 3)) ((List.take (List.length ((mk0 (0:Int) (icv .i64 y2.2)):(List Int))) (a0:(List Int))++List.drop (List.length (a0:(List Int))) ((mk0 (0:Int) (icv .i64 y2.2)):(List Int))):(List Int))))) (by kernel_rfl)⟩)))
theorem slices_Repeat.ok (k:Nat):FnOk PR 77 (slices_Repeat.sp k) :=
 fn_ok (slices_Repeat.cok k) hmix Tryz.func77 (code:=slices_Repeat.code) (by kernel_rfl) (by kernel_rfl) (by kernel_rfl) rfl rfl (by kernel_rfl) (by kernel_rfl) (by kernel_rfl) (fun x=>Nat.le_of_ble_eq_true (by kernel_rfl)) fun x y hy=>(slices_Repeat.way k x.1 x.2.1).ap hy
noncomputable def phys_parts.code:Code:=Func.cd Tryz.f45
noncomputable def phys_parts.c1 (k:Nat) (a0:(List V45)) (a1:Int):Nat→Int→(List V133)→(List Bool)→Option (((List V133) × (List Bool)))
 | 0,_,_,_=>none
 | n+1,v4,v5,v6 =>
  bif' (ilt v4 (len a0))
  (req (inL v4 a0) <|bnd (vec_Len k (el Z45 a0 v4).2.1) fun y9 =>
  bnd (fix_Mul k y9 a1) fun y11 =>
  req (inL v4 v6) <|bnd (body_Bounds k (el Z45 a0 v4)) fun y14 =>
  bnd (body_Move k (el Z45 a0 v4) a1) fun y16 =>
  bnd (body_Bounds k y16) fun y18 =>
  bnd (sweep_Join k y14 y18) fun y20 =>
  req (room 32 v5 [y20]) <|bnd (vec_Len k (el Z45 a0 v4).2.1) fun y23 =>
  bnd (fix_Mul k y23 a1) fun y25 =>
  req (inL v4 (v5++[y20])) <|bnd (vec_Sub k (el Z133 (v5++[y20]) v4).1 ((iadd .i64 (iquo .i64 y25 64) 65536),(iadd .i64 (iquo .i64 y25 64) 65536),())) fun y28 =>
  bnd (vec_Add k (el Z133 (v5++[y20]) v4).2.1 ((iadd .i64 (iquo .i64 y25 64) 65536),(iadd .i64 (iquo .i64 y25 64) 65536),())) fun y30 =>
  req (inL v4 (st (v5++[y20]) v4 (y28,(el Z133 (v5++[y20]) v4).2))) <|phys_parts.c1 k a0 a1 n (iadd .i64 v4 1) (st (st (v5++[y20]) v4 (y28,(el Z133 (v5++[y20]) v4).2)) v4 ((el Z133 (st (v5++[y20]) v4 (y28,(el Z133 (v5++[y20]) v4).2)) v4).1,y30,())) (st v6 v4 (igt y11 16384)))
  (some (v5,v6))
noncomputable def phys_parts.c3 (k:Nat) (o33:((List V133) × (List Bool))) (v37:Int) (y35:(List (List Int))):Option (Bool) :=
 req (inL (el 0 (el (List.replicate 2 0) y35 v37) 0) o33.2) <|bif' (el false o33.2 (el 0 (el (List.replicate 2 0) y35 v37) 0))
 (some false)
 (req (inL (el 0 (el (List.replicate 2 0) y35 v37) 1) o33.2) <|some (!(el false o33.2 (el 0 (el (List.replicate 2 0) y35 v37) 1))))
noncomputable def phys_parts.c2 (k:Nat) (a0:(List V45)) (o33:((List V133) × (List Bool))) (y35:(List (List Int))):Nat→Int→Option (Unit)
 | 0,_=>none
 | n+1,v37 =>
  bif' (ilt v37 (len y35))
  (req (inL v37 y35) <|bnd (phys_parts.c3 k o33 v37 y35) fun o43 =>
  bif' o43
  (phys_parts.c2 k a0 o33 y35 n (iadd .i64 v37 1))
  (req (inL (el 0 (el (List.replicate 2 0) y35 v37) 0) a0) <|req (inL (el 0 (el (List.replicate 2 0) y35 v37) 1) a0) <|none))
  (some ())
noncomputable def phys_parts (k:Nat) (a0:(List V45)) (a1:Int):Option (List Int) :=
 bnd (slices_Repeat k [65536] (len a0)) fun y1 =>
 req (mkOk 1 (len a0) (len a0)) <|bnd (phys_parts.c1 k a0 a1 k 0 [] (mk0 false (len a0))) fun o33 =>
 bnd (sweep_Pairs k o33.1) fun y35 =>
 bnd (phys_parts.c2 k a0 o33 y35 k 0) fun o48 =>
 some y1
noncomputable def phys_parts.sp (k:Nat):Go.Sx.Spec:=⟨(.pair (.slice T45) (.pair T2 .unit)),(.one (.ow T2 3)),fun x=>phys_parts k x.1 x.2.1,false⟩
noncomputable def phys_parts.cx (k:Nat):Go.Sx.Ctx:=⟨tys,[(77,slices_Repeat.sp k),(71,vec_Len.sp k),(47,fix_Mul.sp k),(79,body_Bounds.sp k),(46,body_Move.sp k),(78,sweep_Join.sp k),(68,vec_Sub.sp k),(10,vec_Add.sp k),(80,sweep_Pairs.sp k)],eqs,159,0,[],false⟩
theorem phys_parts.cok (k:Nat):CtxOk PR (phys_parts.cx k):=ctx_ok tysOk eqsOk (fC (slices_Repeat.ok k) (fC (vec_Len.ok k) (fC (fix_Mul.ok k) (fC (body_Bounds.ok k) (fC (body_Move.ok k) (fC (sweep_Join.ok k) (fC (vec_Sub.ok k) (fC (vec_Add.ok k) (fC (sweep_Pairs.ok k) FnsOk.nil))))))))) HsOk.nil
noncomputable def phys_parts.c1p (a0:(List V45)) (a1:Int) (y1:(List Int)) (v4:Int) (v5:(List V133)) (v6:(List Bool)):SL:=⟨[(0,(.val (.slice T45) a0)),(1,(.val T2 a1)),(5,(.val .own (0:Nat))),(6,(.val .own (1:Nat))),(7,(.val .own (2:Nat))),(25,(.val (.slice T45) a0)),(26,(.val T2 (len a0))),(27,(.val T2 v4))],[(0,.row T2 y1 3),(1,.row T133 v5 134),(2,.row T4 v6 4)]⟩
noncomputable def phys_parts.c1q (a0:(List V45)) (a1:Int) (y1:(List Int)) (o:((List V133) × (List Bool))):SL:=(fun v=>⟨[(0,(.val (.slice T45) a0)),(1,(.val T2 a1)),(5,(.val .own (0:Nat))),(6,(.val .own (1:Nat))),(7,(.val .own (2:Nat)))],[(0,.row T2 y1 3),(1,.row T133 v.1 134),(2,.row T4 v.2 4)]⟩) o
noncomputable def phys_parts.c1x (o:((List V133) × (List Bool))):Ex:=(fun _=>(.exit 0)) o
noncomputable def phys_parts.c1n (o:((List V133) × (List Bool))):Nat:=(fun _=>3) o
theorem phys_parts.c1_ok (k:Nat) (a0:(List V45)) (a1:Int) (y1:(List Int)):∀ (n:Nat) (v4:Int) (v5:(List V133)) (v6:(List Bool)),Owp (phys_parts.c1 k a0 a1 n v4 v5 v6) fun o=>LTriple PR (phys_parts.cx k) (sub phys_parts.code [1,1,1,1,0,1,0,0]) 3 (phys_parts.c1p a0 a1 y1 v4 v5 v6) (phys_parts.c1x o) (phys_parts.c1n o) (phys_parts.c1q a0 a1 y1 o)
 | 0,_,_,_=>fun _ h=>nomatch h
 | n+1,v4,v5,v6=>Owp.of (phys_parts.c1.eq_2 ..) (
  oF (fun e7 =>
  oR fun h8 =>
  oB fun y9 e10 =>
  oB fun y11 e12 =>
  oR fun h13 =>
  oB fun y14 e15 =>
  oB fun y16 e17 =>
  oB fun y18 e19 =>
  oB fun y20 e21 =>
  oR fun h22 =>
  oB fun y23 e24 =>
  oB fun y25 e26 =>
  oR fun h27 =>
  oB fun y28 e29 =>
  oB fun y30 e31 =>
  oR fun h32 =>
  fun y hy=>loop_back (phys_parts.cok k) hmix 3 (phys_parts.c1p a0 a1 y1 (iadd .i64 v4 (1:Int)) (st (st (v5++[y20]) v4 (y28,(el Z133 (v5++[y20]) v4).2)) v4 ((el Z133 (st (v5++[y20]) v4 (y28,(el Z133 (v5++[y20]) v4).2)) v4).1,y30,())) (st v6 v4 (igt y11 (16384:Int)))) [tT,rS T2 y9,rS T2 y11,rS T133 y14,rS T45 y16,rS T133 y18,rS T133 y20,tT,rS T2 y23,rS T2 y25,rS T26 y28,rS T26 y30] [] [(0,0),(1,29),(2,2)] (via (finP (aI (aI (aI (aI (aI (aI (aI (aI (aI (aI (aI (aI (aI (aI (aI (aI (aI (aI (aI (aI (aI (aI (aI (aI tv0 e7) h8) e10) e12) h13) h13) e15) e17) e19) e21) h22) e24) e26) (by decide:nz (64:Int))) h27) h27) e29) h27) h27) e31) h27) h27) h32) h32) .normal [(0,0),(1,29),(2,2)] (phys_parts.c1p a0 a1 y1 (iadd .i64 v4 (1:Int)) (st (st (v5++[y20]) v4 (y28,(el Z133 (v5++[y20]) v4).2)) v4 ((el Z133 (st (v5++[y20]) v4 (y28,(el Z133 (v5++[y20]) v4).2)) v4).1,y30,())) (st v6 v4 (igt y11 (16384:Int))))) (by kernel_rfl)) ((phys_parts.c1_ok k a0 a1 y1 n (iadd .i64 v4 (1:Int)) (st (st (v5++[y20]) v4 (y28,(el Z133 (v5++[y20]) v4).2)) v4 ((el Z133 (st (v5++[y20]) v4 (y28,(el Z133 (v5++[y20]) v4).2)) v4).1,y30,())) (st v6 v4 (igt y11 (16384:Int)))).ap hy)) (fun e7 =>
  oS (loop_exit (phys_parts.cok k) hmix [fF] [] [(0,0),(1,1),(2,2)] (exne 0) (via (finP (aI tv0 e7) (.exit 0) [(0,0),(1,1),(2,2)] (phys_parts.c1q a0 a1 y1 (v5,v6))) (by kernel_rfl)))))
noncomputable def phys_parts.c3p (a0:(List V45)) (a1:Int) (o33:((List V133) × (List Bool))) (v37:Int) (y1:(List Int)) (y35:(List (List Int))):SL:=⟨[(0,(.val (.slice T45) a0)),(1,(.val T2 a1)),(5,(.val .own (0:Nat))),(7,(.val .own (1:Nat))),(13,(.val T2 (el (0:Int) (el (List.replicate 2 (0:Int)) y35 v37) (0:Int)))),(14,(.val T2 (el (0:Int) (el (List.replicate 2 (0:Int)) y35 v37) (1:Int)))),(86,(.val .own (2:Nat))),(87,(.val T2 (len y35))),(88,(.val T2 v37))],[(0,.row T2 y1 3),(1,.row T4 o33.2 4),(2,.row (.arr 2 T2) y35 107)]⟩
noncomputable def phys_parts.c3q (a0:(List V45)) (a1:Int) (o33:((List V133) × (List Bool))) (v37:Int) (y1:(List Int)) (y35:(List (List Int))) (o:Bool):SL:=(fun v=>⟨[(0,(.val (.slice T45) a0)),(1,(.val T2 a1)),(5,(.val .own (0:Nat))),(7,(.val .own (1:Nat))),(13,(.val T2 (el (0:Int) (el (List.replicate 2 (0:Int)) y35 v37) (0:Int)))),(14,(.val T2 (el (0:Int) (el (List.replicate 2 (0:Int)) y35 v37) (1:Int)))),(86,(.val .own (2:Nat))),(87,(.val T2 (len y35))),(88,(.val T2 v37)),(107,(.val T4 v))],[(0,.row T2 y1 3),(1,.row T4 o33.2 4),(2,.row (.arr 2 T2) y35 107)]⟩) o
noncomputable def phys_parts.c3x (o:Bool):Ex:=(fun _=>.normal) o
noncomputable def phys_parts.c3n (o:Bool):Nat:=(fun _=>3) o
theorem phys_parts.c3_ok (k:Nat) (a0:(List V45)) (a1:Int) (o33:((List V133) × (List Bool))) (v37:Int) (y1:(List Int)) (y35:(List (List Int))):Owp (phys_parts.c3 k o33 v37 y35) fun o=>Triple PR (phys_parts.cx k) (sub phys_parts.code [1,1,1,1,1,0,1,0,0,1,1,0,0,1,1,0,0]) 3 (phys_parts.c3p a0 a1 o33 v37 y1 y35) (phys_parts.c3x o) (phys_parts.c3n o) (phys_parts.c3q a0 a1 o33 v37 y1 y35 o):=by
 unfold phys_parts.c3; exact
  oR fun h40 =>
  oF (fun e41 =>
  oS (tW (phys_parts.cok k) hmix [fF,fF,fF,fF,fF,fF] [] [(0,0),(1,1),(2,2)] (via (finP (aI (aI (aI (aI (aI (aI (aI (aI tv0 h40) h40) (congrArg not e41)) (congrArg not e41)) (congrArg not e41)) (congrArg not e41)) (congrArg not e41)) (congrArg not e41)) .normal [(0,0),(1,1),(2,2)] (phys_parts.c3q a0 a1 o33 v37 y1 y35 false)) (by kernel_rfl)))) (fun e41 =>
  oR fun h42 =>
  oS (tW (phys_parts.cok k) hmix [tT,tT,tT,tT,tT,tT] [] [(0,0),(1,1),(2,2)] (via (finP (aI (aI (aI (aI (aI (aI (aI (aI tv0 h40) h40) (congrArg not e41)) (congrArg not e41)) (aI (congrArg not e41) h42)) (aI (congrArg not e41) h42)) (congrArg not e41)) (congrArg not e41)) .normal [(0,0),(1,1),(2,2)] (phys_parts.c3q a0 a1 o33 v37 y1 y35 (!(el false o33.2 (el (0:Int) (el (List.replicate 2 (0:Int)) y35 v37) (1:Int)))))) (by kernel_rfl))))
noncomputable def phys_parts.c2p (a0:(List V45)) (a1:Int) (o33:((List V133) × (List Bool))) (y1:(List Int)) (y35:(List (List Int))) (v37:Int):SL:=⟨[(0,(.val (.slice T45) a0)),(1,(.val T2 a1)),(5,(.val .own (0:Nat))),(7,(.val .own (1:Nat))),(86,(.val .own (2:Nat))),(87,(.val T2 (len y35))),(88,(.val T2 v37))],[(0,.row T2 y1 3),(1,.row T4 o33.2 4),(2,.row (.arr 2 T2) y35 107)]⟩
noncomputable def phys_parts.c2q (y1:(List Int)) (o:Unit):SL:=(fun v=>⟨[(5,(.val .own (0:Nat)))],[(0,.row T2 y1 3)]⟩) o
noncomputable def phys_parts.c2x (o:Unit):Ex:=(fun _=>(.exit 2)) o
noncomputable def phys_parts.c2n (o:Unit):Nat:=(fun _=>1) o
theorem phys_parts.c2_ok (k:Nat) (a0:(List V45)) (a1:Int) (o33:((List V133) × (List Bool))) (y1:(List Int)) (y35:(List (List Int))):∀ (n:Nat) (v37:Int),Owp (phys_parts.c2 k a0 o33 y35 n v37) fun o=>LTriple PR (phys_parts.cx k) (sub phys_parts.code [1,1,1,1,1,0,1,0,0]) 3 (phys_parts.c2p a0 a1 o33 y1 y35 v37) (phys_parts.c2x o) (phys_parts.c2n o) (phys_parts.c2q y1 o)
 | 0,_=>fun _ h=>nomatch h
 | n+1,v37=>Owp.of (phys_parts.c2.eq_2 ..) (
  oF (fun e38 =>
  oR fun h39 =>
  oB fun o43 e44 =>
  oF (fun e45 =>
  fun y hy=>loop_back (phys_parts.cok k) hmix 3 (phys_parts.c2p a0 a1 o33 y1 y35 (iadd .i64 v37 (1:Int))) [tT,.cutR 16 ⟨[],[(0,0),(1,1),(2,2)],(phys_parts.c3p a0 a1 o33 v37 y1 y35),3,.normal,(phys_parts.c3q a0 a1 o33 v37 y1 y35 o43),3⟩,tT] [] [(0,0),(1,1),(2,2)] (via (cutP (aI (aI (aI (aI (aI (aI (aI tv0 e38) h39) h39) (by decide:inR (0:Int) 2)) (by decide:inR (0:Int) 2)) (by decide:inR (1:Int) 2)) (by decide:inR (1:Int) 2)) [(0,0),(1,1),(2,2)] (phys_parts.c3p a0 a1 o33 v37 y1 y35) (((phys_parts.c3_ok k a0 a1 o33 v37 y1 y35).ap e44)) (finP (aI tv0 e45) .normal [(0,0),(1,1),(2,2)] (phys_parts.c2p a0 a1 o33 y1 y35 (iadd .i64 v37 (1:Int))))) (by kernel_rfl)) ((phys_parts.c2_ok k a0 a1 o33 y1 y35 n (iadd .i64 v37 (1:Int))).ap hy)) (fun e45 =>
  oR fun h46 =>
  oR fun h47 =>
  Owp.none)) (fun e38 =>
  oS (loop_exit (phys_parts.cok k) hmix [fF] [] [(0,0)] (exne 2) (via (finP (aI tv0 e38) (.exit 2) [(0,0)] (phys_parts.c2q y1 ())) (by kernel_rfl)))))
theorem phys_parts.way (k:Nat) (a0:(List V45)) (a1:Int):Owp (phys_parts k a0 a1) fun y=>∃ w c0,exec PR (phys_parts.cx k) phys_parts.code 0 (entry (.pair (.slice T45) (.pair T2 .unit)) (a0,a1,())).st w (Ret (phys_parts.cx k) Tryz.f45 c0 (.one (.ow T2 3)) y):=by
 unfold phys_parts; exact
  oB fun y1 e2 =>
  oR fun h3 =>
  oB fun o33 e34 =>
  oB fun y35 e36 =>
  oB fun o48 e49 =>
  oS (⟨[tT,.res (.one (.ow T2 3)) y1,.cut ⟨[.own 6 T133 134],[(0,4),(1,14),(2,9)],(phys_parts.c1p a0 a1 y1 (0:Int) [] (mk0 false (len a0))),3,(.exit 0),(phys_parts.c1q a0 a1 y1 o33),3⟩,.res (.one (.ow (.arr 2 T2) 107)) y35,.cut ⟨[],[(0,0),(1,2),(2,4)],(phys_parts.c2p a0 a1 o33 y1 y35 (0:Int)),3,(.exit 2),(phys_parts.c2q y1 ()),1⟩],[],via (cutP (aI (aI tv0 e2) h3) [(0,4),(1,14),(2,9)] (phys_parts.c1p a0 a1 y1 (0:Int) [] (mk0 false (len a0))) (((phys_parts.c1_ok k a0 a1 y1 k (0:Int) [] (mk0 false (len a0))).ap e34).triple) (cutP (aI tv0 e36) [(0,0),(1,2),(2,4)] (phys_parts.c2p a0 a1 o33 y1 y35 (0:Int)) (((phys_parts.c2_ok k a0 a1 o33 y1 y35 k (0:Int)).ap e49).triple) (retP tv0 (.one (.ow T2 3)) (y1:(List Int))))) (by kernel_rfl)⟩)
theorem phys_parts.ok (k:Nat):FnOk PR 45 (phys_parts.sp k) :=
 fn_ok (phys_parts.cok k) hmix Tryz.func45 (code:=phys_parts.code) (by kernel_rfl) (by kernel_rfl) (by kernel_rfl) rfl rfl (by kernel_rfl) (by kernel_rfl) (by kernel_rfl) (fun x=>Nat.le_of_ble_eq_true (by kernel_rfl)) fun x y hy=>(phys_parts.way k x.1 x.2.1).ap hy
noncomputable def slices_Repeat_86.code:Code:=Func.cd Tryz.f86
noncomputable def slices_Repeat_86.c1 (k:Nat) (y2:(Int × Int)):Option (Bool) :=
 bif' (igt y2.1 0)
 (some true)
 (some (igt y2.2 9223372036854775807))
noncomputable def slices_Repeat_86.c2 (k:Nat) (a0:(List Bool)) (y2:(Int × Int)):Nat→Option (Unit)
 | 0=>none
 | n+1 =>
  bif' (ilt ((Nat.min (List.length (a0:(List Bool))) (List.length ((mk0 false (icv .i64 y2.2)):(List Bool))):Nat):Int) (len (List.take (List.length ((mk0 false (icv .i64 y2.2)):(List Bool))) (a0:(List Bool))++List.drop (List.length (a0:(List Bool))) ((mk0 false (icv .i64 y2.2)):(List Bool)))))
  (none)
  (some ())
noncomputable def slices_Repeat_86 (k:Nat) (a0:(List Bool)) (a1:Int):Option (List Bool) :=
 bif' (ilt a1 0)
 (none)
 (bnd (bits_Mul k (icv .u64 (len a0)) (icv .u64 a1)) fun y2 =>
  bnd (slices_Repeat_86.c1 k y2) fun o5 =>
  bif' o5
  (none)
  (req (mkOk 1 (icv .i64 y2.2) (icv .i64 y2.2)) <|req (((mk0 false (icv .i64 y2.2)):(List Bool))≠[]∧(a0:(List Bool))≠[]) <|bnd (slices_Repeat_86.c2 k a0 y2 k) fun o11 =>
  some (List.take (List.length ((mk0 false (icv .i64 y2.2)):(List Bool))) (a0:(List Bool))++List.drop (List.length (a0:(List Bool))) ((mk0 false (icv .i64 y2.2)):(List Bool)))))
noncomputable def slices_Repeat_86.sp (k:Nat):Go.Sx.Spec:=⟨(.pair (.slice T4) (.pair T2 .unit)),(.one (.ow T4 4)),fun x=>slices_Repeat_86 k x.1 x.2.1,false⟩
noncomputable def slices_Repeat_86.cx (k:Nat):Go.Sx.Ctx:=⟨tys,[(128,bits_Mul.sp k)],eqs,48,0,[],false⟩
theorem slices_Repeat_86.cok (k:Nat):CtxOk PR (slices_Repeat_86.cx k):=ctx_ok tysOk eqsOk (fC (bits_Mul.ok k) FnsOk.nil) HsOk.nil
noncomputable def slices_Repeat_86.c1p (a0:(List Bool)) (y2:(Int × Int)):SL:=⟨[(0,(.val (.slice T4) a0)),(5,(.val T12 y2.1)),(6,(.val T12 y2.2))],[]⟩
noncomputable def slices_Repeat_86.c1q (a0:(List Bool)) (y2:(Int × Int)) (o:Bool):SL:=(fun v=>⟨[(0,(.val (.slice T4) a0)),(6,(.val T12 y2.2)),(26,(.val T4 v))],[]⟩) o
noncomputable def slices_Repeat_86.c1x (o:Bool):Ex:=(fun _=>.normal) o
noncomputable def slices_Repeat_86.c1n (o:Bool):Nat:=(fun _=>0) o
theorem slices_Repeat_86.c1_ok (k:Nat) (a0:(List Bool)) (y2:(Int × Int)):Owp (slices_Repeat_86.c1 k y2) fun o=>Triple PR (slices_Repeat_86.cx k) (sub slices_Repeat_86.code [1,1,1,0,0]) 0 (slices_Repeat_86.c1p a0 y2) (slices_Repeat_86.c1x o) (slices_Repeat_86.c1n o) (slices_Repeat_86.c1q a0 y2 o):=by
 unfold slices_Repeat_86.c1; exact
  oF (fun e4 =>
  oS (tW (slices_Repeat_86.cok k) hmix [tT,tT,tT] [] [] (via (finP (aI (aI (aI tv0 e4) e4) e4) .normal [] (slices_Repeat_86.c1q a0 y2 true)) (by kernel_rfl)))) (fun e4 =>
  oS (tW (slices_Repeat_86.cok k) hmix [fF,fF,fF] [] [] (via (finP (aI (aI (aI tv0 e4) e4) e4) .normal [] (slices_Repeat_86.c1q a0 y2 (igt y2.2 (9223372036854775807:Int)))) (by kernel_rfl))))
noncomputable def slices_Repeat_86.c2p (a0:(List Bool)) (y2:(Int × Int)):SL:=⟨[(7,(.val .own (0:Nat))),(8,(.val T2 ((Nat.min (List.length (a0:(List Bool))) (List.length ((mk0 false (icv .i64 y2.2)):(List Bool))):Nat):Int)))],[(0,.row T4 (List.take (List.length ((mk0 false (icv .i64 y2.2)):(List Bool))) (a0:(List Bool))++List.drop (List.length (a0:(List Bool))) ((mk0 false (icv .i64 y2.2)):(List Bool))) 4)]⟩
noncomputable def slices_Repeat_86.c2q (a0:(List Bool)) (y2:(Int × Int)) (o:Unit):SL:=(fun v=>⟨[(7,(.val .own (0:Nat)))],[(0,.row T4 (List.take (List.length ((mk0 false (icv .i64 y2.2)):(List Bool))) (a0:(List Bool))++List.drop (List.length (a0:(List Bool))) ((mk0 false (icv .i64 y2.2)):(List Bool))) 4)]⟩) o
noncomputable def slices_Repeat_86.c2x (o:Unit):Ex:=(fun _=>(.exit 0)) o
noncomputable def slices_Repeat_86.c2n (o:Unit):Nat:=(fun _=>1) o
theorem slices_Repeat_86.c2_ok (k:Nat) (a0:(List Bool)) (y2:(Int × Int)):∀ (n:Nat),Owp (slices_Repeat_86.c2 k a0 y2 n) fun o=>LTriple PR (slices_Repeat_86.cx k) (sub slices_Repeat_86.code [1,1,1,1,1,1,0,0,0]) 1 (slices_Repeat_86.c2p a0 y2) (slices_Repeat_86.c2x o) (slices_Repeat_86.c2n o) (slices_Repeat_86.c2q a0 y2 o)
 | 0=>fun _ h=>nomatch h
 | n+1=>Owp.of (slices_Repeat_86.c2.eq_2 ..) (
  oF (fun e10 =>
  Owp.none) (fun e10 =>
  oS (loop_exit (slices_Repeat_86.cok k) hmix [fF] [] [(0,0)] (exne 0) (via (finP (aI tv0 e10) (.exit 0) [(0,0)] (slices_Repeat_86.c2q a0 y2 ())) (by kernel_rfl)))))
theorem slices_Repeat_86.way (k:Nat) (a0:(List Bool)) (a1:Int):Owp (slices_Repeat_86 k a0 a1) fun y=>∃ w c0,exec PR (slices_Repeat_86.cx k) slices_Repeat_86.code 0 (entry (.pair (.slice T4) (.pair T2 .unit)) (a0,a1,())).st w (Ret (slices_Repeat_86.cx k) Tryz.f86 c0 (.one (.ow T4 4)) y):=by
 unfold slices_Repeat_86; exact
  oF (fun e1 =>
  Owp.none) (fun e1 =>
  oB fun y2 e3 =>
  oB fun o5 e6 =>
  oF (fun e7 =>
  Owp.none) (fun e7 =>
  oR fun h8 =>
  oR fun h9 =>
  oB fun o11 e12 =>
  oS (⟨[fF,.res (.more (.dp T12) (.one (.dp T12))) y2,.cutR 4 ⟨[],[],(slices_Repeat_86.c1p a0 y2),0,.normal,(slices_Repeat_86.c1q a0 y2 o5),0⟩,fF,.cut ⟨[],[(0,2)],(slices_Repeat_86.c2p a0 y2),1,(.exit 0),(slices_Repeat_86.c2q a0 y2 ()),1⟩],[],via (cutP (aI (aI tv0 e1) e3) [] (slices_Repeat_86.c1p a0 y2) (((slices_Repeat_86.c1_ok k a0 y2).ap e6)) (cutP (aI (aI (aI tv0 e7) h8) h9) [(0,2)] (slices_Repeat_86.c2p a0 y2) (((slices_Repeat_86.c2_ok k a0 y2 k).ap e12).triple) (retP tv0 (.one (.ow T4 4)) ((List.take (List.length ((mk0 false (icv .i64 y2.2)):(List Bool))) (a0:(List Bool))++List.drop (List.length (a0:(List Bool))) ((mk0 false (icv .i64 y2.2)):(List Bool))):(List Bool))))) (by kernel_rfl)⟩)))
theorem slices_Repeat_86.ok (k:Nat):FnOk PR 86 (slices_Repeat_86.sp k) :=
 fn_ok (slices_Repeat_86.cok k) hmix Tryz.func86 (code:=slices_Repeat_86.code) (by kernel_rfl) (by kernel_rfl) (by kernel_rfl) rfl rfl (by kernel_rfl) (by kernel_rfl) (by kernel_rfl) (fun x=>Nat.le_of_ble_eq_true (by kernel_rfl)) fun x y hy=>(slices_Repeat_86.way k x.1 x.2.1).ap hy
noncomputable def phys_rest.code:Code:=Func.cd Tryz.f48
noncomputable def phys_rest.c2 (k:Nat) (v3:Int) (v4:(List V45)):Option (Bool) :=
 bif' (ieq (el Z45 v4 v3).2.2.2.2.1 0)
 (some true)
 (some (el Z45 v4 v3).2.2.2.2.2.2.2.2.2.1)
noncomputable def phys_rest.c4 (k:Nat) (v3:Int) (v4:(List V45)):Option (Bool) :=
 bnd (vec_Len k (el Z45 v4 v3).2.1) fun y12 =>
 bif' (ile y12 2048)
 (bif' (ige (el Z45 v4 v3).2.2.2.1 (-1024))
  (some (ile (el Z45 v4 v3).2.2.2.1 1024))
  (some false))
 (some false)
noncomputable def phys_rest.c3 (k:Nat) (o9:Bool) (v3:Int) (v4:(List V45)):Option ((List V45)) :=
 bif' o9
 (some v4)
 (bnd (phys_rest.c4 k v3 v4) fun o16 =>
  bif' o16
  (req (inL v3 v4) <|some (st v4 v3 ((el Z45 v4 v3).1,(el Z45 v4 v3).2.1,(el Z45 v4 v3).2.2.1,(el Z45 v4 v3).2.2.2.1,(el Z45 v4 v3).2.2.2.2.1,(el Z45 v4 v3).2.2.2.2.2.1,(el Z45 v4 v3).2.2.2.2.2.2.1,(el Z45 v4 v3).2.2.2.2.2.2.2.1,(el Z45 v4 v3).2.2.2.2.2.2.2.2.1,(el Z45 v4 v3).2.2.2.2.2.2.2.2.2.1,(imin (iadd .i64 (el Z45 v4 v3).2.2.2.2.2.2.2.2.2.2.1 1) 1000),())))
  (req (inL v3 v4) <|some (st v4 v3 ((el Z45 v4 v3).1,(el Z45 v4 v3).2.1,(el Z45 v4 v3).2.2.1,(el Z45 v4 v3).2.2.2.1,(el Z45 v4 v3).2.2.2.2.1,(el Z45 v4 v3).2.2.2.2.2.1,(el Z45 v4 v3).2.2.2.2.2.2.1,(el Z45 v4 v3).2.2.2.2.2.2.2.1,(el Z45 v4 v3).2.2.2.2.2.2.2.2.1,(el Z45 v4 v3).2.2.2.2.2.2.2.2.2.1,0,()))))
noncomputable def phys_rest.c5 (k:Nat) (o21:(List V45)) (v3:Int) (v4:(List V45)):Option (Bool) :=
 bif' (igt (el Z45 v4 v3).2.2.2.2.1 0)
 (bif' (el Z45 v4 v3).2.2.2.2.2.2.2.2.2.1
  (some false)
  (req (inL v3 o21) <|some (ilt (el Z45 o21 v3).2.2.2.2.2.2.2.2.2.2.1 30)))
 (some false)
noncomputable def phys_rest.c1 (k:Nat) (r0:(List V45)) (r1:(List Int)):Nat→Int→(List V45)→(List Bool)→Option (((List V45) × (List Bool)))
 | 0,_,_,_=>none
 | n+1,v3,v4,v5 =>
  bif' (ilt v3 (len r0))
  (req (inL v3 v4) <|bnd (phys_rest.c2 k v3 v4) fun o9 =>
  bnd (phys_rest.c3 k o9 v3 v4) fun o21 =>
  bnd (phys_rest.c5 k o21 v3 v4) fun o26 =>
  bif' o26
  (req (inL v3 r1) <|req (inL (el 0 r1 v3) v5) <|phys_rest.c1 k r0 r1 n (iadd .i64 v3 1) o21 (st v5 (el 0 r1 v3) false))
  (phys_rest.c1 k r0 r1 n (iadd .i64 v3 1) o21 v5))
  (some (v4,v5))
noncomputable def phys_rest.c7 (k:Nat) (o31:((List V45) × (List Bool))) (r1:(List Int)) (v33:Int) (v34:(List V45)):Option (Bool) :=
 bif' (igt (el Z45 v34 v33).2.2.2.2.1 0)
 (req (inL v33 r1) <|req (inL (el 0 r1 v33) o31.2) <|some (el false o31.2 (el 0 r1 v33)))
 (some false)
noncomputable def phys_rest.c6 (k:Nat) (o31:((List V45) × (List Bool))) (r1:(List Int)):Nat→Int→(List V45)→Option ((List V45))
 | 0,_,_=>none
 | n+1,v33,v34 =>
  bif' (ilt v33 (len o31.1))
  (req (inL v33 v34) <|bnd (phys_rest.c7 k o31 r1 v33 v34) fun o40 =>
  bif' o40
  (req (inL v33 (st v34 v33 ((el Z45 v34 v33).1,(el Z45 v34 v33).2.1,(el Z45 v34 v33).2.2.1,(el Z45 v34 v33).2.2.2.1,(el Z45 v34 v33).2.2.2.2.1,(el Z45 v34 v33).2.2.2.2.2.1,(el Z45 v34 v33).2.2.2.2.2.2.1,(el Z45 v34 v33).2.2.2.2.2.2.2.1,(el Z45 v34 v33).2.2.2.2.2.2.2.2.1,true,(el Z45 v34 v33).2.2.2.2.2.2.2.2.2.2))) <|req (inL v33 (st (st v34 v33 ((el Z45 v34 v33).1,(el Z45 v34 v33).2.1,(el Z45 v34 v33).2.2.1,(el Z45 v34 v33).2.2.2.1,(el Z45 v34 v33).2.2.2.2.1,(el Z45 v34 v33).2.2.2.2.2.1,(el Z45 v34 v33).2.2.2.2.2.2.1,(el Z45 v34 v33).2.2.2.2.2.2.2.1,(el Z45 v34 v33).2.2.2.2.2.2.2.2.1,true,(el Z45 v34 v33).2.2.2.2.2.2.2.2.2.2)) v33 ((el Z45 (st v34 v33 ((el Z45 v34 v33).1,(el Z45 v34 v33).2.1,(el Z45 v34 v33).2.2.1,(el Z45 v34 v33).2.2.2.1,(el Z45 v34 v33).2.2.2.2.1,(el Z45 v34 v33).2.2.2.2.2.1,(el Z45 v34 v33).2.2.2.2.2.2.1,(el Z45 v34 v33).2.2.2.2.2.2.2.1,(el Z45 v34 v33).2.2.2.2.2.2.2.2.1,true,(el Z45 v34 v33).2.2.2.2.2.2.2.2.2.2)) v33).1,(0,0,()),(el Z45 (st v34 v33 ((el Z45 v34 v33).1,(el Z45 v34 v33).2.1,(el Z45 v34 v33).2.2.1,(el Z45 v34 v33).2.2.2.1,(el Z45 v34 v33).2.2.2.2.1,(el Z45 v34 v33).2.2.2.2.2.1,(el Z45 v34 v33).2.2.2.2.2.2.1,(el Z45 v34 v33).2.2.2.2.2.2.2.1,(el Z45 v34 v33).2.2.2.2.2.2.2.2.1,true,(el Z45 v34 v33).2.2.2.2.2.2.2.2.2.2)) v33).2.2))) <|phys_rest.c6 k o31 r1 n (iadd .i64 v33 1) (st (st (st v34 v33 ((el Z45 v34 v33).1,(el Z45 v34 v33).2.1,(el Z45 v34 v33).2.2.1,(el Z45 v34 v33).2.2.2.1,(el Z45 v34 v33).2.2.2.2.1,(el Z45 v34 v33).2.2.2.2.2.1,(el Z45 v34 v33).2.2.2.2.2.2.1,(el Z45 v34 v33).2.2.2.2.2.2.2.1,(el Z45 v34 v33).2.2.2.2.2.2.2.2.1,true,(el Z45 v34 v33).2.2.2.2.2.2.2.2.2.2)) v33 ((el Z45 (st v34 v33 ((el Z45 v34 v33).1,(el Z45 v34 v33).2.1,(el Z45 v34 v33).2.2.1,(el Z45 v34 v33).2.2.2.1,(el Z45 v34 v33).2.2.2.2.1,(el Z45 v34 v33).2.2.2.2.2.1,(el Z45 v34 v33).2.2.2.2.2.2.1,(el Z45 v34 v33).2.2.2.2.2.2.2.1,(el Z45 v34 v33).2.2.2.2.2.2.2.2.1,true,(el Z45 v34 v33).2.2.2.2.2.2.2.2.2.2)) v33).1,(0,0,()),(el Z45 (st v34 v33 ((el Z45 v34 v33).1,(el Z45 v34 v33).2.1,(el Z45 v34 v33).2.2.1,(el Z45 v34 v33).2.2.2.1,(el Z45 v34 v33).2.2.2.2.1,(el Z45 v34 v33).2.2.2.2.2.1,(el Z45 v34 v33).2.2.2.2.2.2.1,(el Z45 v34 v33).2.2.2.2.2.2.2.1,(el Z45 v34 v33).2.2.2.2.2.2.2.2.1,true,(el Z45 v34 v33).2.2.2.2.2.2.2.2.2.2)) v33).2.2)) v33 ((el Z45 (st (st v34 v33 ((el Z45 v34 v33).1,(el Z45 v34 v33).2.1,(el Z45 v34 v33).2.2.1,(el Z45 v34 v33).2.2.2.1,(el Z45 v34 v33).2.2.2.2.1,(el Z45 v34 v33).2.2.2.2.2.1,(el Z45 v34 v33).2.2.2.2.2.2.1,(el Z45 v34 v33).2.2.2.2.2.2.2.1,(el Z45 v34 v33).2.2.2.2.2.2.2.2.1,true,(el Z45 v34 v33).2.2.2.2.2.2.2.2.2.2)) v33 ((el Z45 (st v34 v33 ((el Z45 v34 v33).1,(el Z45 v34 v33).2.1,(el Z45 v34 v33).2.2.1,(el Z45 v34 v33).2.2.2.1,(el Z45 v34 v33).2.2.2.2.1,(el Z45 v34 v33).2.2.2.2.2.1,(el Z45 v34 v33).2.2.2.2.2.2.1,(el Z45 v34 v33).2.2.2.2.2.2.2.1,(el Z45 v34 v33).2.2.2.2.2.2.2.2.1,true,(el Z45 v34 v33).2.2.2.2.2.2.2.2.2.2)) v33).1,(0,0,()),(el Z45 (st v34 v33 ((el Z45 v34 v33).1,(el Z45 v34 v33).2.1,(el Z45 v34 v33).2.2.1,(el Z45 v34 v33).2.2.2.1,(el Z45 v34 v33).2.2.2.2.1,(el Z45 v34 v33).2.2.2.2.2.1,(el Z45 v34 v33).2.2.2.2.2.2.1,(el Z45 v34 v33).2.2.2.2.2.2.2.1,(el Z45 v34 v33).2.2.2.2.2.2.2.2.1,true,(el Z45 v34 v33).2.2.2.2.2.2.2.2.2.2)) v33).2.2)) v33).1,(el Z45 (st (st v34 v33 ((el Z45 v34 v33).1,(el Z45 v34 v33).2.1,(el Z45 v34 v33).2.2.1,(el Z45 v34 v33).2.2.2.1,(el Z45 v34 v33).2.2.2.2.1,(el Z45 v34 v33).2.2.2.2.2.1,(el Z45 v34 v33).2.2.2.2.2.2.1,(el Z45 v34 v33).2.2.2.2.2.2.2.1,(el Z45 v34 v33).2.2.2.2.2.2.2.2.1,true,(el Z45 v34 v33).2.2.2.2.2.2.2.2.2.2)) v33 ((el Z45 (st v34 v33 ((el Z45 v34 v33).1,(el Z45 v34 v33).2.1,(el Z45 v34 v33).2.2.1,(el Z45 v34 v33).2.2.2.1,(el Z45 v34 v33).2.2.2.2.1,(el Z45 v34 v33).2.2.2.2.2.1,(el Z45 v34 v33).2.2.2.2.2.2.1,(el Z45 v34 v33).2.2.2.2.2.2.2.1,(el Z45 v34 v33).2.2.2.2.2.2.2.2.1,true,(el Z45 v34 v33).2.2.2.2.2.2.2.2.2.2)) v33).1,(0,0,()),(el Z45 (st v34 v33 ((el Z45 v34 v33).1,(el Z45 v34 v33).2.1,(el Z45 v34 v33).2.2.1,(el Z45 v34 v33).2.2.2.1,(el Z45 v34 v33).2.2.2.2.1,(el Z45 v34 v33).2.2.2.2.2.1,(el Z45 v34 v33).2.2.2.2.2.2.1,(el Z45 v34 v33).2.2.2.2.2.2.2.1,(el Z45 v34 v33).2.2.2.2.2.2.2.2.1,true,(el Z45 v34 v33).2.2.2.2.2.2.2.2.2.2)) v33).2.2)) v33).2.1,(el Z45 (st (st v34 v33 ((el Z45 v34 v33).1,(el Z45 v34 v33).2.1,(el Z45 v34 v33).2.2.1,(el Z45 v34 v33).2.2.2.1,(el Z45 v34 v33).2.2.2.2.1,(el Z45 v34 v33).2.2.2.2.2.1,(el Z45 v34 v33).2.2.2.2.2.2.1,(el Z45 v34 v33).2.2.2.2.2.2.2.1,(el Z45 v34 v33).2.2.2.2.2.2.2.2.1,true,(el Z45 v34 v33).2.2.2.2.2.2.2.2.2.2)) v33 ((el Z45 (st v34 v33 ((el Z45 v34 v33).1,(el Z45 v34 v33).2.1,(el Z45 v34 v33).2.2.1,(el Z45 v34 v33).2.2.2.1,(el Z45 v34 v33).2.2.2.2.1,(el Z45 v34 v33).2.2.2.2.2.1,(el Z45 v34 v33).2.2.2.2.2.2.1,(el Z45 v34 v33).2.2.2.2.2.2.2.1,(el Z45 v34 v33).2.2.2.2.2.2.2.2.1,true,(el Z45 v34 v33).2.2.2.2.2.2.2.2.2.2)) v33).1,(0,0,()),(el Z45 (st v34 v33 ((el Z45 v34 v33).1,(el Z45 v34 v33).2.1,(el Z45 v34 v33).2.2.1,(el Z45 v34 v33).2.2.2.1,(el Z45 v34 v33).2.2.2.2.1,(el Z45 v34 v33).2.2.2.2.2.1,(el Z45 v34 v33).2.2.2.2.2.2.1,(el Z45 v34 v33).2.2.2.2.2.2.2.1,(el Z45 v34 v33).2.2.2.2.2.2.2.2.1,true,(el Z45 v34 v33).2.2.2.2.2.2.2.2.2.2)) v33).2.2)) v33).2.2.1,0,(el Z45 (st (st v34 v33 ((el Z45 v34 v33).1,(el Z45 v34 v33).2.1,(el Z45 v34 v33).2.2.1,(el Z45 v34 v33).2.2.2.1,(el Z45 v34 v33).2.2.2.2.1,(el Z45 v34 v33).2.2.2.2.2.1,(el Z45 v34 v33).2.2.2.2.2.2.1,(el Z45 v34 v33).2.2.2.2.2.2.2.1,(el Z45 v34 v33).2.2.2.2.2.2.2.2.1,true,(el Z45 v34 v33).2.2.2.2.2.2.2.2.2.2)) v33 ((el Z45 (st v34 v33 ((el Z45 v34 v33).1,(el Z45 v34 v33).2.1,(el Z45 v34 v33).2.2.1,(el Z45 v34 v33).2.2.2.1,(el Z45 v34 v33).2.2.2.2.1,(el Z45 v34 v33).2.2.2.2.2.1,(el Z45 v34 v33).2.2.2.2.2.2.1,(el Z45 v34 v33).2.2.2.2.2.2.2.1,(el Z45 v34 v33).2.2.2.2.2.2.2.2.1,true,(el Z45 v34 v33).2.2.2.2.2.2.2.2.2.2)) v33).1,(0,0,()),(el Z45 (st v34 v33 ((el Z45 v34 v33).1,(el Z45 v34 v33).2.1,(el Z45 v34 v33).2.2.1,(el Z45 v34 v33).2.2.2.1,(el Z45 v34 v33).2.2.2.2.1,(el Z45 v34 v33).2.2.2.2.2.1,(el Z45 v34 v33).2.2.2.2.2.2.1,(el Z45 v34 v33).2.2.2.2.2.2.2.1,(el Z45 v34 v33).2.2.2.2.2.2.2.2.1,true,(el Z45 v34 v33).2.2.2.2.2.2.2.2.2.2)) v33).2.2)) v33).2.2.2.2)))
  (phys_rest.c6 k o31 r1 n (iadd .i64 v33 1) v34))
  (some v34)
noncomputable def phys_rest (k:Nat) (r0:(List V45)) (r1:(List Int)):Option (List V45) :=
 bnd (slices_Repeat_86 k [true] (len r0)) fun y1 =>
 bnd (phys_rest.c1 k r0 r1 k 0 r0 y1) fun o31 =>
 bnd (phys_rest.c6 k o31 r1 k 0 o31.1) fun o45 =>
 some o45
noncomputable def phys_rest.h (k:Nat):Go.Sx.HSp:=⟨(.pair (.slice T45) (.pair T22 .unit)),(.slice T45),2,fun x=>[.lent (.val .own (0:Nat)),.lent (.val .own (1:Nat))],fun x=>[(0,.row T45 x.1 46),(1,.row T2 x.2.1 3)],fun x=>phys_rest k x.1 x.2.1,fun x y=>[(0,.row T45 y 46),(1,.row T2 x.2.1 3)],.none,fun y=>(),false,false⟩
noncomputable def phys_rest.cx (k:Nat):Go.Sx.Ctx:=⟨tys,[(86,slices_Repeat_86.sp k),(71,vec_Len.sp k)],eqs,111,2,[],false⟩
theorem phys_rest.cok (k:Nat):CtxOk PR (phys_rest.cx k):=ctx_ok tysOk eqsOk (fC (slices_Repeat_86.ok k) (fC (vec_Len.ok k) FnsOk.nil)) HsOk.nil
noncomputable def phys_rest.c2p (r0:(List V45)) (r1:(List Int)) (v3:Int) (v4:(List V45)) (v5:(List Bool)):SL:=⟨[(0,(.val .own (0:Nat))),(1,(.val .own (1:Nat))),(4,(.val .own (2:Nat))),(5,(.val T2 v3)),(6,(.val .ptr ⟨3,0,(0:Int),0,0⟩)),(13,(.val .own (0:Nat))),(14,(.val T2 (len r0))),(15,(.val T2 v3))],[(0,.row T45 v4 46),(1,.row T2 r1 3),(2,.row T4 v5 4),(3,.cells T45 (el Z45 v4 v3))]⟩
noncomputable def phys_rest.c2q (r0:(List V45)) (r1:(List Int)) (v3:Int) (v4:(List V45)) (v5:(List Bool)) (o:Bool):SL:=(fun v=>⟨[(0,(.val .own (0:Nat))),(1,(.val .own (1:Nat))),(4,(.val .own (2:Nat))),(5,(.val T2 v3)),(6,(.val .ptr ⟨3,0,(0:Int),0,0⟩)),(13,(.val .own (0:Nat))),(14,(.val T2 (len r0))),(15,(.val T2 v3)),(24,(.val T4 v))],[(0,.row T45 v4 46),(1,.row T2 r1 3),(2,.row T4 v5 4),(3,.cells T45 (el Z45 v4 v3))]⟩) o
noncomputable def phys_rest.c2x (o:Bool):Ex:=(fun _=>.normal) o
noncomputable def phys_rest.c2n (o:Bool):Nat:=(fun _=>4) o
theorem phys_rest.c2_ok (k:Nat) (r0:(List V45)) (r1:(List Int)) (v3:Int) (v4:(List V45)) (v5:(List Bool)):Owp (phys_rest.c2 k v3 v4) fun o=>Triple PR (phys_rest.cx k) (sub phys_rest.code [1,0,1,0,0,1,1,0,0,1,0,0,0]) 4 (phys_rest.c2p r0 r1 v3 v4 v5) (phys_rest.c2x o) (phys_rest.c2n o) (phys_rest.c2q r0 r1 v3 v4 v5 o):=by
 unfold phys_rest.c2; exact
  oF (fun e8 =>
  oS (tW (phys_rest.cok k) hmix [tT,tT,tT] [] [(0,0),(1,1),(2,2),(3,3)] (via (finP (aI (aI (aI tv0 e8) e8) e8) .normal [(0,0),(1,1),(2,2),(3,3)] (phys_rest.c2q r0 r1 v3 v4 v5 true)) (by kernel_rfl)))) (fun e8 =>
  oS (tW (phys_rest.cok k) hmix [fF,fF,fF] [] [(0,0),(1,1),(2,2),(3,3)] (via (finP (aI (aI (aI tv0 e8) e8) e8) .normal [(0,0),(1,1),(2,2),(3,3)] (phys_rest.c2q r0 r1 v3 v4 v5 (el Z45 v4 v3).2.2.2.2.2.2.2.2.2.1)) (by kernel_rfl))))
noncomputable def phys_rest.c4p (r0:(List V45)) (r1:(List Int)) (v3:Int) (v4:(List V45)) (v5:(List Bool)):SL:=⟨[(0,(.val .own (0:Nat))),(1,(.val .own (1:Nat))),(4,(.val .own (2:Nat))),(5,(.val T2 v3)),(6,(.val .ptr ⟨3,0,(0:Int),0,0⟩)),(13,(.val .own (0:Nat))),(14,(.val T2 (len r0))),(15,(.val T2 v3))],[(0,.row T45 v4 46),(1,.row T2 r1 3),(2,.row T4 v5 4),(3,.cells T45 (el Z45 v4 v3))]⟩
noncomputable def phys_rest.c4q (r0:(List V45)) (r1:(List Int)) (v3:Int) (v4:(List V45)) (v5:(List Bool)) (o:Bool):SL:=(fun v=>⟨[(0,(.val .own (0:Nat))),(1,(.val .own (1:Nat))),(4,(.val .own (2:Nat))),(5,(.val T2 v3)),(6,(.val .ptr ⟨3,0,(0:Int),0,0⟩)),(13,(.val .own (0:Nat))),(14,(.val T2 (len r0))),(15,(.val T2 v3)),(32,(.val T4 v))],[(0,.row T45 v4 46),(1,.row T2 r1 3),(2,.row T4 v5 4),(3,.cells T45 (el Z45 v4 v3))]⟩) o
noncomputable def phys_rest.c4x (o:Bool):Ex:=(fun _=>.normal) o
noncomputable def phys_rest.c4n (o:Bool):Nat:=(fun _=>4) o
theorem phys_rest.c4_ok (k:Nat) (r0:(List V45)) (r1:(List Int)) (v3:Int) (v4:(List V45)) (v5:(List Bool)):Owp (phys_rest.c4 k v3 v4) fun o=>Triple PR (phys_rest.cx k) (sub phys_rest.code [1,0,1,0,0,1,1,0,0,1,0,0,1,1,0]) 4 (phys_rest.c4p r0 r1 v3 v4 v5) (phys_rest.c4x o) (phys_rest.c4n o) (phys_rest.c4q r0 r1 v3 v4 v5 o):=by
 unfold phys_rest.c4; exact
  oB fun y12 e13 =>
  oF (fun e14 =>
  oF (fun e15 =>
  oS (tW (phys_rest.cok k) hmix [rS T2 y12,tT,tT,tT,tT,tT,tT,tT,tT] [] [(0,0),(1,1),(2,2),(3,3)] (via (finP (aI (aI (aI (aI (aI (aI (aI (aI (aI tv0 e13) e14) e14) e14) e14) e15) e15) e15) e15) .normal [(0,0),(1,1),(2,2),(3,3)] (phys_rest.c4q r0 r1 v3 v4 v5 (ile (el Z45 v4 v3).2.2.2.1 (1024:Int)))) (by kernel_rfl)))) (fun e15 =>
  oS (tW (phys_rest.cok k) hmix [rS T2 y12,tT,tT,tT,tT,fF,fF,fF,fF] [] [(0,0),(1,1),(2,2),(3,3)] (via (finP (aI (aI (aI (aI (aI (aI (aI (aI (aI tv0 e13) e14) e14) e14) e14) e15) e15) e15) e15) .normal [(0,0),(1,1),(2,2),(3,3)] (phys_rest.c4q r0 r1 v3 v4 v5 false)) (by kernel_rfl))))) (fun e14 =>
  oS (tW (phys_rest.cok k) hmix [rS T2 y12,fF,fF,fF,fF,fF,fF,fF,fF] [] [(0,0),(1,1),(2,2),(3,3)] (via (finP (aI (aI (aI (aI (aI (aI (aI (aI (aI tv0 e13) e14) e14) e14) e14) ff) ff) ff) ff) .normal [(0,0),(1,1),(2,2),(3,3)] (phys_rest.c4q r0 r1 v3 v4 v5 false)) (by kernel_rfl))))
noncomputable def phys_rest.c3p (o9:Bool) (r0:(List V45)) (r1:(List Int)) (v3:Int) (v4:(List V45)) (v5:(List Bool)):SL:=⟨[(0,(.val .own (0:Nat))),(1,(.val .own (1:Nat))),(4,(.val .own (2:Nat))),(5,(.val T2 v3)),(6,(.val .ptr ⟨3,0,(0:Int),0,0⟩)),(13,(.val .own (0:Nat))),(14,(.val T2 (len r0))),(15,(.val T2 v3)),(24,(.val T4 o9))],[(0,.row T45 v4 46),(1,.row T2 r1 3),(2,.row T4 v5 4),(3,.cells T45 (el Z45 v4 v3))]⟩
noncomputable def phys_rest.c3q (r0:(List V45)) (r1:(List Int)) (v3:Int) (v4:(List V45)) (v5:(List Bool)) (o:(List V45)):SL:=(fun v=>⟨[(0,(.val .own (0:Nat))),(1,(.val .own (1:Nat))),(4,(.val .own (2:Nat))),(5,(.val T2 v3)),(6,(.val .ptr ⟨3,0,(0:Int),0,0⟩)),(13,(.val .own (0:Nat))),(14,(.val T2 (len r0))),(15,(.val T2 v3))],[(0,.row T45 v 46),(1,.row T2 r1 3),(2,.row T4 v5 4),(3,.cells T45 (el Z45 v4 v3))]⟩) o
noncomputable def phys_rest.c3x (o:(List V45)):Ex:=(fun _=>.normal) o
noncomputable def phys_rest.c3n (o:(List V45)):Nat:=(fun _=>4) o
theorem phys_rest.c3_ok (k:Nat) (o9:Bool) (r0:(List V45)) (r1:(List Int)) (v3:Int) (v4:(List V45)) (v5:(List Bool)):Owp (phys_rest.c3 k o9 v3 v4) fun o=>Triple PR (phys_rest.cx k) (sub phys_rest.code [1,0,1,0,0,1,1,0,0,1,0,0,1]) 4 (phys_rest.c3p o9 r0 r1 v3 v4 v5) (phys_rest.c3x o) (phys_rest.c3n o) (phys_rest.c3q r0 r1 v3 v4 v5 o):=by
 unfold phys_rest.c3; exact
  oF (fun e11 =>
  oS (tW (phys_rest.cok k) hmix [tT] [] [(0,0),(1,1),(2,2),(3,3)] (via (finP (aI tv0 e11) .normal [(0,0),(1,1),(2,2),(3,3)] (phys_rest.c3q r0 r1 v3 v4 v5 v4)) (by kernel_rfl)))) (fun e11 =>
  oB fun o16 e17 =>
  oF (fun e18 =>
  oR fun h19 =>
  oS (tW (phys_rest.cok k) hmix [fF,.cutR 6 ⟨[],[(0,0),(1,1),(2,2),(3,3)],(phys_rest.c4p r0 r1 v3 v4 v5),4,.normal,(phys_rest.c4q r0 r1 v3 v4 v5 o16),4⟩,tT] [] [(0,0),(1,1),(2,2),(3,3)] (via (cutP (aI tv0 e11) [(0,0),(1,1),(2,2),(3,3)] (phys_rest.c4p r0 r1 v3 v4 v5) (((phys_rest.c4_ok k r0 r1 v3 v4 v5).ap e17)) (finP (aI (aI (aI tv0 e18) h19) h19) .normal [(0,0),(1,1),(2,2),(3,3)] (phys_rest.c3q r0 r1 v3 v4 v5 (st v4 v3 ((el Z45 v4 v3).1,(el Z45 v4 v3).2.1,(el Z45 v4 v3).2.2.1,(el Z45 v4 v3).2.2.2.1,(el Z45 v4 v3).2.2.2.2.1,(el Z45 v4 v3).2.2.2.2.2.1,(el Z45 v4 v3).2.2.2.2.2.2.1,(el Z45 v4 v3).2.2.2.2.2.2.2.1,(el Z45 v4 v3).2.2.2.2.2.2.2.2.1,(el Z45 v4 v3).2.2.2.2.2.2.2.2.2.1,(imin (iadd .i64 (el Z45 v4 v3).2.2.2.2.2.2.2.2.2.2.1 (1:Int)) (1000:Int)),()))))) (by kernel_rfl)))) (fun e18 =>
  oR fun h20 =>
  oS (tW (phys_rest.cok k) hmix [fF,.cutR 6 ⟨[],[(0,0),(1,1),(2,2),(3,3)],(phys_rest.c4p r0 r1 v3 v4 v5),4,.normal,(phys_rest.c4q r0 r1 v3 v4 v5 o16),4⟩,fF] [] [(0,0),(1,1),(2,2),(3,3)] (via (cutP (aI tv0 e11) [(0,0),(1,1),(2,2),(3,3)] (phys_rest.c4p r0 r1 v3 v4 v5) (((phys_rest.c4_ok k r0 r1 v3 v4 v5).ap e17)) (finP (aI (aI (aI tv0 e18) h20) h20) .normal [(0,0),(1,1),(2,2),(3,3)] (phys_rest.c3q r0 r1 v3 v4 v5 (st v4 v3 ((el Z45 v4 v3).1,(el Z45 v4 v3).2.1,(el Z45 v4 v3).2.2.1,(el Z45 v4 v3).2.2.2.1,(el Z45 v4 v3).2.2.2.2.1,(el Z45 v4 v3).2.2.2.2.2.1,(el Z45 v4 v3).2.2.2.2.2.2.1,(el Z45 v4 v3).2.2.2.2.2.2.2.1,(el Z45 v4 v3).2.2.2.2.2.2.2.2.1,(el Z45 v4 v3).2.2.2.2.2.2.2.2.2.1,(0:Int),()))))) (by kernel_rfl)))))
noncomputable def phys_rest.c5p (o21 r0:(List V45)) (r1:(List Int)) (v3:Int) (v4:(List V45)) (v5:(List Bool)):SL:=⟨[(0,(.val .own (0:Nat))),(1,(.val .own (1:Nat))),(4,(.val .own (2:Nat))),(5,(.val T2 v3)),(6,(.val .ptr ⟨3,0,(0:Int),0,0⟩)),(13,(.val .own (0:Nat))),(14,(.val T2 (len r0))),(15,(.val T2 v3))],[(0,.row T45 o21 46),(1,.row T2 r1 3),(2,.row T4 v5 4),(3,.cells T45 (el Z45 v4 v3))]⟩
noncomputable def phys_rest.c5q (o21 r0:(List V45)) (r1:(List Int)) (v3:Int) (v5:(List Bool)) (o:Bool):SL:=(fun v=>⟨[(0,(.val .own (0:Nat))),(1,(.val .own (1:Nat))),(4,(.val .own (2:Nat))),(5,(.val T2 v3)),(13,(.val .own (0:Nat))),(14,(.val T2 (len r0))),(15,(.val T2 v3)),(70,(.val T4 v))],[(0,.row T45 o21 46),(1,.row T2 r1 3),(2,.row T4 v5 4)]⟩) o
noncomputable def phys_rest.c5x (o:Bool):Ex:=(fun _=>.normal) o
noncomputable def phys_rest.c5n (o:Bool):Nat:=(fun _=>3) o
theorem phys_rest.c5_ok (k:Nat) (o21 r0:(List V45)) (r1:(List Int)) (v3:Int) (v4:(List V45)) (v5:(List Bool)):Owp (phys_rest.c5 k o21 v3 v4) fun o=>Triple PR (phys_rest.cx k) (sub phys_rest.code [1,0,1,0,0,1,1,0,0,1,1,0]) 4 (phys_rest.c5p o21 r0 r1 v3 v4 v5) (phys_rest.c5x o) (phys_rest.c5n o) (phys_rest.c5q o21 r0 r1 v3 v5 o):=by
 unfold phys_rest.c5; exact
  oF (fun e23 =>
  oF (fun e24 =>
  oS (tW (phys_rest.cok k) hmix [tT,tT,tT,tT,fF,fF,fF,fF,fF,fF,fF] [] [(0,0),(1,1),(2,2)] (via (finP (aI (aI (aI (aI (aI (aI (aI (aI (aI (aI (aI tv0 e23) e23) e23) e23) (congrArg not e24)) (congrArg not e24)) (congrArg not e24)) (congrArg not e24)) (congrArg not e24)) (congrArg not e24)) (congrArg not e24)) .normal [(0,0),(1,1),(2,2)] (phys_rest.c5q o21 r0 r1 v3 v5 false)) (by kernel_rfl)))) (fun e24 =>
  oR fun h25 =>
  oS (tW (phys_rest.cok k) hmix [tT,tT,tT,tT,tT,tT,tT,tT,tT,tT,tT] [] [(0,0),(1,1),(2,2)] (via (finP (aI (aI (aI (aI (aI (aI (aI (aI (aI (aI (aI tv0 e23) e23) e23) e23) (congrArg not e24)) (congrArg not e24)) (aI (congrArg not e24) h25)) (congrArg not e24)) (aI (congrArg not e24) h25)) (congrArg not e24)) (congrArg not e24)) .normal [(0,0),(1,1),(2,2)] (phys_rest.c5q o21 r0 r1 v3 v5 (ilt (el Z45 o21 v3).2.2.2.2.2.2.2.2.2.2.1 (30:Int)))) (by kernel_rfl))))) (fun e23 =>
  oS (tW (phys_rest.cok k) hmix [fF,fF,fF,fF,fF,fF,fF,fF,fF,fF,fF] [] [(0,0),(1,1),(2,2)] (via (finP (aI (aI (aI (aI (aI (aI (aI (aI (aI (aI (aI tv0 e23) e23) e23) e23) ff) ff) ff) ff) ff) ff) ff) .normal [(0,0),(1,1),(2,2)] (phys_rest.c5q o21 r0 r1 v3 v5 false)) (by kernel_rfl))))
noncomputable def phys_rest.c1p (r0:(List V45)) (r1:(List Int)) (v3:Int) (v4:(List V45)) (v5:(List Bool)):SL:=⟨[(0,(.val .own (0:Nat))),(1,(.val .own (1:Nat))),(4,(.val .own (2:Nat))),(13,(.val .own (0:Nat))),(14,(.val T2 (len r0))),(15,(.val T2 v3))],[(0,.row T45 v4 46),(1,.row T2 r1 3),(2,.row T4 v5 4)]⟩
noncomputable def phys_rest.c1q (r1:(List Int)) (o:((List V45) × (List Bool))):SL:=(fun v=>⟨[(0,(.val .own (0:Nat))),(1,(.val .own (1:Nat))),(4,(.val .own (2:Nat)))],[(0,.row T45 v.1 46),(1,.row T2 r1 3),(2,.row T4 v.2 4)]⟩) o
noncomputable def phys_rest.c1x (o:((List V45) × (List Bool))):Ex:=(fun _=>(.exit 0)) o
noncomputable def phys_rest.c1n (o:((List V45) × (List Bool))):Nat:=(fun _=>3) o
theorem phys_rest.c1_ok (k:Nat) (r0:(List V45)) (r1:(List Int)):∀ (n:Nat) (v3:Int) (v4:(List V45)) (v5:(List Bool)),Owp (phys_rest.c1 k r0 r1 n v3 v4 v5) fun o=>LTriple PR (phys_rest.cx k) (sub phys_rest.code [1,0,1,0,0]) 3 (phys_rest.c1p r0 r1 v3 v4 v5) (phys_rest.c1x o) (phys_rest.c1n o) (phys_rest.c1q r1 o)
 | 0,_,_,_=>fun _ h=>nomatch h
 | n+1,v3,v4,v5=>Owp.of (phys_rest.c1.eq_2 ..) (
  oF (fun e6 =>
  oR fun h7 =>
  oB fun o9 e10 =>
  oB fun o21 e22 =>
  oB fun o26 e27 =>
  oF (fun e28 =>
  oR fun h29 =>
  oR fun h30 =>
  fun y hy=>loop_back (phys_rest.cok k) hmix 3 (phys_rest.c1p r0 r1 (iadd .i64 v3 (1:Int)) o21 (st v5 (el (0:Int) r1 v3) false)) [tT,.cutR 5 ⟨[],[(0,0),(1,1),(2,2),(3,7)],(phys_rest.c2p r0 r1 v3 v4 v5),4,.normal,(phys_rest.c2q r0 r1 v3 v4 v5 o9),4⟩,.cut ⟨[],[(0,0),(1,1),(2,2),(3,3)],(phys_rest.c3p o9 r0 r1 v3 v4 v5),4,.normal,(phys_rest.c3q r0 r1 v3 v4 v5 o21),4⟩,.cutR 8 ⟨[],[(0,0),(1,1),(2,2),(3,3)],(phys_rest.c5p o21 r0 r1 v3 v4 v5),4,.normal,(phys_rest.c5q o21 r0 r1 v3 v5 o26),3⟩,tT] [] [(0,0),(1,1),(2,2)] (via (cutP (aI (aI (aI tv0 e6) h7) h7) [(0,0),(1,1),(2,2),(3,7)] (phys_rest.c2p r0 r1 v3 v4 v5) (((phys_rest.c2_ok k r0 r1 v3 v4 v5).ap e10)) (cutP tv0 [(0,0),(1,1),(2,2),(3,3)] (phys_rest.c3p o9 r0 r1 v3 v4 v5) (((phys_rest.c3_ok k o9 r0 r1 v3 v4 v5).ap e22)) (cutP tv0 [(0,0),(1,1),(2,2),(3,3)] (phys_rest.c5p o21 r0 r1 v3 v4 v5) (((phys_rest.c5_ok k o21 r0 r1 v3 v4 v5).ap e27)) (finP (aI (aI (aI (aI (aI tv0 e28) h29) h29) h30) h30) .normal [(0,0),(1,1),(2,2)] (phys_rest.c1p r0 r1 (iadd .i64 v3 (1:Int)) o21 (st v5 (el (0:Int) r1 v3) false)))))) (by kernel_rfl)) ((phys_rest.c1_ok k r0 r1 n (iadd .i64 v3 (1:Int)) o21 (st v5 (el (0:Int) r1 v3) false)).ap hy)) (fun e28 =>
  fun y hy=>loop_back (phys_rest.cok k) hmix 3 (phys_rest.c1p r0 r1 (iadd .i64 v3 (1:Int)) o21 v5) [tT,.cutR 5 ⟨[],[(0,0),(1,1),(2,2),(3,7)],(phys_rest.c2p r0 r1 v3 v4 v5),4,.normal,(phys_rest.c2q r0 r1 v3 v4 v5 o9),4⟩,.cut ⟨[],[(0,0),(1,1),(2,2),(3,3)],(phys_rest.c3p o9 r0 r1 v3 v4 v5),4,.normal,(phys_rest.c3q r0 r1 v3 v4 v5 o21),4⟩,.cutR 8 ⟨[],[(0,0),(1,1),(2,2),(3,3)],(phys_rest.c5p o21 r0 r1 v3 v4 v5),4,.normal,(phys_rest.c5q o21 r0 r1 v3 v5 o26),3⟩,fF] [] [(0,0),(1,1),(2,2)] (via (cutP (aI (aI (aI tv0 e6) h7) h7) [(0,0),(1,1),(2,2),(3,7)] (phys_rest.c2p r0 r1 v3 v4 v5) (((phys_rest.c2_ok k r0 r1 v3 v4 v5).ap e10)) (cutP tv0 [(0,0),(1,1),(2,2),(3,3)] (phys_rest.c3p o9 r0 r1 v3 v4 v5) (((phys_rest.c3_ok k o9 r0 r1 v3 v4 v5).ap e22)) (cutP tv0 [(0,0),(1,1),(2,2),(3,3)] (phys_rest.c5p o21 r0 r1 v3 v4 v5) (((phys_rest.c5_ok k o21 r0 r1 v3 v4 v5).ap e27)) (finP (aI tv0 e28) .normal [(0,0),(1,1),(2,2)] (phys_rest.c1p r0 r1 (iadd .i64 v3 (1:Int)) o21 v5))))) (by kernel_rfl)) ((phys_rest.c1_ok k r0 r1 n (iadd .i64 v3 (1:Int)) o21 v5).ap hy))) (fun e6 =>
  oS (loop_exit (phys_rest.cok k) hmix [fF] [] [(0,0),(1,1),(2,2)] (exne 0) (via (finP (aI tv0 e6) (.exit 0) [(0,0),(1,1),(2,2)] (phys_rest.c1q r1 (v4,v5))) (by kernel_rfl)))))
noncomputable def phys_rest.c7p (o31:((List V45) × (List Bool))) (r1:(List Int)) (v33:Int) (v34:(List V45)):SL:=⟨[(0,(.val .own (0:Nat))),(1,(.val .own (1:Nat))),(4,(.val .own (2:Nat))),(7,(.val T2 v33)),(8,(.val .ptr ⟨3,0,(0:Int),0,0⟩)),(78,(.val .own (0:Nat))),(79,(.val T2 (len o31.1))),(80,(.val T2 v33))],[(0,.row T45 v34 46),(1,.row T2 r1 3),(2,.row T4 o31.2 4),(3,.cells T45 (el Z45 v34 v33))]⟩
noncomputable def phys_rest.c7q (o31:((List V45) × (List Bool))) (r1:(List Int)) (v33:Int) (v34:(List V45)) (o:Bool):SL:=(fun v=>⟨[(0,(.val .own (0:Nat))),(1,(.val .own (1:Nat))),(4,(.val .own (2:Nat))),(7,(.val T2 v33)),(78,(.val .own (0:Nat))),(79,(.val T2 (len o31.1))),(80,(.val T2 v33)),(96,(.val T4 v))],[(0,.row T45 v34 46),(1,.row T2 r1 3),(2,.row T4 o31.2 4)]⟩) o
noncomputable def phys_rest.c7x (o:Bool):Ex:=(fun _=>.normal) o
noncomputable def phys_rest.c7n (o:Bool):Nat:=(fun _=>3) o
theorem phys_rest.c7_ok (k:Nat) (o31:((List V45) × (List Bool))) (r1:(List Int)) (v33:Int) (v34:(List V45)):Owp (phys_rest.c7 k o31 r1 v33 v34) fun o=>Triple PR (phys_rest.cx k) (sub phys_rest.code [1,1,1,0,0,1,1,0,0,1,0]) 4 (phys_rest.c7p o31 r1 v33 v34) (phys_rest.c7x o) (phys_rest.c7n o) (phys_rest.c7q o31 r1 v33 v34 o):=by
 unfold phys_rest.c7; exact
  oF (fun e37 =>
  oR fun h38 =>
  oR fun h39 =>
  oS (tW (phys_rest.cok k) hmix [tT,tT,tT,tT,tT,tT,tT,tT] [] [(0,0),(1,1),(2,2)] (via (finP (aI (aI (aI (aI (aI (aI (aI (aI tv0 e37) e37) e37) (aI e37 h38)) (aI e37 h38)) (aI e37 h39)) (aI e37 h39)) e37) .normal [(0,0),(1,1),(2,2)] (phys_rest.c7q o31 r1 v33 v34 (el false o31.2 (el (0:Int) r1 v33)))) (by kernel_rfl)))) (fun e37 =>
  oS (tW (phys_rest.cok k) hmix [fF,fF,fF,fF,fF,fF,fF,fF] [] [(0,0),(1,1),(2,2)] (via (finP (aI (aI (aI (aI (aI (aI (aI (aI tv0 e37) e37) e37) e37) e37) e37) e37) e37) .normal [(0,0),(1,1),(2,2)] (phys_rest.c7q o31 r1 v33 v34 false)) (by kernel_rfl))))
noncomputable def phys_rest.c6p (o31:((List V45) × (List Bool))) (r1:(List Int)) (v33:Int) (v34:(List V45)):SL:=⟨[(0,(.val .own (0:Nat))),(1,(.val .own (1:Nat))),(4,(.val .own (2:Nat))),(78,(.val .own (0:Nat))),(79,(.val T2 (len o31.1))),(80,(.val T2 v33))],[(0,.row T45 v34 46),(1,.row T2 r1 3),(2,.row T4 o31.2 4)]⟩
noncomputable def phys_rest.c6q (r1:(List Int)) (o:(List V45)):SL:=(fun v=>⟨[],[(0,.row T45 v 46),(1,.row T2 r1 3)]⟩) o
noncomputable def phys_rest.c6x (o:(List V45)):Ex:=(fun _=>(.exit 3)) o
noncomputable def phys_rest.c6n (o:(List V45)):Nat:=(fun _=>2) o
theorem phys_rest.c6_ok (k:Nat) (o31:((List V45) × (List Bool))) (r1:(List Int)):∀ (n:Nat) (v33:Int) (v34:(List V45)),Owp (phys_rest.c6 k o31 r1 n v33 v34) fun o=>LTriple PR (phys_rest.cx k) (sub phys_rest.code [1,1,1,0,0]) 3 (phys_rest.c6p o31 r1 v33 v34) (phys_rest.c6x o) (phys_rest.c6n o) (phys_rest.c6q r1 o)
 | 0,_,_=>fun _ h=>nomatch h
 | n+1,v33,v34=>Owp.of (phys_rest.c6.eq_2 ..) (
  oF (fun e35 =>
  oR fun h36 =>
  oB fun o40 e41 =>
  oF (fun e42 =>
  oR fun h43 =>
  oR fun h44 =>
  fun y hy=>loop_back (phys_rest.cok k) hmix 3 (phys_rest.c6p o31 r1 (iadd .i64 v33 (1:Int)) (st (st (st v34 v33 ((el Z45 v34 v33).1,(el Z45 v34 v33).2.1,(el Z45 v34 v33).2.2.1,(el Z45 v34 v33).2.2.2.1,(el Z45 v34 v33).2.2.2.2.1,(el Z45 v34 v33).2.2.2.2.2.1,(el Z45 v34 v33).2.2.2.2.2.2.1,(el Z45 v34 v33).2.2.2.2.2.2.2.1,(el Z45 v34 v33).2.2.2.2.2.2.2.2.1,true,(el Z45 v34 v33).2.2.2.2.2.2.2.2.2.2)) v33 ((el Z45 (st v34 v33 ((el Z45 v34 v33).1,(el Z45 v34 v33).2.1,(el Z45 v34 v33).2.2.1,(el Z45 v34 v33).2.2.2.1,(el Z45 v34 v33).2.2.2.2.1,(el Z45 v34 v33).2.2.2.2.2.1,(el Z45 v34 v33).2.2.2.2.2.2.1,(el Z45 v34 v33).2.2.2.2.2.2.2.1,(el Z45 v34 v33).2.2.2.2.2.2.2.2.1,true,(el Z45 v34 v33).2.2.2.2.2.2.2.2.2.2)) v33).1,((0:Int),(0:Int),()),(el Z45 (st v34 v33 ((el Z45 v34 v33).1,(el Z45 v34 v33).2.1,(el Z45 v34 v33).2.2.1,(el Z45 v34 v33).2.2.2.1,(el Z45 v34 v33).2.2.2.2.1,(el Z45 v34 v33).2.2.2.2.2.1,(el Z45 v34 v33).2.2.2.2.2.2.1,(el Z45 v34 v33).2.2.2.2.2.2.2.1,(el Z45 v34 v33).2.2.2.2.2.2.2.2.1,true,(el Z45 v34 v33).2.2.2.2.2.2.2.2.2.2)) v33).2.2)) v33 ((el Z45 (st (st v34 v33 ((el Z45 v34 v33).1,(el Z45 v34 v33).2.1,(el Z45 v34 v33).2.2.1,(el Z45 v34 v33).2.2.2.1,(el Z45 v34 v33).2.2.2.2.1,(el Z45 v34 v33).2.2.2.2.2.1,(el Z45 v34 v33).2.2.2.2.2.2.1,(el Z45 v34 v33).2.2.2.2.2.2.2.1,(el Z45 v34 v33).2.2.2.2.2.2.2.2.1,true,(el Z45 v34 v33).2.2.2.2.2.2.2.2.2.2)) v33 ((el Z45 (st v34 v33 ((el Z45 v34 v33).1,(el Z45 v34 v33).2.1,(el Z45 v34 v33).2.2.1,(el Z45 v34 v33).2.2.2.1,(el Z45 v34 v33).2.2.2.2.1,(el Z45 v34 v33).2.2.2.2.2.1,(el Z45 v34 v33).2.2.2.2.2.2.1,(el Z45 v34 v33).2.2.2.2.2.2.2.1,(el Z45 v34 v33).2.2.2.2.2.2.2.2.1,true,(el Z45 v34 v33).2.2.2.2.2.2.2.2.2.2)) v33).1,((0:Int),(0:Int),()),(el Z45 (st v34 v33 ((el Z45 v34 v33).1,(el Z45 v34 v33).2.1,(el Z45 v34 v33).2.2.1,(el Z45 v34 v33).2.2.2.1,(el Z45 v34 v33).2.2.2.2.1,(el Z45 v34 v33).2.2.2.2.2.1,(el Z45 v34 v33).2.2.2.2.2.2.1,(el Z45 v34 v33).2.2.2.2.2.2.2.1,(el Z45 v34 v33).2.2.2.2.2.2.2.2.1,true,(el Z45 v34 v33).2.2.2.2.2.2.2.2.2.2)) v33).2.2)) v33).1,(el Z45 (st (st v34 v33 ((el Z45 v34 v33).1,(el Z45 v34 v33).2.1,(el Z45 v34 v33).2.2.1,(el Z45 v34 v33).2.2.2.1,(el Z45 v34 v33).2.2.2.2.1,(el Z45 v34 v33).2.2.2.2.2.1,(el Z45 v34 v33).2.2.2.2.2.2.1,(el Z45 v34 v33).2.2.2.2.2.2.2.1,(el Z45 v34 v33).2.2.2.2.2.2.2.2.1,true,(el Z45 v34 v33).2.2.2.2.2.2.2.2.2.2)) v33 ((el Z45 (st v34 v33 ((el Z45 v34 v33).1,(el Z45 v34 v33).2.1,(el Z45 v34 v33).2.2.1,(el Z45 v34 v33).2.2.2.1,(el Z45 v34 v33).2.2.2.2.1,(el Z45 v34 v33).2.2.2.2.2.1,(el Z45 v34 v33).2.2.2.2.2.2.1,(el Z45 v34 v33).2.2.2.2.2.2.2.1,(el Z45 v34 v33).2.2.2.2.2.2.2.2.1,true,(el Z45 v34 v33).2.2.2.2.2.2.2.2.2.2)) v33).1,((0:Int),(0:Int),()),(el Z45 (st v34 v33 ((el Z45 v34 v33).1,(el Z45 v34 v33).2.1,(el Z45 v34 v33).2.2.1,(el Z45 v34 v33).2.2.2.1,(el Z45 v34 v33).2.2.2.2.1,(el Z45 v34 v33).2.2.2.2.2.1,(el Z45 v34 v33).2.2.2.2.2.2.1,(el Z45 v34 v33).2.2.2.2.2.2.2.1,(el Z45 v34 v33).2.2.2.2.2.2.2.2.1,true,(el Z45 v34 v33).2.2.2.2.2.2.2.2.2.2)) v33).2.2)) v33).2.1,(el Z45 (st (st v34 v33 ((el Z45 v34 v33).1,(el Z45 v34 v33).2.1,(el Z45 v34 v33).2.2.1,(el Z45 v34 v33).2.2.2.1,(el Z45 v34 v33).2.2.2.2.1,(el Z45 v34 v33).2.2.2.2.2.1,(el Z45 v34 v33).2.2.2.2.2.2.1,(el Z45 v34 v33).2.2.2.2.2.2.2.1,(el Z45 v34 v33).2.2.2.2.2.2.2.2.1,true,(el Z45 v34 v33).2.2.2.2.2.2.2.2.2.2)) v33 ((el Z45 (st v34 v33 ((el Z45 v34 v33).1,(el Z45 v34 v33).2.1,(el Z45 v34 v33).2.2.1,(el Z45 v34 v33).2.2.2.1,(el Z45 v34 v33).2.2.2.2.1,(el Z45 v34 v33).2.2.2.2.2.1,(el Z45 v34 v33).2.2.2.2.2.2.1,(el Z45 v34 v33).2.2.2.2.2.2.2.1,(el Z45 v34 v33).2.2.2.2.2.2.2.2.1,true,(el Z45 v34 v33).2.2.2.2.2.2.2.2.2.2)) v33).1,((0:Int),(0:Int),()),(el Z45 (st v34 v33 ((el Z45 v34 v33).1,(el Z45 v34 v33).2.1,(el Z45 v34 v33).2.2.1,(el Z45 v34 v33).2.2.2.1,(el Z45 v34 v33).2.2.2.2.1,(el Z45 v34 v33).2.2.2.2.2.1,(el Z45 v34 v33).2.2.2.2.2.2.1,(el Z45 v34 v33).2.2.2.2.2.2.2.1,(el Z45 v34 v33).2.2.2.2.2.2.2.2.1,true,(el Z45 v34 v33).2.2.2.2.2.2.2.2.2.2)) v33).2.2)) v33).2.2.1,(0:Int),(el Z45 (st (st v34 v33 ((el Z45 v34 v33).1,(el Z45 v34 v33).2.1,(el Z45 v34 v33).2.2.1,(el Z45 v34 v33).2.2.2.1,(el Z45 v34 v33).2.2.2.2.1,(el Z45 v34 v33).2.2.2.2.2.1,(el Z45 v34 v33).2.2.2.2.2.2.1,(el Z45 v34 v33).2.2.2.2.2.2.2.1,(el Z45 v34 v33).2.2.2.2.2.2.2.2.1,true,(el Z45 v34 v33).2.2.2.2.2.2.2.2.2.2)) v33 ((el Z45 (st v34 v33 ((el Z45 v34 v33).1,(el Z45 v34 v33).2.1,(el Z45 v34 v33).2.2.1,(el Z45 v34 v33).2.2.2.1,(el Z45 v34 v33).2.2.2.2.1,(el Z45 v34 v33).2.2.2.2.2.1,(el Z45 v34 v33).2.2.2.2.2.2.1,(el Z45 v34 v33).2.2.2.2.2.2.2.1,(el Z45 v34 v33).2.2.2.2.2.2.2.2.1,true,(el Z45 v34 v33).2.2.2.2.2.2.2.2.2.2)) v33).1,((0:Int),(0:Int),()),(el Z45 (st v34 v33 ((el Z45 v34 v33).1,(el Z45 v34 v33).2.1,(el Z45 v34 v33).2.2.1,(el Z45 v34 v33).2.2.2.1,(el Z45 v34 v33).2.2.2.2.1,(el Z45 v34 v33).2.2.2.2.2.1,(el Z45 v34 v33).2.2.2.2.2.2.1,(el Z45 v34 v33).2.2.2.2.2.2.2.1,(el Z45 v34 v33).2.2.2.2.2.2.2.2.1,true,(el Z45 v34 v33).2.2.2.2.2.2.2.2.2.2)) v33).2.2)) v33).2.2.2.2))) [tT,.cutR 14 ⟨[],[(0,0),(1,1),(2,2),(3,7)],(phys_rest.c7p o31 r1 v33 v34),4,.normal,(phys_rest.c7q o31 r1 v33 v34 o40),3⟩,tT] [] [(0,0),(1,1),(2,2)] (via (cutP (aI (aI (aI tv0 e35) h36) h36) [(0,0),(1,1),(2,2),(3,7)] (phys_rest.c7p o31 r1 v33 v34) (((phys_rest.c7_ok k o31 r1 v33 v34).ap e41)) (finP (aI (aI (aI (aI (aI (aI (aI tv0 e42) h36) h36) h43) h43) h44) h44) .normal [(0,0),(1,1),(2,2)] (phys_rest.c6p o31 r1 (iadd .i64 v33 (1:Int)) (st (st (st v34 v33 ((el Z45 v34 v33).1,(el Z45 v34 v33).2.1,(el Z45 v34 v33).2.2.1,(el Z45 v34 v33).2.2.2.1,(el Z45 v34 v33).2.2.2.2.1,(el Z45 v34 v33).2.2.2.2.2.1,(el Z45 v34 v33).2.2.2.2.2.2.1,(el Z45 v34 v33).2.2.2.2.2.2.2.1,(el Z45 v34 v33).2.2.2.2.2.2.2.2.1,true,(el Z45 v34 v33).2.2.2.2.2.2.2.2.2.2)) v33 ((el Z45 (st v34 v33 ((el Z45 v34 v33).1,(el Z45 v34 v33).2.1,(el Z45 v34 v33).2.2.1,(el Z45 v34 v33).2.2.2.1,(el Z45 v34 v33).2.2.2.2.1,(el Z45 v34 v33).2.2.2.2.2.1,(el Z45 v34 v33).2.2.2.2.2.2.1,(el Z45 v34 v33).2.2.2.2.2.2.2.1,(el Z45 v34 v33).2.2.2.2.2.2.2.2.1,true,(el Z45 v34 v33).2.2.2.2.2.2.2.2.2.2)) v33).1,((0:Int),(0:Int),()),(el Z45 (st v34 v33 ((el Z45 v34 v33).1,(el Z45 v34 v33).2.1,(el Z45 v34 v33).2.2.1,(el Z45 v34 v33).2.2.2.1,(el Z45 v34 v33).2.2.2.2.1,(el Z45 v34 v33).2.2.2.2.2.1,(el Z45 v34 v33).2.2.2.2.2.2.1,(el Z45 v34 v33).2.2.2.2.2.2.2.1,(el Z45 v34 v33).2.2.2.2.2.2.2.2.1,true,(el Z45 v34 v33).2.2.2.2.2.2.2.2.2.2)) v33).2.2)) v33 ((el Z45 (st (st v34 v33 ((el Z45 v34 v33).1,(el Z45 v34 v33).2.1,(el Z45 v34 v33).2.2.1,(el Z45 v34 v33).2.2.2.1,(el Z45 v34 v33).2.2.2.2.1,(el Z45 v34 v33).2.2.2.2.2.1,(el Z45 v34 v33).2.2.2.2.2.2.1,(el Z45 v34 v33).2.2.2.2.2.2.2.1,(el Z45 v34 v33).2.2.2.2.2.2.2.2.1,true,(el Z45 v34 v33).2.2.2.2.2.2.2.2.2.2)) v33 ((el Z45 (st v34 v33 ((el Z45 v34 v33).1,(el Z45 v34 v33).2.1,(el Z45 v34 v33).2.2.1,(el Z45 v34 v33).2.2.2.1,(el Z45 v34 v33).2.2.2.2.1,(el Z45 v34 v33).2.2.2.2.2.1,(el Z45 v34 v33).2.2.2.2.2.2.1,(el Z45 v34 v33).2.2.2.2.2.2.2.1,(el Z45 v34 v33).2.2.2.2.2.2.2.2.1,true,(el Z45 v34 v33).2.2.2.2.2.2.2.2.2.2)) v33).1,((0:Int),(0:Int),()),(el Z45 (st v34 v33 ((el Z45 v34 v33).1,(el Z45 v34 v33).2.1,(el Z45 v34 v33).2.2.1,(el Z45 v34 v33).2.2.2.1,(el Z45 v34 v33).2.2.2.2.1,(el Z45 v34 v33).2.2.2.2.2.1,(el Z45 v34 v33).2.2.2.2.2.2.1,(el Z45 v34 v33).2.2.2.2.2.2.2.1,(el Z45 v34 v33).2.2.2.2.2.2.2.2.1,true,(el Z45 v34 v33).2.2.2.2.2.2.2.2.2.2)) v33).2.2)) v33).1,(el Z45 (st (st v34 v33 ((el Z45 v34 v33).1,(el Z45 v34 v33).2.1,(el Z45 v34 v33).2.2.1,(el Z45 v34 v33).2.2.2.1,(el Z45 v34 v33).2.2.2.2.1,(el Z45 v34 v33).2.2.2.2.2.1,(el Z45 v34 v33).2.2.2.2.2.2.1,(el Z45 v34 v33).2.2.2.2.2.2.2.1,(el Z45 v34 v33).2.2.2.2.2.2.2.2.1,true,(el Z45 v34 v33).2.2.2.2.2.2.2.2.2.2)) v33 ((el Z45 (st v34 v33 ((el Z45 v34 v33).1,(el Z45 v34 v33).2.1,(el Z45 v34 v33).2.2.1,(el Z45 v34 v33).2.2.2.1,(el Z45 v34 v33).2.2.2.2.1,(el Z45 v34 v33).2.2.2.2.2.1,(el Z45 v34 v33).2.2.2.2.2.2.1,(el Z45 v34 v33).2.2.2.2.2.2.2.1,(el Z45 v34 v33).2.2.2.2.2.2.2.2.1,true,(el Z45 v34 v33).2.2.2.2.2.2.2.2.2.2)) v33).1,((0:Int),(0:Int),()),(el Z45 (st v34 v33 ((el Z45 v34 v33).1,(el Z45 v34 v33).2.1,(el Z45 v34 v33).2.2.1,(el Z45 v34 v33).2.2.2.1,(el Z45 v34 v33).2.2.2.2.1,(el Z45 v34 v33).2.2.2.2.2.1,(el Z45 v34 v33).2.2.2.2.2.2.1,(el Z45 v34 v33).2.2.2.2.2.2.2.1,(el Z45 v34 v33).2.2.2.2.2.2.2.2.1,true,(el Z45 v34 v33).2.2.2.2.2.2.2.2.2.2)) v33).2.2)) v33).2.1,(el Z45 (st (st v34 v33 ((el Z45 v34 v33).1,(el Z45 v34 v33).2.1,(el Z45 v34 v33).2.2.1,(el Z45 v34 v33).2.2.2.1,(el Z45 v34 v33).2.2.2.2.1,(el Z45 v34 v33).2.2.2.2.2.1,(el Z45 v34 v33).2.2.2.2.2.2.1,(el Z45 v34 v33).2.2.2.2.2.2.2.1,(el Z45 v34 v33).2.2.2.2.2.2.2.2.1,true,(el Z45 v34 v33).2.2.2.2.2.2.2.2.2.2)) v33 ((el Z45 (st v34 v33 ((el Z45 v34 v33).1,(el Z45 v34 v33).2.1,(el Z45 v34 v33).2.2.1,(el Z45 v34 v33).2.2.2.1,(el Z45 v34 v33).2.2.2.2.1,(el Z45 v34 v33).2.2.2.2.2.1,(el Z45 v34 v33).2.2.2.2.2.2.1,(el Z45 v34 v33).2.2.2.2.2.2.2.1,(el Z45 v34 v33).2.2.2.2.2.2.2.2.1,true,(el Z45 v34 v33).2.2.2.2.2.2.2.2.2.2)) v33).1,((0:Int),(0:Int),()),(el Z45 (st v34 v33 ((el Z45 v34 v33).1,(el Z45 v34 v33).2.1,(el Z45 v34 v33).2.2.1,(el Z45 v34 v33).2.2.2.1,(el Z45 v34 v33).2.2.2.2.1,(el Z45 v34 v33).2.2.2.2.2.1,(el Z45 v34 v33).2.2.2.2.2.2.1,(el Z45 v34 v33).2.2.2.2.2.2.2.1,(el Z45 v34 v33).2.2.2.2.2.2.2.2.1,true,(el Z45 v34 v33).2.2.2.2.2.2.2.2.2.2)) v33).2.2)) v33).2.2.1,(0:Int),(el Z45 (st (st v34 v33 ((el Z45 v34 v33).1,(el Z45 v34 v33).2.1,(el Z45 v34 v33).2.2.1,(el Z45 v34 v33).2.2.2.1,(el Z45 v34 v33).2.2.2.2.1,(el Z45 v34 v33).2.2.2.2.2.1,(el Z45 v34 v33).2.2.2.2.2.2.1,(el Z45 v34 v33).2.2.2.2.2.2.2.1,(el Z45 v34 v33).2.2.2.2.2.2.2.2.1,true,(el Z45 v34 v33).2.2.2.2.2.2.2.2.2.2)) v33 ((el Z45 (st v34 v33 ((el Z45 v34 v33).1,(el Z45 v34 v33).2.1,(el Z45 v34 v33).2.2.1,(el Z45 v34 v33).2.2.2.1,(el Z45 v34 v33).2.2.2.2.1,(el Z45 v34 v33).2.2.2.2.2.1,(el Z45 v34 v33).2.2.2.2.2.2.1,(el Z45 v34 v33).2.2.2.2.2.2.2.1,(el Z45 v34 v33).2.2.2.2.2.2.2.2.1,true,(el Z45 v34 v33).2.2.2.2.2.2.2.2.2.2)) v33).1,((0:Int),(0:Int),()),(el Z45 (st v34 v33 ((el Z45 v34 v33).1,(el Z45 v34 v33).2.1,(el Z45 v34 v33).2.2.1,(el Z45 v34 v33).2.2.2.1,(el Z45 v34 v33).2.2.2.2.1,(el Z45 v34 v33).2.2.2.2.2.1,(el Z45 v34 v33).2.2.2.2.2.2.1,(el Z45 v34 v33).2.2.2.2.2.2.2.1,(el Z45 v34 v33).2.2.2.2.2.2.2.2.1,true,(el Z45 v34 v33).2.2.2.2.2.2.2.2.2.2)) v33).2.2)) v33).2.2.2.2))))) (by kernel_rfl)) ((phys_rest.c6_ok k o31 r1 n (iadd .i64 v33 (1:Int)) (st (st (st v34 v33 ((el Z45 v34 v33).1,(el Z45 v34 v33).2.1,(el Z45 v34 v33).2.2.1,(el Z45 v34 v33).2.2.2.1,(el Z45 v34 v33).2.2.2.2.1,(el Z45 v34 v33).2.2.2.2.2.1,(el Z45 v34 v33).2.2.2.2.2.2.1,(el Z45 v34 v33).2.2.2.2.2.2.2.1,(el Z45 v34 v33).2.2.2.2.2.2.2.2.1,true,(el Z45 v34 v33).2.2.2.2.2.2.2.2.2.2)) v33 ((el Z45 (st v34 v33 ((el Z45 v34 v33).1,(el Z45 v34 v33).2.1,(el Z45 v34 v33).2.2.1,(el Z45 v34 v33).2.2.2.1,(el Z45 v34 v33).2.2.2.2.1,(el Z45 v34 v33).2.2.2.2.2.1,(el Z45 v34 v33).2.2.2.2.2.2.1,(el Z45 v34 v33).2.2.2.2.2.2.2.1,(el Z45 v34 v33).2.2.2.2.2.2.2.2.1,true,(el Z45 v34 v33).2.2.2.2.2.2.2.2.2.2)) v33).1,((0:Int),(0:Int),()),(el Z45 (st v34 v33 ((el Z45 v34 v33).1,(el Z45 v34 v33).2.1,(el Z45 v34 v33).2.2.1,(el Z45 v34 v33).2.2.2.1,(el Z45 v34 v33).2.2.2.2.1,(el Z45 v34 v33).2.2.2.2.2.1,(el Z45 v34 v33).2.2.2.2.2.2.1,(el Z45 v34 v33).2.2.2.2.2.2.2.1,(el Z45 v34 v33).2.2.2.2.2.2.2.2.1,true,(el Z45 v34 v33).2.2.2.2.2.2.2.2.2.2)) v33).2.2)) v33 ((el Z45 (st (st v34 v33 ((el Z45 v34 v33).1,(el Z45 v34 v33).2.1,(el Z45 v34 v33).2.2.1,(el Z45 v34 v33).2.2.2.1,(el Z45 v34 v33).2.2.2.2.1,(el Z45 v34 v33).2.2.2.2.2.1,(el Z45 v34 v33).2.2.2.2.2.2.1,(el Z45 v34 v33).2.2.2.2.2.2.2.1,(el Z45 v34 v33).2.2.2.2.2.2.2.2.1,true,(el Z45 v34 v33).2.2.2.2.2.2.2.2.2.2)) v33 ((el Z45 (st v34 v33 ((el Z45 v34 v33).1,(el Z45 v34 v33).2.1,(el Z45 v34 v33).2.2.1,(el Z45 v34 v33).2.2.2.1,(el Z45 v34 v33).2.2.2.2.1,(el Z45 v34 v33).2.2.2.2.2.1,(el Z45 v34 v33).2.2.2.2.2.2.1,(el Z45 v34 v33).2.2.2.2.2.2.2.1,(el Z45 v34 v33).2.2.2.2.2.2.2.2.1,true,(el Z45 v34 v33).2.2.2.2.2.2.2.2.2.2)) v33).1,((0:Int),(0:Int),()),(el Z45 (st v34 v33 ((el Z45 v34 v33).1,(el Z45 v34 v33).2.1,(el Z45 v34 v33).2.2.1,(el Z45 v34 v33).2.2.2.1,(el Z45 v34 v33).2.2.2.2.1,(el Z45 v34 v33).2.2.2.2.2.1,(el Z45 v34 v33).2.2.2.2.2.2.1,(el Z45 v34 v33).2.2.2.2.2.2.2.1,(el Z45 v34 v33).2.2.2.2.2.2.2.2.1,true,(el Z45 v34 v33).2.2.2.2.2.2.2.2.2.2)) v33).2.2)) v33).1,(el Z45 (st (st v34 v33 ((el Z45 v34 v33).1,(el Z45 v34 v33).2.1,(el Z45 v34 v33).2.2.1,(el Z45 v34 v33).2.2.2.1,(el Z45 v34 v33).2.2.2.2.1,(el Z45 v34 v33).2.2.2.2.2.1,(el Z45 v34 v33).2.2.2.2.2.2.1,(el Z45 v34 v33).2.2.2.2.2.2.2.1,(el Z45 v34 v33).2.2.2.2.2.2.2.2.1,true,(el Z45 v34 v33).2.2.2.2.2.2.2.2.2.2)) v33 ((el Z45 (st v34 v33 ((el Z45 v34 v33).1,(el Z45 v34 v33).2.1,(el Z45 v34 v33).2.2.1,(el Z45 v34 v33).2.2.2.1,(el Z45 v34 v33).2.2.2.2.1,(el Z45 v34 v33).2.2.2.2.2.1,(el Z45 v34 v33).2.2.2.2.2.2.1,(el Z45 v34 v33).2.2.2.2.2.2.2.1,(el Z45 v34 v33).2.2.2.2.2.2.2.2.1,true,(el Z45 v34 v33).2.2.2.2.2.2.2.2.2.2)) v33).1,((0:Int),(0:Int),()),(el Z45 (st v34 v33 ((el Z45 v34 v33).1,(el Z45 v34 v33).2.1,(el Z45 v34 v33).2.2.1,(el Z45 v34 v33).2.2.2.1,(el Z45 v34 v33).2.2.2.2.1,(el Z45 v34 v33).2.2.2.2.2.1,(el Z45 v34 v33).2.2.2.2.2.2.1,(el Z45 v34 v33).2.2.2.2.2.2.2.1,(el Z45 v34 v33).2.2.2.2.2.2.2.2.1,true,(el Z45 v34 v33).2.2.2.2.2.2.2.2.2.2)) v33).2.2)) v33).2.1,(el Z45 (st (st v34 v33 ((el Z45 v34 v33).1,(el Z45 v34 v33).2.1,(el Z45 v34 v33).2.2.1,(el Z45 v34 v33).2.2.2.1,(el Z45 v34 v33).2.2.2.2.1,(el Z45 v34 v33).2.2.2.2.2.1,(el Z45 v34 v33).2.2.2.2.2.2.1,(el Z45 v34 v33).2.2.2.2.2.2.2.1,(el Z45 v34 v33).2.2.2.2.2.2.2.2.1,true,(el Z45 v34 v33).2.2.2.2.2.2.2.2.2.2)) v33 ((el Z45 (st v34 v33 ((el Z45 v34 v33).1,(el Z45 v34 v33).2.1,(el Z45 v34 v33).2.2.1,(el Z45 v34 v33).2.2.2.1,(el Z45 v34 v33).2.2.2.2.1,(el Z45 v34 v33).2.2.2.2.2.1,(el Z45 v34 v33).2.2.2.2.2.2.1,(el Z45 v34 v33).2.2.2.2.2.2.2.1,(el Z45 v34 v33).2.2.2.2.2.2.2.2.1,true,(el Z45 v34 v33).2.2.2.2.2.2.2.2.2.2)) v33).1,((0:Int),(0:Int),()),(el Z45 (st v34 v33 ((el Z45 v34 v33).1,(el Z45 v34 v33).2.1,(el Z45 v34 v33).2.2.1,(el Z45 v34 v33).2.2.2.1,(el Z45 v34 v33).2.2.2.2.1,(el Z45 v34 v33).2.2.2.2.2.1,(el Z45 v34 v33).2.2.2.2.2.2.1,(el Z45 v34 v33).2.2.2.2.2.2.2.1,(el Z45 v34 v33).2.2.2.2.2.2.2.2.1,true,(el Z45 v34 v33).2.2.2.2.2.2.2.2.2.2)) v33).2.2)) v33).2.2.1,(0:Int),(el Z45 (st (st v34 v33 ((el Z45 v34 v33).1,(el Z45 v34 v33).2.1,(el Z45 v34 v33).2.2.1,(el Z45 v34 v33).2.2.2.1,(el Z45 v34 v33).2.2.2.2.1,(el Z45 v34 v33).2.2.2.2.2.1,(el Z45 v34 v33).2.2.2.2.2.2.1,(el Z45 v34 v33).2.2.2.2.2.2.2.1,(el Z45 v34 v33).2.2.2.2.2.2.2.2.1,true,(el Z45 v34 v33).2.2.2.2.2.2.2.2.2.2)) v33 ((el Z45 (st v34 v33 ((el Z45 v34 v33).1,(el Z45 v34 v33).2.1,(el Z45 v34 v33).2.2.1,(el Z45 v34 v33).2.2.2.1,(el Z45 v34 v33).2.2.2.2.1,(el Z45 v34 v33).2.2.2.2.2.1,(el Z45 v34 v33).2.2.2.2.2.2.1,(el Z45 v34 v33).2.2.2.2.2.2.2.1,(el Z45 v34 v33).2.2.2.2.2.2.2.2.1,true,(el Z45 v34 v33).2.2.2.2.2.2.2.2.2.2)) v33).1,((0:Int),(0:Int),()),(el Z45 (st v34 v33 ((el Z45 v34 v33).1,(el Z45 v34 v33).2.1,(el Z45 v34 v33).2.2.1,(el Z45 v34 v33).2.2.2.1,(el Z45 v34 v33).2.2.2.2.1,(el Z45 v34 v33).2.2.2.2.2.1,(el Z45 v34 v33).2.2.2.2.2.2.1,(el Z45 v34 v33).2.2.2.2.2.2.2.1,(el Z45 v34 v33).2.2.2.2.2.2.2.2.1,true,(el Z45 v34 v33).2.2.2.2.2.2.2.2.2.2)) v33).2.2)) v33).2.2.2.2))).ap hy)) (fun e42 =>
  fun y hy=>loop_back (phys_rest.cok k) hmix 3 (phys_rest.c6p o31 r1 (iadd .i64 v33 (1:Int)) v34) [tT,.cutR 14 ⟨[],[(0,0),(1,1),(2,2),(3,7)],(phys_rest.c7p o31 r1 v33 v34),4,.normal,(phys_rest.c7q o31 r1 v33 v34 o40),3⟩,fF] [] [(0,0),(1,1),(2,2)] (via (cutP (aI (aI (aI tv0 e35) h36) h36) [(0,0),(1,1),(2,2),(3,7)] (phys_rest.c7p o31 r1 v33 v34) (((phys_rest.c7_ok k o31 r1 v33 v34).ap e41)) (finP (aI tv0 e42) .normal [(0,0),(1,1),(2,2)] (phys_rest.c6p o31 r1 (iadd .i64 v33 (1:Int)) v34))) (by kernel_rfl)) ((phys_rest.c6_ok k o31 r1 n (iadd .i64 v33 (1:Int)) v34).ap hy))) (fun e35 =>
  oS (loop_exit (phys_rest.cok k) hmix [fF] [] [(0,0),(1,1)] (exne 3) (via (finP (aI tv0 e35) (.exit 3) [(0,0),(1,1)] (phys_rest.c6q r1 v34)) (by kernel_rfl)))))
@[irreducible] noncomputable def phys_rest.P (k:Nat) (r0:(List V45)) (r1:(List Int)) (y:(List V45)) (w:List Ans) (c0:List Cmd):Prop:=exec PR (phys_rest.cx k) phys_rest.code 2 (entryH (phys_rest.h k) (r0,r1,())).st w (RetH (phys_rest.cx k) Tryz.f48 c0 (phys_rest.h k) (r0,r1,()) y)
theorem phys_rest.way (k:Nat) (r0:(List V45)) (r1:(List Int)):Owp (phys_rest k r0 r1) fun y=>∃ w c0,phys_rest.P k r0 r1 y w c0:=by
 unfold phys_rest; exact
  oB fun y1 e2 =>
  oB fun o31 e32 =>
  oB fun o45 e46 =>
  oS (⟨[tT,.res (.one (.ow T4 4)) y1,.cut ⟨[],[(0,0),(1,1),(2,5)],(phys_rest.c1p r0 r1 (0:Int) r0 y1),3,(.exit 0),(phys_rest.c1q r1 o31),3⟩,.cut ⟨[],[(0,0),(1,1),(2,2)],(phys_rest.c6p o31 r1 (0:Int) o31.1),3,(.exit 3),(phys_rest.c6q r1 o45),2⟩],[],via (cutP (aI tv0 e2) [(0,0),(1,1),(2,5)] (phys_rest.c1p r0 r1 (0:Int) r0 y1) (((phys_rest.c1_ok k r0 r1 k (0:Int) r0 y1).ap e32).triple) (cutP tv0 [(0,0),(1,1),(2,2)] (phys_rest.c6p o31 r1 (0:Int) o31.1) (((phys_rest.c6_ok k o31 r1 k (0:Int) o31.1).ap e46).triple) (rethP tv0 [(0,.row T45 o45 46),(1,.row T2 r1 3)] .none (():Unit)))) (by kernel_rfl)⟩)
theorem phys_rest.ok (k:Nat):HOk PR 48 (phys_rest.h k) :=
 fnH_ok (phys_rest.cok k) hmix Tryz.func48 (code:=phys_rest.code) (by kernel_rfl) (by kernel_rfl) (by kernel_rfl) (by kernel_rfl) (by kernel_rfl) (by kernel_rfl) (fun x=>Nat.le_of_ble_eq_true (by kernel_rfl)) fun x y hy=>match (phys_rest.way k x.1 x.2.1).ap hy with | ⟨ans,c0,h⟩=>⟨ans,c0,via h (by kernel_rfl)⟩
noncomputable def phys_Step.code:Code:=Func.cd Tryz.f21
noncomputable def phys_Step.c1 (k:Nat) (a0:V28) (y18:((List V45) × ((List V102) × Int))) (y20:(List Int)):Nat→Int→(List V45)→Option ((List V45))
 | 0,_,_=>none
 | n+1,v22,v23 =>
  bif' (ilt v22 (len y20))
  (req (inL v22 y20) <|req (inL v22 y18.1) <|bnd (fix_Mul k a0.2.2.2.2.1 (el 0 y20 v22)) fun y27 =>
  bnd (body_Move k (el Z45 y18.1 v22) y27) fun y29 =>
  req (room 120 v23 [y29]) <|phys_Step.c1 k a0 y18 y20 n (iadd .i64 v22 1) (v23++[y29]))
  (some v23)
noncomputable def phys_Step (k:Nat) (a0:V28):Option (V28 × Int) :=
 bnd (phys_Check k a0) fun y1 =>
 bif' (ine y1 0)
 (some (([],[],[],(0,0,()),0,()),y1))
 (bnd (slices_Clone k a0.2.1) fun y4 =>
  bnd (keep_Find k a0.1 a0.2.2.1) fun y6 =>
  bnd (slices_Clone_39 k a0.1) fun y8 =>
  bnd (phys_islands k y8 a0.2.1 y6.1) fun y10 =>
  bnd (phys_wake k y8 y10) fun y12 =>
  bnd (phys_fall k a0.2.2.2.1 a0.2.2.2.2.1 y12) fun y14 =>
  bnd (joint_Run_h k a0.2.1 a0.2.2.2.2.1 8 y14) fun y16 =>
  bnd (solve_Run_h k y16.1 a0.2.2.2.2.1 8 y6.1) fun y18 =>
  bnd (phys_parts k y18.1 a0.2.2.2.2.1) fun y20 =>
  bnd (phys_Step.c1 k a0 y18 y20 k 0 []) fun o32 =>
  bnd (phys_rest k o32 y10) fun y34 =>
  some ((y34,y4,y18.2.1,a0.2.2.2.1,a0.2.2.2.2.1,()),0))
noncomputable def phys_Step.sp (k:Nat):Go.Sx.Spec:=⟨(.pair T28 .unit),(.more (.dp T28) (.one (.dp T2))),fun x=>phys_Step k x.1,false⟩
noncomputable def phys_Step.cx (k:Nat):Go.Sx.Ctx:=⟨tys,[(36,phys_Check.sp k),(37,slices_Clone.sp k),(38,keep_Find.sp k),(39,slices_Clone_39.sp k),(40,phys_islands.sp k),(45,phys_parts.sp k),(47,fix_Mul.sp k),(46,body_Move.sp k)],eqs,101,0,[(41,phys_wake.h k),(42,phys_fall.h k),(43,joint_Run_h.h k),(44,solve_Run_h.h k),(48,phys_rest.h k)],true⟩
theorem phys_Step.cok (k:Nat):CtxOk PR (phys_Step.cx k):=ctx_ok tysOk eqsOk (fC (phys_Check.ok k) (fC (slices_Clone.ok k) (fC (keep_Find.ok k) (fC (slices_Clone_39.ok k) (fC (phys_islands.ok k) (fC (phys_parts.ok k) (fC (fix_Mul.ok k) (fC (body_Move.ok k) FnsOk.nil)))))))) (HsOk.cons (phys_wake.ok k) (HsOk.cons (phys_fall.ok k) (HsOk.cons (joint_Run_h.ok k) (HsOk.cons (solve_Run_h.ok k) (HsOk.cons (phys_rest.ok k) HsOk.nil)))))
noncomputable def phys_Step.c1p (a0:V28) (y4:(List V48)) (y10:(List Int)) (y18:((List V45) × ((List V102) × Int))) (y20:(List Int)) (v22:Int) (v23:(List V45)):SL:=⟨[(1,(.val .ptr ⟨0,0,(0:Int),0,0⟩)),(2,(.val .ptr ⟨1,0,(0:Int),0,0⟩)),(5,(.val .ptr ⟨2,0,(0:Int),0,0⟩)),(6,(.val (.slice T102) y18.2.1)),(8,(.val (.slice T45) y18.1)),(9,(.val .own (3:Nat))),(72,(.val .own (4:Nat))),(73,(.val T2 (len y20))),(74,(.val T2 v22))],[(0,.cells T28 a0),(1,.cells (.pair .nil (.pair .nil (.pair .nil (.pair T26 (.pair T2 .unit))))) ((),(),(),((0:Int),(0:Int),()),(0:Int),())),(2,.cells (.pair .own (.pair .own (.pair .nil (.pair T26 (.pair T2 .unit))))) ((5:Nat),(6:Nat),((),a0.2.2.2.1,a0.2.2.2.2.1,()))),(3,.row T2 y10 3),(4,.row T2 y20 3),(5,.row T45 v23 46),(6,.row T48 y4 49)]⟩
noncomputable def phys_Step.c1q (a0:V28) (y4:(List V48)) (y10:(List Int)) (y18:((List V45) × ((List V102) × Int))) (o:(List V45)):SL:=(fun v=>⟨[(2,(.val .ptr ⟨0,0,(0:Int),0,0⟩)),(5,(.val .ptr ⟨1,0,(0:Int),0,0⟩)),(6,(.val (.slice T102) y18.2.1)),(9,(.val .own (2:Nat)))],[(0,.cells (.pair .nil (.pair .nil (.pair .nil (.pair T26 (.pair T2 .unit))))) ((),(),(),((0:Int),(0:Int),()),(0:Int),())),(1,.cells (.pair .own (.pair .own (.pair .nil (.pair T26 (.pair T2 .unit))))) ((3:Nat),(4:Nat),((),a0.2.2.2.1,a0.2.2.2.2.1,()))),(2,.row T2 y10 3),(3,.row T45 v 46),(4,.row T48 y4 49)]⟩) o
noncomputable def phys_Step.c1x (o:(List V45)):Ex:=(fun _=>(.exit 0)) o
noncomputable def phys_Step.c1n (o:(List V45)):Nat:=(fun _=>5) o
theorem phys_Step.c1_ok (k:Nat) (a0:V28) (y4:(List V48)) (y10:(List Int)) (y18:((List V45) × ((List V102) × Int))) (y20:(List Int)):∀ (n:Nat) (v22:Int) (v23:(List V45)),Owp (phys_Step.c1 k a0 y18 y20 n v22 v23) fun o=>LTriple PR (phys_Step.cx k) (sub phys_Step.code [1,1,1,1,1,1,1,1,1,1,0,1,0,0]) 7 (phys_Step.c1p a0 y4 y10 y18 y20 v22 v23) (phys_Step.c1x o) (phys_Step.c1n o) (phys_Step.c1q a0 y4 y10 y18 o)
 | 0,_,_=>fun _ h=>nomatch h
 | n+1,v22,v23=>Owp.of (phys_Step.c1.eq_2 ..) (
  oF (fun e24 =>
  oR fun h25 =>
  oR fun h26 =>
  oB fun y27 e28 =>
  oB fun y29 e30 =>
  oR fun h31 =>
  fun y hy=>loop_back (phys_Step.cok k) hmix 7 (phys_Step.c1p a0 y4 y10 y18 y20 (iadd .i64 v22 (1:Int)) (v23++[y29])) [tT,rS T2 y27,rS T45 y29,tT] [] [(0,0),(1,1),(2,2),(3,3),(4,4),(5,25),(6,6)] (via (finP (aI (aI (aI (aI (aI (aI (aI tv0 e24) h25) h25) h26) e28) e30) h31) .normal [(0,0),(1,1),(2,2),(3,3),(4,4),(5,25),(6,6)] (phys_Step.c1p a0 y4 y10 y18 y20 (iadd .i64 v22 (1:Int)) (v23++[y29]))) (by kernel_rfl)) ((phys_Step.c1_ok k a0 y4 y10 y18 y20 n (iadd .i64 v22 (1:Int)) (v23++[y29])).ap hy)) (fun e24 =>
  oS (loop_exit (phys_Step.cok k) hmix [fF] [] [(0,1),(1,2),(2,3),(3,5),(4,6)] (exne 0) (via (finP (aI tv0 e24) (.exit 0) [(0,1),(1,2),(2,3),(3,5),(4,6)] (phys_Step.c1q a0 y4 y10 y18 v23)) (by kernel_rfl)))))
theorem phys_Step.way (k:Nat) (a0:V28):Owp (phys_Step k a0) fun y=>∃ w c0,exec PR (phys_Step.cx k) phys_Step.code 0 (entry (.pair T28 .unit) (a0,())).st w (Ret (phys_Step.cx k) Tryz.f21 c0 (.more (.dp T28) (.one (.dp T2))) y):=by
 unfold phys_Step; exact
  oB fun y1 e2 =>
  oF (fun e3 =>
  oS (⟨[rS T2 y1,tT],[.deepF 1 0 T45,.deepF 1 1 T48,.deepF 1 2 T102],via (retP (aI (aI tv0 e2) e3) (.more (.dp T28) (.one (.dp T2))) ((([],[],[],((0:Int),(0:Int),()),(0:Int),()),y1):(V28 × Int))) (by kernel_rfl)⟩)) (fun e3 =>
  oB fun y4 e5 =>
  oB fun y6 e7 =>
  oB fun y8 e9 =>
  oB fun y10 e11 =>
  oB fun y12 e13 =>
  oB fun y14 e15 =>
  oB fun y16 e17 =>
  oB fun y18 e19 =>
  oB fun y20 e21 =>
  oB fun o32 e33 =>
  oB fun y34 e35 =>
  oS (⟨[rS T2 y1,fF,.res (.one (.ow T48 49)) y4,.res (.more (.ow T102 103) (.one (.dp T2))) y6,.res (.one (.ow T45 46)) y8,.res (.one (.ow T2 3)) y10,.hres [(0,30),(1,36)] (.pair (.slice T45) (.pair T22 .unit)) (y8,y10,()) (.slice T45) y12,.hres [(0,30)] (.pair T26 (.pair T2 (.pair (.slice T45) .unit))) (a0.2.2.2.1,a0.2.2.2.2.1,y12,()) (.slice T45) y14,.hres [(0,30)] (.pair (.slice T48) (.pair T2 (.pair T2 (.pair (.slice T45) .unit)))) (a0.2.1,a0.2.2.2.2.1,(8:Int),y14,()) (.pair (.slice T45) T2) y16,.hres [(0,22)] (.pair (.slice T45) (.pair T2 (.pair T2 (.pair (.slice T102) .unit)))) (y16.1,a0.2.2.2.2.1,(8:Int),y6.1,()) (.pair (.slice T45) (.pair (.slice T102) T2)) y18,.res (.one (.ow T2 3)) y20,.cut ⟨[.ownF 16 0 T45 46],[(0,0),(1,1),(2,16),(3,36),(4,71),(5,74),(6,10)],(phys_Step.c1p a0 y4 y10 y18 y20 (0:Int) []),7,(.exit 0),(phys_Step.c1q a0 y4 y10 y18 o32),5⟩,.hres [(0,3),(1,2)] (.pair (.slice T45) (.pair T22 .unit)) (o32,y10,()) (.slice T45) y34],[.frzF 0 0,.frzF 0 1],via (cutP (aI (aI (aI (aI (aI (aI (aI (aI (aI (aI (aI tv0 e2) e3) e5) e7) e9) e11) (callHP (phys_wake.h k) [(0,30),(1,36)] (y8,y10,()) e13)) (callHP (phys_fall.h k) [(0,30)] (a0.2.2.2.1,a0.2.2.2.2.1,y12,()) e15)) (callHP (joint_Run_h.h k) [(0,30)] (a0.2.1,a0.2.2.2.2.1,(8:Int),y14,()) e17)) (callHP (solve_Run_h.h k) [(0,22)] (y16.1,a0.2.2.2.2.1,(8:Int),y6.1,()) e19)) e21) [(0,0),(1,1),(2,16),(3,36),(4,71),(5,74),(6,10)] (phys_Step.c1p a0 y4 y10 y18 y20 (0:Int) []) (((phys_Step.c1_ok k a0 y4 y10 y18 y20 k (0:Int) []).ap e33).triple) (retP (aI tv0 (callHP (phys_rest.h k) [(0,3),(1,2)] (o32,y10,()) e35)) (.more (.dp T28) (.one (.dp T2))) (((y34,y4,y18.2.1,a0.2.2.2.1,a0.2.2.2.2.1,()),(0:Int)):(V28 × Int)))) (by kernel_rfl)⟩))
theorem phys_Step.ok (k:Nat):FnOk PR 21 (phys_Step.sp k) :=
 fn_ok (phys_Step.cok k) hmix Tryz.func21 (code:=phys_Step.code) (by kernel_rfl) (by kernel_rfl) (by kernel_rfl) rfl rfl (by kernel_rfl) (by kernel_rfl) (by kernel_rfl) (fun x=>Nat.le_of_ble_eq_true (by kernel_rfl)) fun x y hy=>(phys_Step.way k x.1).ap hy
end Go.Proofs.T1
