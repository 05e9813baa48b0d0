import Derived.Test.YtddbhngnhegndaaGreatG5
namespace Go.Proofs.T1
open Go Go.Sx Go.Proofs
set_option maxRecDepth 100000
set_option linter.unusedVariables false
noncomputable def sat_Least.code:Code:=Func.cd Tryz.f86
def sat_Least.c3 (k:Nat) (v11:Bool) (v15:Int) (y26:(Int × Int)):Option (Bool) :=
  bif' v11
  (some (ilt y26.1 v15))
  (some true)
def sat_Least.c2 (k:Nat) (a0 a1:(List V22)) (v5:Int):Nat → Bool → Int → Bool → Int → Int → Option (Unit ⊕ (Bool × (Bool × (Int × Int))))
  | 0,_,_,_,_,_=>none
  | n+1,v11,v12,v13,v14,v15 =>
   bif' (ilt v12 (len (el ([]:(List V22)) (el (List.replicate 2 []) [[a0,a1],[a1,a0]] v5) 0)))
   (bnd (sat_deep k (el ([]:(List V22)) (el (List.replicate 2 []) [[a0,a1],[a1,a0]] v5) 0) (el ([]:(List V22)) (el (List.replicate 2 []) [[a0,a1],[a1,a0]] v5) 1) v12) fun y17 =>
   bif' (ilt y17 0)
   (some (.inl ()))
   (bnd (sat_Normal k (el ([]:(List V22)) (el (List.replicate 2 []) [[a0,a1],[a1,a0]] v5) 0) v12) fun y20 =>
   bnd (poly_Times k y17 1) fun y22 =>
   bnd (sat_Length k y20) fun y24 =>
   bnd (poly_Wide_Over k y22 y24) fun y26 =>
   bnd (sat_Least.c3 k v11 v15 y26) fun o29 =>
   bif' o29
   (sat_Least.c2 k a0 a1 v5 n true (iadd .i64 v12 1) (ieq v5 1) v12 y26.1)
   (sat_Least.c2 k a0 a1 v5 n v11 (iadd .i64 v12 1) v13 v14 v15)))
   (some (.inr (v11,v13,v14,v15)))
def sat_Least.c1 (k:Nat) (a0 a1:(List V22)):Nat → Bool → Int → Bool → Int → Int → Option (Unit ⊕ (Bool × (Int × Int)))
  | 0,_,_,_,_,_=>none
  | n+1,v4,v5,v6,v7,v8 =>
   bif' (ilt v5 (len [[a0,a1],[a1,a0]]))
   (req (inL v5 [[a0,a1],[a1,a0]]) <|
   bnd (sat_Least.c2 k a0 a1 v5 k v4 0 v6 v7 v8) fun o32 =>
   two o32 (fun y34 =>
   some (.inl ())) (fun y36 =>
   sat_Least.c1 k a0 a1 n y36.1 (iadd .i64 v5 1) y36.2.1 y36.2.2.1 y36.2.2.2))
   (some (.inr (v6,v7,v8)))
def sat_Least (k:Nat) (a0 a1:(List V22)):Option ((Bool × V22) × (Bool × Int)) :=
  bnd (sat_both k a0 a1) fun y1 =>
  bif' (ine y1 0)
  (some ((false,0,0,()),false,y1))
  (bnd (sat_Least.c1 k a0 a1 k false 0 false 0 0) fun o38 =>
   two o38 (fun y40 =>
   some ((false,0,0,()),false,0)) (fun y42 =>
   some ((y42.1,y42.2.1,y42.2.2,()),true,0)))
noncomputable def sat_Least.sp (k:Nat):Go.Sx.Spec:=⟨(.pair T24 (.pair T24 .unit)),(.more (.dp (.pair T4 T22)) (.more (.dp T4) (.one (.dp T2)))),fun x=>sat_Least k x.1 x.2.1,false⟩
noncomputable def sat_Least.cx (k:Nat):Go.Sx.Ctx:=⟨tys,[(105,sat_both.sp k),(106,sat_deep.sp k),(87,sat_Normal.sp k),(84,poly_Times.sp k),(108,sat_Length.sp k),(107,poly_Wide_Over.sp k)],eqs,80,false⟩
theorem sat_Least.cok (k:Nat):CtxOk PR (sat_Least.cx k):=ctx_ok tysOk eqsOk (FnsOk.cons (sat_both.ok k) (FnsOk.cons (sat_deep.ok k) (FnsOk.cons (sat_Normal.ok k) (FnsOk.cons (poly_Times.ok k) (FnsOk.cons (sat_Length.ok k) (FnsOk.cons (poly_Wide_Over.ok k) FnsOk.nil))))))
noncomputable def sat_Least.c3p (a0 a1:(List V22)) (v5:Int) (v11:Bool) (v12:Int) (v13:Bool) (v14 v15:Int) (y26:(Int × Int)):SL:=⟨[(4,(.val .ptr ⟨0,0,(0:Int),0,0⟩)),(8,(.val .ptr ⟨1,0,(0:Int),0,0⟩)),(9,(.val T4 v11)),(10,(.val T2 v5)),(11,(.val .ptr ⟨2,0,(0:Int),0,0⟩)),(12,(.val T2 v12)),(15,(.val T2 y26.1)),(30,(.val .own (3:Nat))),(31,(.val T2 (len [[a0,a1],[a1,a0]]))),(32,(.val T2 v5)),(39,(.val T2 (len (el ([]:(List V22)) (el (List.replicate 2 []) [[a0,a1],[a1,a0]] v5) (0:Int))))),(40,(.val T2 v12))],[(0,.cells (.pair T4 T22) (false,(0:Int),(0:Int),())),(1,.cells (.pair T4 T22) (v13,v14,v15,())),(2,.cells (.arr 2 T24) (el (List.replicate 2 []) [[a0,a1],[a1,a0]] v5)),(3,.row (.arr 2 T24) [[a0,a1],[a1,a0]] 82)]⟩
noncomputable def sat_Least.c3q (a0 a1:(List V22)) (v5:Int) (v11:Bool) (v12:Int) (v13:Bool) (v14 v15:Int) (y26:(Int × Int)) (o:Bool):SL:=(fun v=>⟨[(4,(.val .ptr ⟨0,0,(0:Int),0,0⟩)),(8,(.val .ptr ⟨1,0,(0:Int),0,0⟩)),(9,(.val T4 v11)),(10,(.val T2 v5)),(11,(.val .ptr ⟨2,0,(0:Int),0,0⟩)),(12,(.val T2 v12)),(15,(.val T2 y26.1)),(30,(.val .own (3:Nat))),(31,(.val T2 (len [[a0,a1],[a1,a0]]))),(32,(.val T2 v5)),(39,(.val T2 (len (el ([]:(List V22)) (el (List.replicate 2 []) [[a0,a1],[a1,a0]] v5) (0:Int))))),(40,(.val T2 v12)),(71,(.val T4 v))],[(0,.cells (.pair T4 T22) (false,(0:Int),(0:Int),())),(1,.cells (.pair T4 T22) (v13,v14,v15,())),(2,.cells (.arr 2 T24) (el (List.replicate 2 []) [[a0,a1],[a1,a0]] v5)),(3,.row (.arr 2 T24) [[a0,a1],[a1,a0]] 82)]⟩) o
noncomputable def sat_Least.c3x (o:Bool):Ex:=(fun _=>.normal) o
noncomputable def sat_Least.c3n (o:Bool):Nat:=(fun _=>4) o
theorem sat_Least.c3_ok (k:Nat) (a0 a1:(List V22)) (v5:Int) (v11:Bool) (v12:Int) (v13:Bool) (v14 v15:Int) (y26:(Int × Int)):Owp (sat_Least.c3 k v11 v15 y26) fun o=>Triple PR (sat_Least.cx k) (sub sat_Least.code [1,1,1,1,0,1,0,0,1,1,0,0,1,1,0,0,1,1,0,0,1,1,1,1,1,0]) 4 (sat_Least.c3p a0 a1 v5 v11 v12 v13 v14 v15 y26) (sat_Least.c3x o) (sat_Least.c3n o) (sat_Least.c3q a0 a1 v5 v11 v12 v13 v14 v15 y26 o):=by
  unfold sat_Least.c3; exact
   Owp.bif (fun e28 =>
   Owp.some (triple_way (sat_Least.cok k) hmix [fF,fF,fF,fF,fF] [] [(0,0),(1,1),(2,2),(3,3)] (via (finP (aI (aI (aI (aI (aI trivial (congrArg not e28)) (congrArg not e28)) (congrArg not e28)) (congrArg not e28)) (congrArg not e28)) .normal [(0,0),(1,1),(2,2),(3,3)] (sat_Least.c3q a0 a1 v5 v11 v12 v13 v14 v15 y26 (ilt y26.1 v15))) (by kernel_rfl)))) (fun e28 =>
   Owp.some (triple_way (sat_Least.cok k) hmix [tT,tT,tT,tT,tT] [] [(0,0),(1,1),(2,2),(3,3)] (via (finP (aI (aI (aI (aI (aI trivial (congrArg not e28)) (congrArg not e28)) (congrArg not e28)) (congrArg not e28)) (congrArg not e28)) .normal [(0,0),(1,1),(2,2),(3,3)] (sat_Least.c3q a0 a1 v5 v11 v12 v13 v14 v15 y26 true)) (by kernel_rfl))))
noncomputable def sat_Least.c2p (a0 a1:(List V22)) (v5:Int) (v11:Bool) (v12:Int) (v13:Bool) (v14 v15:Int):SL:=⟨[(4,(.val .ptr ⟨0,0,(0:Int),0,0⟩)),(8,(.val .ptr ⟨1,0,(0:Int),0,0⟩)),(9,(.val T4 v11)),(10,(.val T2 v5)),(11,(.val .ptr ⟨2,0,(0:Int),0,0⟩)),(30,(.val .own (3:Nat))),(31,(.val T2 (len [[a0,a1],[a1,a0]]))),(32,(.val T2 v5)),(39,(.val T2 (len (el ([]:(List V22)) (el (List.replicate 2 []) [[a0,a1],[a1,a0]] v5) (0:Int))))),(40,(.val T2 v12))],[(0,.cells (.pair T4 T22) (false,(0:Int),(0:Int),())),(1,.cells (.pair T4 T22) (v13,v14,v15,())),(2,.cells (.arr 2 T24) (el (List.replicate 2 []) [[a0,a1],[a1,a0]] v5)),(3,.row (.arr 2 T24) [[a0,a1],[a1,a0]] 82)]⟩
noncomputable def sat_Least.c2q (a0 a1:(List V22)) (v5:Int) (o:Unit ⊕ (Bool × (Bool × (Int × Int)))):SL:=(fun o=>two o (fun v=>⟨[(4,(.val .ptr ⟨0,0,(0:Int),0,0⟩)),(5,(.val T4 false)),(6,(.val T2 (0:Int)))],[(0,.cells (.pair T4 T22) (false,(0:Int),(0:Int),()))]⟩) (fun v=>⟨[(4,(.val .ptr ⟨0,0,(0:Int),0,0⟩)),(8,(.val .ptr ⟨1,0,(0:Int),0,0⟩)),(9,(.val T4 v.1)),(30,(.val .own (2:Nat))),(31,(.val T2 (len [[a0,a1],[a1,a0]]))),(32,(.val T2 v5))],[(0,.cells (.pair T4 T22) (false,(0:Int),(0:Int),())),(1,.cells (.pair T4 T22) (v.2.1,v.2.2.1,v.2.2.2,())),(2,.row (.arr 2 T24) [[a0,a1],[a1,a0]] 82)]⟩)) o
noncomputable def sat_Least.c2x (o:Unit ⊕ (Bool × (Bool × (Int × Int)))):Ex:=(fun o=>two o (fun _=>.ret) (fun _=>(.exit 2))) o
noncomputable def sat_Least.c2n (o:Unit ⊕ (Bool × (Bool × (Int × Int)))):Nat:=(fun o=>two o (fun _=>1) (fun _=>3)) o
theorem sat_Least.c2_ok (k:Nat) (a0 a1:(List V22)) (v5:Int):∀ (n:Nat) (v11:Bool) (v12:Int) (v13:Bool) (v14 v15:Int),Owp (sat_Least.c2 k a0 a1 v5 n v11 v12 v13 v14 v15) fun o=>LTriple PR (sat_Least.cx k) (sub sat_Least.code [1,1,1,1,0,1,0,0,1,1,0,0,1,1,0,0]) 4 (sat_Least.c2p a0 a1 v5 v11 v12 v13 v14 v15) (sat_Least.c2x o) (sat_Least.c2n o) (sat_Least.c2q a0 a1 v5 o)
  | 0,_,_,_,_,_=>fun _ h=>nomatch h
  | n+1,v11,v12,v13,v14,v15=>Owp.of (sat_Least.c2.eq_2 ..) (
   Owp.bif (fun e16 =>
   Owp.bnd fun y17 e18 =>
   Owp.bif (fun e19 =>
   Owp.some (loop_exit (sat_Least.cok k) hmix [tT,rS T2 y17,tT] [] [(0,0)] exne_ret (via (finP (aI (aI (aI (aI (aI (aI (aI trivial e16) (by decide:inR (0:Int) 2)) (by decide:inR (0:Int) 2)) (by decide:inR (1:Int) 2)) (by decide:inR (1:Int) 2)) e18) e19) .ret [(0,0)] (sat_Least.c2q a0 a1 v5 (.inl ()))) (by kernel_rfl)))) (fun e19 =>
   Owp.bnd fun y20 e21 =>
   Owp.bnd fun y22 e23 =>
   Owp.bnd fun y24 e25 =>
   Owp.bnd fun y26 e27 =>
   Owp.bnd fun o29 e30 =>
   Owp.bif (fun e31 =>
   fun y hy=>loop_back (sat_Least.cok k) hmix 4 (sat_Least.c2p a0 a1 v5 true (iadd .i64 v12 (1:Int)) (ieq v5 (1:Int)) v12 y26.1) [tT,rS T2 y17,fF,rS T22 y20,rS T99 y22,rS T2 y24,.res (.more (.dp T2) (.one (.dp T2))) y26,.cutR 17 ⟨[],[(0,0),(1,1),(2,2),(3,3)],(sat_Least.c3p a0 a1 v5 v11 v12 v13 v14 v15 y26),4,.normal,(sat_Least.c3q a0 a1 v5 v11 v12 v13 v14 v15 y26 o29),4⟩,tT] [] [(0,0),(1,1),(2,2),(3,3)] (via (cutP (aI (aI (aI (aI (aI (aI (aI (aI (aI (aI (aI (aI (aI trivial e16) (by decide:inR (0:Int) 2)) (by decide:inR (0:Int) 2)) (by decide:inR (1:Int) 2)) (by decide:inR (1:Int) 2)) e18) e19) (by decide:inR (0:Int) 2)) (by decide:inR (0:Int) 2)) e21) e23) e25) e27) [(0,0),(1,1),(2,2),(3,3)] (sat_Least.c3p a0 a1 v5 v11 v12 v13 v14 v15 y26) (((sat_Least.c3_ok k a0 a1 v5 v11 v12 v13 v14 v15 y26).ap e30)) (finP (aI trivial e31) .normal [(0,0),(1,1),(2,2),(3,3)] (sat_Least.c2p a0 a1 v5 true (iadd .i64 v12 (1:Int)) (ieq v5 (1:Int)) v12 y26.1))) (by kernel_rfl)) ((sat_Least.c2_ok k a0 a1 v5 n true (iadd .i64 v12 (1:Int)) (ieq v5 (1:Int)) v12 y26.1).ap hy)) (fun e31 =>
   fun y hy=>loop_back (sat_Least.cok k) hmix 4 (sat_Least.c2p a0 a1 v5 v11 (iadd .i64 v12 (1:Int)) v13 v14 v15) [tT,rS T2 y17,fF,rS T22 y20,rS T99 y22,rS T2 y24,.res (.more (.dp T2) (.one (.dp T2))) y26,.cutR 17 ⟨[],[(0,0),(1,1),(2,2),(3,3)],(sat_Least.c3p a0 a1 v5 v11 v12 v13 v14 v15 y26),4,.normal,(sat_Least.c3q a0 a1 v5 v11 v12 v13 v14 v15 y26 o29),4⟩,fF] [] [(0,0),(1,1),(2,2),(3,3)] (via (cutP (aI (aI (aI (aI (aI (aI (aI (aI (aI (aI (aI (aI (aI trivial e16) (by decide:inR (0:Int) 2)) (by decide:inR (0:Int) 2)) (by decide:inR (1:Int) 2)) (by decide:inR (1:Int) 2)) e18) e19) (by decide:inR (0:Int) 2)) (by decide:inR (0:Int) 2)) e21) e23) e25) e27) [(0,0),(1,1),(2,2),(3,3)] (sat_Least.c3p a0 a1 v5 v11 v12 v13 v14 v15 y26) (((sat_Least.c3_ok k a0 a1 v5 v11 v12 v13 v14 v15 y26).ap e30)) (finP (aI trivial e31) .normal [(0,0),(1,1),(2,2),(3,3)] (sat_Least.c2p a0 a1 v5 v11 (iadd .i64 v12 (1:Int)) v13 v14 v15))) (by kernel_rfl)) ((sat_Least.c2_ok k a0 a1 v5 n v11 (iadd .i64 v12 (1:Int)) v13 v14 v15).ap hy)))) (fun e16 =>
   Owp.some (loop_exit (sat_Least.cok k) hmix [fF] [] [(0,0),(1,1),(2,3)] (exne 2) (via (finP (aI trivial e16) (.exit 2) [(0,0),(1,1),(2,3)] (sat_Least.c2q a0 a1 v5 (.inr (v11,v13,v14,v15)))) (by kernel_rfl)))))
noncomputable def sat_Least.c1p (a0 a1:(List V22)) (v4:Bool) (v5:Int) (v6:Bool) (v7 v8:Int):SL:=⟨[(4,(.val .ptr ⟨0,0,(0:Int),0,0⟩)),(8,(.val .ptr ⟨1,0,(0:Int),0,0⟩)),(9,(.val T4 v4)),(30,(.val .own (2:Nat))),(31,(.val T2 (len [[a0,a1],[a1,a0]]))),(32,(.val T2 v5))],[(0,.cells (.pair T4 T22) (false,(0:Int),(0:Int),())),(1,.cells (.pair T4 T22) (v6,v7,v8,())),(2,.row (.arr 2 T24) [[a0,a1],[a1,a0]] 82)]⟩
noncomputable def sat_Least.c1q (o:Unit ⊕ (Bool × (Int × Int))):SL:=(fun o=>two o (fun v=>⟨[(4,(.val .ptr ⟨0,0,(0:Int),0,0⟩)),(5,(.val T4 false)),(6,(.val T2 (0:Int)))],[(0,.cells (.pair T4 T22) (false,(0:Int),(0:Int),()))]⟩) (fun v=>⟨[(4,(.val .ptr ⟨0,0,(0:Int),0,0⟩)),(8,(.val .ptr ⟨1,0,(0:Int),0,0⟩))],[(0,.cells (.pair T4 T22) (false,(0:Int),(0:Int),())),(1,.cells (.pair T4 T22) (v.1,v.2.1,v.2.2,()))]⟩)) o
noncomputable def sat_Least.c1x (o:Unit ⊕ (Bool × (Int × Int))):Ex:=(fun o=>two o (fun _=>.ret) (fun _=>(.exit 0))) o
noncomputable def sat_Least.c1n (o:Unit ⊕ (Bool × (Int × Int))):Nat:=(fun o=>two o (fun _=>1) (fun _=>2)) o
theorem sat_Least.c1_ok (k:Nat) (a0 a1:(List V22)):∀ (n:Nat) (v4:Bool) (v5:Int) (v6:Bool) (v7 v8:Int),Owp (sat_Least.c1 k a0 a1 n v4 v5 v6 v7 v8) fun o=>LTriple PR (sat_Least.cx k) (sub sat_Least.code [1,1,1,1,0,1,0,0]) 3 (sat_Least.c1p a0 a1 v4 v5 v6 v7 v8) (sat_Least.c1x o) (sat_Least.c1n o) (sat_Least.c1q o)
  | 0,_,_,_,_,_=>fun _ h=>nomatch h
  | n+1,v4,v5,v6,v7,v8=>Owp.of (sat_Least.c1.eq_2 ..) (
   Owp.bif (fun e9 =>
   Owp.req fun h10 =>
   Owp.bnd fun o32 e33 =>
   Owp.two (fun y34 e35 =>
   Owp.some (loop_exit (sat_Least.cok k) hmix [tT,.cut ⟨[],[(0,0),(1,1),(2,7),(3,2)],(sat_Least.c2p a0 a1 v5 v4 (0:Int) v6 v7 v8),4,.ret,(sat_Least.c2q a0 a1 v5 (.inl ())),1⟩] [] [(0,0)] exne_ret (via (cutP (aI (aI (aI (aI (aI trivial e9) h10) h10) (by decide:inR (0:Int) 2)) (by decide:inR (0:Int) 2)) [(0,0),(1,1),(2,7),(3,2)] (sat_Least.c2p a0 a1 v5 v4 (0:Int) v6 v7 v8) (((sat_Least.c2_ok k a0 a1 v5 k v4 (0:Int) v6 v7 v8).ap (e33.trans (congrArg some e35))).triple) (finP trivial .ret [(0,0)] (sat_Least.c1q (.inl ())))) (by kernel_rfl)))) (fun y36 e37 =>
   fun y hy=>loop_back (sat_Least.cok k) hmix 3 (sat_Least.c1p a0 a1 y36.1 (iadd .i64 v5 (1:Int)) y36.2.1 y36.2.2.1 y36.2.2.2) [tT,.cut ⟨[],[(0,0),(1,1),(2,7),(3,2)],(sat_Least.c2p a0 a1 v5 v4 (0:Int) v6 v7 v8),4,(.exit 2),(sat_Least.c2q a0 a1 v5 (.inr y36)),3⟩] [] [(0,0),(1,1),(2,2)] (via (cutP (aI (aI (aI (aI (aI trivial e9) h10) h10) (by decide:inR (0:Int) 2)) (by decide:inR (0:Int) 2)) [(0,0),(1,1),(2,7),(3,2)] (sat_Least.c2p a0 a1 v5 v4 (0:Int) v6 v7 v8) (((sat_Least.c2_ok k a0 a1 v5 k v4 (0:Int) v6 v7 v8).ap (e33.trans (congrArg some e37))).triple) (finP trivial .normal [(0,0),(1,1),(2,2)] (sat_Least.c1p a0 a1 y36.1 (iadd .i64 v5 (1:Int)) y36.2.1 y36.2.2.1 y36.2.2.2))) (by kernel_rfl)) ((sat_Least.c1_ok k a0 a1 n y36.1 (iadd .i64 v5 (1:Int)) y36.2.1 y36.2.2.1 y36.2.2.2).ap hy))) (fun e9 =>
   Owp.some (loop_exit (sat_Least.cok k) hmix [fF] [] [(0,0),(1,1)] (exne 0) (via (finP (aI trivial e9) (.exit 0) [(0,0),(1,1)] (sat_Least.c1q (.inr (v6,v7,v8)))) (by kernel_rfl)))))
theorem sat_Least.way (k:Nat) (a0 a1:(List V22)):Owp (sat_Least k a0 a1) fun y=>∃ w c0,exec PR (sat_Least.cx k) sat_Least.code 0 (entry (.pair T24 (.pair T24 .unit)) (a0,a1,())).st w (Ret (sat_Least.cx k) Tryz.f86 c0 (.more (.dp (.pair T4 T22)) (.more (.dp T4) (.one (.dp T2)))) y):=by
  unfold sat_Least; exact
   Owp.bnd fun y1 e2 =>
   Owp.bif (fun e3 =>
   Owp.some (⟨[rS T2 y1,tT],[],via (retP (aI (aI trivial e2) e3) (.more (.dp (.pair T4 T22)) (.more (.dp T4) (.one (.dp T2)))) (((false,(0:Int),(0:Int),()),false,y1):((Bool × V22) × (Bool × Int)))) (by kernel_rfl)⟩)) (fun e3 =>
   Owp.bnd fun o38 e39 =>
   Owp.two (fun y40 e41 =>
   Owp.some (⟨[rS T2 y1,fF,tT,.cut ⟨[],[(0,0),(1,9),(2,17)],(sat_Least.c1p a0 a1 false (0:Int) false (0:Int) (0:Int)),3,.ret,(sat_Least.c1q (.inl ())),1⟩],[],via (cutP (aI (aI trivial e2) e3) [(0,0),(1,9),(2,17)] (sat_Least.c1p a0 a1 false (0:Int) false (0:Int) (0:Int)) (((sat_Least.c1_ok k a0 a1 k false (0:Int) false (0:Int) (0:Int)).ap (e39.trans (congrArg some e41))).triple) (retP trivial (.more (.dp (.pair T4 T22)) (.more (.dp T4) (.one (.dp T2)))) (((false,(0:Int),(0:Int),()),false,(0:Int)):((Bool × V22) × (Bool × Int))))) (by kernel_rfl)⟩)) (fun y42 e43 =>
   Owp.some (⟨[rS T2 y1,fF,tT,.cut ⟨[],[(0,0),(1,9),(2,17)],(sat_Least.c1p a0 a1 false (0:Int) false (0:Int) (0:Int)),3,(.exit 0),(sat_Least.c1q (.inr y42)),2⟩],[],via (cutP (aI (aI trivial e2) e3) [(0,0),(1,9),(2,17)] (sat_Least.c1p a0 a1 false (0:Int) false (0:Int) (0:Int)) (((sat_Least.c1_ok k a0 a1 k false (0:Int) false (0:Int) (0:Int)).ap (e39.trans (congrArg some e43))).triple) (retP trivial (.more (.dp (.pair T4 T22)) (.more (.dp T4) (.one (.dp T2)))) (((y42.1,y42.2.1,y42.2.2,()),true,(0:Int)):((Bool × V22) × (Bool × Int))))) (by kernel_rfl)⟩)))
theorem sat_Least.ok (k:Nat):FnOk PR 86 (sat_Least.sp k) :=
  fn_ok (sat_Least.cok k) hmix Tryz.func86 (code:=sat_Least.code) (by kernel_rfl) (by kernel_rfl) (by kernel_rfl) rfl (by kernel_rfl) (by kernel_rfl) (by kernel_rfl) (fun x=>Nat.le_of_ble_eq_true (by kernel_rfl)) fun x y hy=>(sat_Least.way k x.1 x.2.1).ap hy
noncomputable def sat_Test.code:Code:=Func.cd Tryz.f48
def sat_Test.c1 (k:Nat) (y1:((Bool × V22) × (Bool × Int))):Option (Bool) :=
  bif' (ine y1.2.2 0)
  (some true)
  (some (!y1.2.1))
def sat_Test (k:Nat) (a0 a1:(List V22)):Option (Bool × (Int × V22)) :=
  bnd (sat_Least k a0 a1) fun y1 =>
  bnd (sat_Test.c1 k y1) fun o4 =>
  bif' o4
  (some (false,0,(0,0,())))
  (bif' y1.1.1
   (bnd (sat_Normal k a1 y1.1.2.1) fun y8 =>
   bnd (vec_Unit k ((ineg .i64 y8.1),(ineg .i64 y8.2.1),())) fun y10 =>
   some (true,y1.1.2.2.1,y10))
   (bnd (sat_Normal k a0 y1.1.2.1) fun y12 =>
   bnd (vec_Unit k y12) fun y14 =>
   some (true,y1.1.2.2.1,y14)))
noncomputable def sat_Test.sp (k:Nat):Go.Sx.Spec:=⟨(.pair T24 (.pair T24 .unit)),(.more (.dp T4) (.more (.dp T2) (.one (.dp T22)))),fun x=>sat_Test k x.1 x.2.1,false⟩
noncomputable def sat_Test.cx (k:Nat):Go.Sx.Ctx:=⟨tys,[(86,sat_Least.sp k),(87,sat_Normal.sp k),(88,vec_Unit.sp k)],eqs,48,false⟩
theorem sat_Test.cok (k:Nat):CtxOk PR (sat_Test.cx k):=ctx_ok tysOk eqsOk (FnsOk.cons (sat_Least.ok k) (FnsOk.cons (sat_Normal.ok k) (FnsOk.cons (vec_Unit.ok k) FnsOk.nil)))
noncomputable def sat_Test.c1p (a0 a1:(List V22)) (y1:((Bool × V22) × (Bool × Int))):SL:=⟨[(0,(.val T24 a0)),(1,(.val T24 a1)),(6,(.val .ptr ⟨0,0,(0:Int),0,0⟩)),(7,(.val .ptr ⟨1,0,(0:Int),0,0⟩)),(8,(.val T4 y1.2.1)),(9,(.val T2 y1.2.2))],[(0,.cells T22 ((0:Int),(0:Int),())),(1,.cells (.pair T4 T22) y1.1)]⟩
noncomputable def sat_Test.c1q (a0 a1:(List V22)) (y1:((Bool × V22) × (Bool × Int))) (o:Bool):SL:=(fun v=>⟨[(0,(.val T24 a0)),(1,(.val T24 a1)),(6,(.val .ptr ⟨0,0,(0:Int),0,0⟩)),(7,(.val .ptr ⟨1,0,(0:Int),0,0⟩)),(23,(.val T4 v))],[(0,.cells T22 ((0:Int),(0:Int),())),(1,.cells (.pair T4 T22) y1.1)]⟩) o
noncomputable def sat_Test.c1x (o:Bool):Ex:=(fun _=>.normal) o
noncomputable def sat_Test.c1n (o:Bool):Nat:=(fun _=>2) o
theorem sat_Test.c1_ok (k:Nat) (a0 a1:(List V22)) (y1:((Bool × V22) × (Bool × Int))):Owp (sat_Test.c1 k y1) fun o=>Triple PR (sat_Test.cx k) (sub sat_Test.code [1,1,0,0]) 2 (sat_Test.c1p a0 a1 y1) (sat_Test.c1x o) (sat_Test.c1n o) (sat_Test.c1q a0 a1 y1 o):=by
  unfold sat_Test.c1; exact
   Owp.bif (fun e3 =>
   Owp.some (triple_way (sat_Test.cok k) hmix [tT,tT,tT] [] [(0,0),(1,1)] (via (finP (aI (aI (aI trivial e3) e3) e3) .normal [(0,0),(1,1)] (sat_Test.c1q a0 a1 y1 true)) (by kernel_rfl)))) (fun e3 =>
   Owp.some (triple_way (sat_Test.cok k) hmix [fF,fF,fF] [] [(0,0),(1,1)] (via (finP (aI (aI (aI trivial e3) e3) e3) .normal [(0,0),(1,1)] (sat_Test.c1q a0 a1 y1 (!y1.2.1))) (by kernel_rfl))))
theorem sat_Test.way (k:Nat) (a0 a1:(List V22)):Owp (sat_Test k a0 a1) fun y=>∃ w c0,exec PR (sat_Test.cx k) sat_Test.code 0 (entry (.pair T24 (.pair T24 .unit)) (a0,a1,())).st w (Ret (sat_Test.cx k) Tryz.f48 c0 (.more (.dp T4) (.more (.dp T2) (.one (.dp T22)))) y):=by
  unfold sat_Test; exact
   Owp.bnd fun y1 e2 =>
   Owp.bnd fun o4 e5 =>
   Owp.bif (fun e6 =>
   Owp.some (⟨[.res (.more (.dp (.pair T4 T22)) (.more (.dp T4) (.one (.dp T2)))) y1,.cutR 2 ⟨[],[(0,2),(1,10)],(sat_Test.c1p a0 a1 y1),2,.normal,(sat_Test.c1q a0 a1 y1 o4),2⟩,tT],[],via (cutP (aI trivial e2) [(0,2),(1,10)] (sat_Test.c1p a0 a1 y1) (((sat_Test.c1_ok k a0 a1 y1).ap e5)) (retP (aI trivial e6) (.more (.dp T4) (.more (.dp T2) (.one (.dp T22)))) ((false,(0:Int),((0:Int),(0:Int),())):(Bool × (Int × V22))))) (by kernel_rfl)⟩)) (fun e6 =>
   Owp.bif (fun e7 =>
   Owp.bnd fun y8 e9 =>
   Owp.bnd fun y10 e11 =>
   Owp.some (⟨[.res (.more (.dp (.pair T4 T22)) (.more (.dp T4) (.one (.dp T2)))) y1,.cutR 2 ⟨[],[(0,2),(1,10)],(sat_Test.c1p a0 a1 y1),2,.normal,(sat_Test.c1q a0 a1 y1 o4),2⟩,fF,tT,rS T22 y8,rS T22 y10],[],via (cutP (aI trivial e2) [(0,2),(1,10)] (sat_Test.c1p a0 a1 y1) (((sat_Test.c1_ok k a0 a1 y1).ap e5)) (retP (aI (aI (aI (aI trivial e6) e7) e9) e11) (.more (.dp T4) (.more (.dp T2) (.one (.dp T22)))) ((true,y1.1.2.2.1,y10):(Bool × (Int × V22))))) (by kernel_rfl)⟩)) (fun e7 =>
   Owp.bnd fun y12 e13 =>
   Owp.bnd fun y14 e15 =>
   Owp.some (⟨[.res (.more (.dp (.pair T4 T22)) (.more (.dp T4) (.one (.dp T2)))) y1,.cutR 2 ⟨[],[(0,2),(1,10)],(sat_Test.c1p a0 a1 y1),2,.normal,(sat_Test.c1q a0 a1 y1 o4),2⟩,fF,fF,rS T22 y12,rS T22 y14],[],via (cutP (aI trivial e2) [(0,2),(1,10)] (sat_Test.c1p a0 a1 y1) (((sat_Test.c1_ok k a0 a1 y1).ap e5)) (retP (aI (aI (aI (aI trivial e6) e7) e13) e15) (.more (.dp T4) (.more (.dp T2) (.one (.dp T22)))) ((true,y1.1.2.2.1,y14):(Bool × (Int × V22))))) (by kernel_rfl)⟩)))
theorem sat_Test.ok (k:Nat):FnOk PR 48 (sat_Test.sp k) :=
  fn_ok (sat_Test.cok k) hmix Tryz.func48 (code:=sat_Test.code) (by kernel_rfl) (by kernel_rfl) (by kernel_rfl) rfl (by kernel_rfl) (by kernel_rfl) (by kernel_rfl) (fun x=>Nat.le_of_ble_eq_true (by kernel_rfl)) fun x y hy=>(sat_Test.way k x.1 x.2.1).ap hy
noncomputable def reach_depth.code:Code:=Func.cd Tryz.f22
def reach_depth (k:Nat) (a0 a1:V25) (a2 a3:Int):Option Int :=
  bnd (fix_Mul k a2 a3) fun y1 =>
  bnd (body_Move k a0 y1) fun y3 =>
  bnd (body_Place k y3) fun y5 =>
  bnd (fix_Mul k a2 a3) fun y7 =>
  bnd (body_Move k a1 y7) fun y9 =>
  bnd (body_Place k y9) fun y11 =>
  bnd (sat_Test k y5 y11) fun y13 =>
  some y13.2.1
noncomputable def reach_depth.sp (k:Nat):Go.Sx.Spec:=⟨(.pair T25 (.pair T25 T22)),(.one (.dp T2)),fun x=>reach_depth k x.1 x.2.1 x.2.2.1 x.2.2.2.1,false⟩
noncomputable def reach_depth.cx (k:Nat):Go.Sx.Ctx:=⟨tys,[(14,fix_Mul.sp k),(19,body_Move.sp k),(18,body_Place.sp k),(48,sat_Test.sp k)],eqs,30,false⟩
theorem reach_depth.cok (k:Nat):CtxOk PR (reach_depth.cx k):=ctx_ok tysOk eqsOk (FnsOk.cons (fix_Mul.ok k) (FnsOk.cons (body_Move.ok k) (FnsOk.cons (body_Place.ok k) (FnsOk.cons (sat_Test.ok k) FnsOk.nil))))
theorem reach_depth.way (k:Nat) (a0 a1:V25) (a2 a3:Int):Owp (reach_depth k a0 a1 a2 a3) fun y=>∃ w c0,exec PR (reach_depth.cx k) reach_depth.code 0 (entry (.pair T25 (.pair T25 T22)) (a0,a1,a2,a3,())).st w (Ret (reach_depth.cx k) Tryz.f22 c0 (.one (.dp T2)) y):=by
  unfold reach_depth; exact
   Owp.bnd fun y1 e2 =>
   Owp.bnd fun y3 e4 =>
   Owp.bnd fun y5 e6 =>
   Owp.bnd fun y7 e8 =>
   Owp.bnd fun y9 e10 =>
   Owp.bnd fun y11 e12 =>
   Owp.bnd fun y13 e14 =>
   Owp.some (⟨[rS T2 y1,rS T25 y3,.res (.one (.ow T22 23)) y5,rS T2 y7,rS T25 y9,.res (.one (.ow T22 23)) y11,.res (.more (.dp T4) (.more (.dp T2) (.one (.dp T22)))) y13],[],via (retP (aI (aI (aI (aI (aI (aI (aI trivial e2) e4) e6) e8) e10) e12) e14) (.one (.dp T2)) (y13.2.1:Int)) (by kernel_rfl)⟩)
theorem reach_depth.ok (k:Nat):FnOk PR 22 (reach_depth.sp k) :=
  fn_ok (reach_depth.cok k) hmix Tryz.func22 (code:=reach_depth.code) (by kernel_rfl) (by kernel_rfl) (by kernel_rfl) rfl (by kernel_rfl) (by kernel_rfl) (by kernel_rfl) (fun x=>Nat.le_of_ble_eq_true (by kernel_rfl)) fun x y hy=>(reach_depth.way k x.1 x.2.1 x.2.2.1 x.2.2.2.1).ap hy
noncomputable def reach_Sink.code:Code:=Func.cd Tryz.f7
def reach_Sink.c1 (k:Nat) (a0 a1:V25) (a2:Int) (y1:(Int × Int)) (y4:Int):Nat → Int → Int → Option (Int)
  | 0,_,_=>none
  | n+1,v6,v7 =>
   bif' (ilt v7 (imin (iadd .i64 (iquo .i64 y1.1 8192) 1) 1024))
   (req (nz (iadd .i64 (iquo .i64 y1.1 8192) 1)) <|
   bnd (reach_depth k a0 a1 a2 (iquo .i64 (imul .i64 (iadd .i64 v7 1) 65536) (iadd .i64 (iquo .i64 y1.1 8192) 1))) fun y10 =>
   bif' (igt y10 (iadd .i64 y4 16384))
   (some v6)
   (reach_Sink.c1 k a0 a1 a2 y1 y4 n (iquo .i64 (imul .i64 (iadd .i64 v7 1) 65536) (iadd .i64 (iquo .i64 y1.1 8192) 1)) (iadd .i64 v7 1)))
   (some v6)
def reach_Sink (k:Nat) (a0 a1:V25) (a2:Int):Option (Int × Int) :=
  bnd (reach_Bound k a0 a1 a2) fun y1 =>
  bif' (ine y1.2 0)
  (some (0,y1.2))
  (bnd (reach_depth k a0 a1 a2 0) fun y4 =>
   bnd (reach_Sink.c1 k a0 a1 a2 y1 y4 k 0 0) fun o13 =>
   some (o13,0))
noncomputable def reach_Sink.sp (k:Nat):Go.Sx.Spec:=⟨(.pair T25 (.pair T25 (.pair T2 .unit))),(.more (.dp T2) (.one (.dp T2))),fun x=>reach_Sink k x.1 x.2.1 x.2.2.1,false⟩
noncomputable def reach_Sink.cx (k:Nat):Go.Sx.Ctx:=⟨tys,[(5,reach_Bound.sp k),(22,reach_depth.sp k)],eqs,53,false⟩
theorem reach_Sink.cok (k:Nat):CtxOk PR (reach_Sink.cx k):=ctx_ok tysOk eqsOk (FnsOk.cons (reach_Bound.ok k) (FnsOk.cons (reach_depth.ok k) FnsOk.nil))
noncomputable def reach_Sink.c1p (a0 a1:V25) (a2:Int) (y1:(Int × Int)) (y4 v6 v7:Int):SL:=⟨[(2,(.val T2 a2)),(3,(.val .ptr ⟨0,0,(0:Int),0,0⟩)),(4,(.val .ptr ⟨1,0,(0:Int),0,0⟩)),(10,(.val T2 y4)),(11,(.val T2 (iadd .i64 (iquo .i64 y1.1 (8192:Int)) (1:Int)))),(12,(.val T2 v6)),(33,(.val T2 (imin (iadd .i64 (iquo .i64 y1.1 (8192:Int)) (1:Int)) (1024:Int)))),(34,(.val T2 v7))],[(0,.cells T25 a0),(1,.cells T25 a1)]⟩
noncomputable def reach_Sink.c1q (o:Int):SL:=(fun v=>⟨[(12,(.val T2 v))],[]⟩) o
noncomputable def reach_Sink.c1x (o:Int):Ex:=(fun _=>(.exit 0)) o
noncomputable def reach_Sink.c1n (o:Int):Nat:=(fun _=>0) o
theorem reach_Sink.c1_ok (k:Nat) (a0 a1:V25) (a2:Int) (y1:(Int × Int)) (y4:Int):∀ (n:Nat) (v6 v7:Int),Owp (reach_Sink.c1 k a0 a1 a2 y1 y4 n v6 v7) fun o=>LTriple PR (reach_Sink.cx k) (sub reach_Sink.code [1,1,1,1,1,0,1,0,0]) 2 (reach_Sink.c1p a0 a1 a2 y1 y4 v6 v7) (reach_Sink.c1x o) (reach_Sink.c1n o) (reach_Sink.c1q o)
  | 0,_,_=>fun _ h=>nomatch h
  | n+1,v6,v7=>Owp.of (reach_Sink.c1.eq_2 ..) (
   Owp.bif (fun e8 =>
   Owp.req fun h9 =>
   Owp.bnd fun y10 e11 =>
   Owp.bif (fun e12 =>
   Owp.some (loop_exit (reach_Sink.cok k) hmix [tT,rS T2 y10,tT] [] [] (exne 0) (via (finP (aI (aI (aI (aI trivial e8) h9) e11) e12) (.exit 0) [] (reach_Sink.c1q v6)) (by kernel_rfl)))) (fun e12 =>
   fun y hy=>loop_back (reach_Sink.cok k) hmix 2 (reach_Sink.c1p a0 a1 a2 y1 y4 (iquo .i64 (imul .i64 (iadd .i64 v7 (1:Int)) (65536:Int)) (iadd .i64 (iquo .i64 y1.1 (8192:Int)) (1:Int))) (iadd .i64 v7 (1:Int))) [tT,rS T2 y10,fF] [] [(0,0),(1,1)] (via (finP (aI (aI (aI (aI trivial e8) h9) e11) e12) .normal [(0,0),(1,1)] (reach_Sink.c1p a0 a1 a2 y1 y4 (iquo .i64 (imul .i64 (iadd .i64 v7 (1:Int)) (65536:Int)) (iadd .i64 (iquo .i64 y1.1 (8192:Int)) (1:Int))) (iadd .i64 v7 (1:Int)))) (by kernel_rfl)) ((reach_Sink.c1_ok k a0 a1 a2 y1 y4 n (iquo .i64 (imul .i64 (iadd .i64 v7 (1:Int)) (65536:Int)) (iadd .i64 (iquo .i64 y1.1 (8192:Int)) (1:Int))) (iadd .i64 v7 (1:Int))).ap hy))) (fun e8 =>
   Owp.some (loop_exit (reach_Sink.cok k) hmix [fF] [] [] (exne 0) (via (finP (aI trivial e8) (.exit 0) [] (reach_Sink.c1q v6)) (by kernel_rfl)))))
theorem reach_Sink.way (k:Nat) (a0 a1:V25) (a2:Int):Owp (reach_Sink k a0 a1 a2) fun y=>∃ w c0,exec PR (reach_Sink.cx k) reach_Sink.code 0 (entry (.pair T25 (.pair T25 (.pair T2 .unit))) (a0,a1,a2,())).st w (Ret (reach_Sink.cx k) Tryz.f7 c0 (.more (.dp T2) (.one (.dp T2))) y):=by
  unfold reach_Sink; exact
   Owp.bnd fun y1 e2 =>
   Owp.bif (fun e3 =>
   Owp.some (⟨[.res (.more (.dp T2) (.one (.dp T2))) y1,tT],[],via (retP (aI (aI trivial e2) e3) (.more (.dp T2) (.one (.dp T2))) (((0:Int),y1.2):(Int × Int))) (by kernel_rfl)⟩)) (fun e3 =>
   Owp.bnd fun y4 e5 =>
   Owp.bnd fun o13 e14 =>
   Owp.some (⟨[.res (.more (.dp T2) (.one (.dp T2))) y1,fF,rS T2 y4,.cut ⟨[],[(0,0),(1,1)],(reach_Sink.c1p a0 a1 a2 y1 y4 (0:Int) (0:Int)),2,(.exit 0),(reach_Sink.c1q o13),0⟩],[],via (cutP (aI (aI (aI (aI trivial e2) e3) e5) (by decide:nz (8192:Int))) [(0,0),(1,1)] (reach_Sink.c1p a0 a1 a2 y1 y4 (0:Int) (0:Int)) (((reach_Sink.c1_ok k a0 a1 a2 y1 y4 k (0:Int) (0:Int)).ap e14).triple) (retP trivial (.more (.dp T2) (.one (.dp T2))) ((o13,(0:Int)):(Int × Int)))) (by kernel_rfl)⟩))
theorem reach_Sink.ok (k:Nat):FnOk PR 7 (reach_Sink.sp k) :=
  fn_ok (reach_Sink.cok k) hmix Tryz.func7 (code:=reach_Sink.code) (by kernel_rfl) (by kernel_rfl) (by kernel_rfl) rfl (by kernel_rfl) (by kernel_rfl) (by kernel_rfl) (fun x=>Nat.le_of_ble_eq_true (by kernel_rfl)) fun x y hy=>(reach_Sink.way k x.1 x.2.1 x.2.2.1).ap hy
noncomputable def r2_coord.code:Code:=Func.cd Tryz.f24
def r2_coord (k:Nat) (a0:V22) (a1:Int):Option Bool :=
  bif' (ige a0.1 (ineg .i64 a1))
  (bif' (ile a0.1 a1)
   (bif' (ige a0.2.1 (ineg .i64 a1))
   (some (ile a0.2.1 a1))
   (some false))
   (some false))
  (some false)
noncomputable def r2_coord.sp (k:Nat):Go.Sx.Spec:=⟨(.pair T22 (.pair T2 .unit)),(.one (.dp T4)),fun x=>r2_coord k x.1 x.2.1,false⟩
noncomputable def r2_coord.cx (k:Nat):Go.Sx.Ctx:=⟨tys,[],eqs,29,false⟩
theorem r2_coord.cok (k:Nat):CtxOk PR (r2_coord.cx k):=ctx_ok tysOk eqsOk FnsOk.nil
theorem r2_coord.way (k:Nat) (a0:V22) (a1:Int):Owp (r2_coord k a0 a1) fun y=>∃ w c0,exec PR (r2_coord.cx k) r2_coord.code 0 (entry (.pair T22 (.pair T2 .unit)) (a0,a1,())).st w (Ret (r2_coord.cx k) Tryz.f24 c0 (.one (.dp T4)) y):=by
  unfold r2_coord; exact
   Owp.bif (fun e1 =>
   Owp.bif (fun e2 =>
   Owp.bif (fun e3 =>
   Owp.some (⟨[tT,tT,tT,tT,tT,tT,tT,tT,tT,tT,tT,tT,tT,tT,tT,tT],[],via (retP (aI (aI (aI (aI (aI (aI (aI (aI (aI (aI (aI (aI (aI (aI (aI (aI trivial e1) e1) e1) e1) e1) e2) e2) e2) e2) e2) e2) e3) e3) e3) e3) e3) (.one (.dp T4)) ((ile a0.2.1 a1):Bool)) (by kernel_rfl)⟩)) (fun e3 =>
   Owp.some (⟨[tT,tT,tT,tT,tT,tT,tT,tT,tT,tT,tT,fF,fF,fF,fF,fF],[],via (retP (aI (aI (aI (aI (aI (aI (aI (aI (aI (aI (aI (aI (aI (aI (aI (aI trivial e1) e1) e1) e1) e1) e2) e2) e2) e2) e2) e2) e3) e3) e3) e3) e3) (.one (.dp T4)) (false:Bool)) (by kernel_rfl)⟩))) (fun e2 =>
   Owp.some (⟨[tT,tT,tT,tT,tT,fF,fF,fF,fF,fF,fF,fF,fF,fF,fF,fF],[],via (retP (aI (aI (aI (aI (aI (aI (aI (aI (aI (aI (aI (aI (aI (aI (aI (aI trivial e1) e1) e1) e1) e1) e2) e2) e2) e2) e2) e2) ff) ff) ff) ff) ff) (.one (.dp T4)) (false:Bool)) (by kernel_rfl)⟩))) (fun e1 =>
   Owp.some (⟨[fF,fF,fF,fF,fF,fF,fF,fF,fF,fF,fF,fF,fF,fF,fF,fF],[],via (retP (aI (aI (aI (aI (aI (aI (aI (aI (aI (aI (aI (aI (aI (aI (aI (aI trivial e1) e1) e1) e1) e1) ff) ff) ff) ff) ff) ff) ff) ff) ff) ff) ff) (.one (.dp T4)) (false:Bool)) (by kernel_rfl)⟩))
theorem r2_coord.ok (k:Nat):FnOk PR 24 (r2_coord.sp k) :=
  fn_ok (r2_coord.cok k) hmix Tryz.func24 (code:=r2_coord.code) (by kernel_rfl) (by kernel_rfl) (by kernel_rfl) rfl (by kernel_rfl) (by kernel_rfl) (by kernel_rfl) (fun x=>Nat.le_of_ble_eq_true (by kernel_rfl)) fun x y hy=>(r2_coord.way k x.1 x.2.1).ap hy
noncomputable def r2_sub.code:Code:=Func.cd Tryz.f50
def r2_sub (k:Nat) (a0 a1:V22):Option V22 :=
  some ((isub .i64 a0.1 a1.1),(isub .i64 a0.2.1 a1.2.1),())
noncomputable def r2_sub.sp (k:Nat):Go.Sx.Spec:=⟨(.pair T22 (.pair T22 .unit)),(.one (.dp T22)),fun x=>r2_sub k x.1 x.2.1,false⟩
noncomputable def r2_sub.cx (k:Nat):Go.Sx.Ctx:=⟨tys,[],eqs,16,false⟩
theorem r2_sub.cok (k:Nat):CtxOk PR (r2_sub.cx k):=ctx_ok tysOk eqsOk FnsOk.nil
theorem r2_sub.way (k:Nat) (a0 a1:V22):Owp (r2_sub k a0 a1) fun y=>∃ w c0,exec PR (r2_sub.cx k) r2_sub.code 0 (entry (.pair T22 (.pair T22 .unit)) (a0,a1,())).st w (Ret (r2_sub.cx k) Tryz.f50 c0 (.one (.dp T22)) y):=by
  unfold r2_sub; exact
   Owp.some (⟨[],[],via (retP trivial (.one (.dp T22)) (((isub .i64 a0.1 a1.1),(isub .i64 a0.2.1 a1.2.1),()):V22)) (by kernel_rfl)⟩)
theorem r2_sub.ok (k:Nat):FnOk PR 50 (r2_sub.sp k) :=
  fn_ok (r2_sub.cok k) hmix Tryz.func50 (code:=r2_sub.code) (by kernel_rfl) (by kernel_rfl) (by kernel_rfl) rfl (by kernel_rfl) (by kernel_rfl) (by kernel_rfl) (fun x=>Nat.le_of_ble_eq_true (by kernel_rfl)) fun x y hy=>(r2_sub.way k x.1 x.2.1).ap hy
noncomputable def r2_Cross.code:Code:=Func.cd Tryz.f51
def r2_Cross (k:Nat) (a0 a1:V22):Option (List Int) :=
  bnd (r2_Of k a0.1) fun y1 =>
  bnd (r2_Of k a1.2.1) fun y3 =>
  bnd (r2_Big_Mul k y1 y3) fun y5 =>
  bnd (r2_Of k a0.2.1) fun y7 =>
  bnd (r2_Of k a1.1) fun y9 =>
  bnd (r2_Big_Mul k y7 y9) fun y11 =>
  bnd (r2_Big_Sub k y5 y11) fun y13 =>
  some y13
noncomputable def r2_Cross.sp (k:Nat):Go.Sx.Spec:=⟨(.pair T22 (.pair T22 .unit)),(.one (.dp T72)),fun x=>r2_Cross k x.1 x.2.1,false⟩
noncomputable def r2_Cross.cx (k:Nat):Go.Sx.Ctx:=⟨tys,[(53,r2_Of.sp k),(90,r2_Big_Mul.sp k),(91,r2_Big_Sub.sp k)],eqs,20,false⟩
theorem r2_Cross.cok (k:Nat):CtxOk PR (r2_Cross.cx k):=ctx_ok tysOk eqsOk (FnsOk.cons (r2_Of.ok k) (FnsOk.cons (r2_Big_Mul.ok k) (FnsOk.cons (r2_Big_Sub.ok k) FnsOk.nil)))
theorem r2_Cross.way (k:Nat) (a0 a1:V22):Owp (r2_Cross k a0 a1) fun y=>∃ w c0,exec PR (r2_Cross.cx k) r2_Cross.code 0 (entry (.pair T22 (.pair T22 .unit)) (a0,a1,())).st w (Ret (r2_Cross.cx k) Tryz.f51 c0 (.one (.dp T72)) y):=by
  unfold r2_Cross; exact
   Owp.bnd fun y1 e2 =>
   Owp.bnd fun y3 e4 =>
   Owp.bnd fun y5 e6 =>
   Owp.bnd fun y7 e8 =>
   Owp.bnd fun y9 e10 =>
   Owp.bnd fun y11 e12 =>
   Owp.bnd fun y13 e14 =>
   Owp.some (⟨[rS T72 y1,rS T72 y3,rS T72 y5,rS T72 y7,rS T72 y9,rS T72 y11,rS T72 y13],[],via (retP (aI (aI (aI (aI (aI (aI (aI trivial e2) e4) e6) e8) e10) e12) e14) (.one (.dp T72)) (y13:(List Int))) (by kernel_rfl)⟩)
theorem r2_Cross.ok (k:Nat):FnOk PR 51 (r2_Cross.sp k) :=
  fn_ok (r2_Cross.cok k) hmix Tryz.func51 (code:=r2_Cross.code) (by kernel_rfl) (by kernel_rfl) (by kernel_rfl) rfl (by kernel_rfl) (by kernel_rfl) (by kernel_rfl) (fun x=>Nat.le_of_ble_eq_true (by kernel_rfl)) fun x y hy=>(r2_Cross.way k x.1 x.2.1).ap hy
noncomputable def r2_left.code:Code:=Func.cd Tryz.f89
def r2_left (k:Nat) (a0 a1 a2:V22):Option Int :=
  bnd (r2_sub k a1 a0) fun y1 =>
  bnd (r2_sub k a2 a0) fun y3 =>
  bnd (r2_Cross k y1 y3) fun y5 =>
  bnd (r2_Big_Cmp k y5 (List.replicate 8 0)) fun y7 =>
  some y7
noncomputable def r2_left.sp (k:Nat):Go.Sx.Spec:=⟨(.pair T22 (.pair T22 (.pair T22 .unit))),(.one (.dp T2)),fun x=>r2_left k x.1 x.2.1 x.2.2.1,false⟩
noncomputable def r2_left.cx (k:Nat):Go.Sx.Ctx:=⟨tys,[(50,r2_sub.sp k),(51,r2_Cross.sp k),(52,r2_Big_Cmp.sp k)],eqs,16,false⟩
theorem r2_left.cok (k:Nat):CtxOk PR (r2_left.cx k):=ctx_ok tysOk eqsOk (FnsOk.cons (r2_sub.ok k) (FnsOk.cons (r2_Cross.ok k) (FnsOk.cons (r2_Big_Cmp.ok k) FnsOk.nil)))
theorem r2_left.way (k:Nat) (a0 a1 a2:V22):Owp (r2_left k a0 a1 a2) fun y=>∃ w c0,exec PR (r2_left.cx k) r2_left.code 0 (entry (.pair T22 (.pair T22 (.pair T22 .unit))) (a0,a1,a2,())).st w (Ret (r2_left.cx k) Tryz.f89 c0 (.one (.dp T2)) y):=by
  unfold r2_left; exact
   Owp.bnd fun y1 e2 =>
   Owp.bnd fun y3 e4 =>
   Owp.bnd fun y5 e6 =>
   Owp.bnd fun y7 e8 =>
   Owp.some (⟨[rS T22 y1,rS T22 y3,rS T72 y5,rS T2 y7],[],via (retP (aI (aI (aI (aI trivial e2) e4) e6) e8) (.one (.dp T2)) (y7:Int)) (by kernel_rfl)⟩)
theorem r2_left.ok (k:Nat):FnOk PR 89 (r2_left.sp k) :=
  fn_ok (r2_left.cok k) hmix Tryz.func89 (code:=r2_left.code) (by kernel_rfl) (by kernel_rfl) (by kernel_rfl) rfl (by kernel_rfl) (by kernel_rfl) (by kernel_rfl) (fun x=>Nat.le_of_ble_eq_true (by kernel_rfl)) fun x y hy=>(r2_left.way k x.1 x.2.1 x.2.2.1).ap hy
noncomputable def r2_Poly.code:Code:=Func.cd Tryz.f49
def r2_Poly.c1 (k:Nat) (a0:(List V22)):Nat → Int → Option (Unit ⊕ Unit)
  | 0,_=>none
  | n+1,v3 =>
   bif' (ilt v3 (len a0))
   (req (inL v3 a0) <|
   bnd (r2_coord k (el Z22 a0 v3) 65536000) fun y6 =>
   bif' y6
   (r2_Poly.c1 k a0 n (iadd .i64 v3 1))
   (some (.inl ())))
   (some (.inr ()))
def r2_Poly.c4 (k:Nat) (a0:(List V22)) (v15 v17:Int):Nat → Int → Option (Unit ⊕ Unit)
  | 0,_=>none
  | n+1,v19 =>
   bif' (ilt v19 (len a0))
   (req (inL v15 a0) <|
   req (inL v17 a0) <|
   req (inL v19 a0) <|
   bnd (r2_left k (el Z22 a0 v15) (el Z22 a0 v17) (el Z22 a0 v19)) fun y24 =>
   bif' (ile y24 0)
   (some (.inl ()))
   (r2_Poly.c4 k a0 v15 v17 n (iadd .i64 v19 1)))
   (some (.inr ()))
def r2_Poly.c3 (k:Nat) (a0:(List V22)) (v15:Int):Nat → Int → Option (Unit ⊕ Unit)
  | 0,_=>none
  | n+1,v17 =>
   bif' (ilt v17 (len a0))
   (bnd (r2_Poly.c4 k a0 v15 v17 k (iadd .i64 v17 1)) fun o27 =>
   two o27 (fun y29 =>
   some (.inl ())) (fun y31 =>
   r2_Poly.c3 k a0 v15 n (iadd .i64 v17 1)))
   (some (.inr ()))
def r2_Poly.c2 (k:Nat) (a0:(List V22)):Nat → Int → Option (Unit ⊕ Unit)
  | 0,_=>none
  | n+1,v15 =>
   bif' (ilt v15 (len a0))
   (bnd (r2_Poly.c3 k a0 v15 k (iadd .i64 v15 1)) fun o33 =>
   two o33 (fun y35 =>
   some (.inl ())) (fun y37 =>
   r2_Poly.c2 k a0 n (iadd .i64 v15 1)))
   (some (.inr ()))
def r2_Poly (k:Nat) (a0:(List V22)):Option Int :=
  bif' (igt (len a0) 8)
  (some 2)
  (bif' (ilt (len a0) 3)
   (some 3)
   (bnd (r2_Poly.c1 k a0 k 0) fun o9 =>
   two o9 (fun y11 =>
   some 1) (fun y13 =>
   bnd (r2_Poly.c2 k a0 k 0) fun o39 =>
   two o39 (fun y41 =>
   some 3) (fun y43 =>
   some 0))))
noncomputable def r2_Poly.sp (k:Nat):Go.Sx.Spec:=⟨(.pair T24 .unit),(.one (.dp T2)),fun x=>r2_Poly k x.1,false⟩
noncomputable def r2_Poly.cx (k:Nat):Go.Sx.Ctx:=⟨tys,[(24,r2_coord.sp k),(89,r2_left.sp k)],eqs,60,false⟩
theorem r2_Poly.cok (k:Nat):CtxOk PR (r2_Poly.cx k):=ctx_ok tysOk eqsOk (FnsOk.cons (r2_coord.ok k) (FnsOk.cons (r2_left.ok k) FnsOk.nil))
noncomputable def r2_Poly.c1p (a0:(List V22)) (v3:Int):SL:=⟨[(0,(.val T24 a0)),(3,(.val T2 (len a0))),(17,(.val T24 a0)),(18,(.val T2 (len a0))),(19,(.val T2 v3))],[]⟩
noncomputable def r2_Poly.c1q (a0:(List V22)) (o:Unit ⊕ Unit):SL:=(fun o=>two o (fun v=>⟨[(2,(.val T2 (1:Int)))],[]⟩) (fun v=>⟨[(0,(.val T24 a0)),(3,(.val T2 (len a0)))],[]⟩)) o
noncomputable def r2_Poly.c1x (o:Unit ⊕ Unit):Ex:=(fun o=>two o (fun _=>.ret) (fun _=>(.exit 1))) o
noncomputable def r2_Poly.c1n (o:Unit ⊕ Unit):Nat:=(fun o=>two o (fun _=>0) (fun _=>0)) o
theorem r2_Poly.c1_ok (k:Nat) (a0:(List V22)):∀ (n:Nat) (v3:Int),Owp (r2_Poly.c1 k a0 n v3) fun o=>LTriple PR (r2_Poly.cx k) (sub r2_Poly.code [1,1,1,0,1,0,0]) 0 (r2_Poly.c1p a0 v3) (r2_Poly.c1x o) (r2_Poly.c1n o) (r2_Poly.c1q a0 o)
  | 0,_=>fun _ h=>nomatch h
  | n+1,v3=>Owp.of (r2_Poly.c1.eq_2 ..) (
   Owp.bif (fun e4 =>
   Owp.req fun h5 =>
   Owp.bnd fun y6 e7 =>
   Owp.bif (fun e8 =>
   fun y hy=>loop_back (r2_Poly.cok k) hmix 0 (r2_Poly.c1p a0 (iadd .i64 v3 (1:Int))) [tT,rS T4 y6,fF] [] [] (via (finP (aI (aI (aI (aI trivial e4) h5) e7) (congrArg not e8)) .normal [] (r2_Poly.c1p a0 (iadd .i64 v3 (1:Int)))) (by kernel_rfl)) ((r2_Poly.c1_ok k a0 n (iadd .i64 v3 (1:Int))).ap hy)) (fun e8 =>
   Owp.some (loop_exit (r2_Poly.cok k) hmix [tT,rS T4 y6,tT] [] [] exne_ret (via (finP (aI (aI (aI (aI trivial e4) h5) e7) (congrArg not e8)) .ret [] (r2_Poly.c1q a0 (.inl ()))) (by kernel_rfl))))) (fun e4 =>
   Owp.some (loop_exit (r2_Poly.cok k) hmix [fF] [] [] (exne 1) (via (finP (aI trivial e4) (.exit 1) [] (r2_Poly.c1q a0 (.inr ()))) (by kernel_rfl)))))
noncomputable def r2_Poly.c4p (a0:(List V22)) (v15 v17 v19:Int):SL:=⟨[(0,(.val T24 a0)),(3,(.val T2 (len a0))),(6,(.val T2 v15)),(7,(.val T2 v17)),(8,(.val T2 v19)),(27,(.val T2 (len a0))),(28,(.val T2 v15))],[]⟩
noncomputable def r2_Poly.c4q (a0:(List V22)) (v15 v17:Int) (o:Unit ⊕ Unit):SL:=(fun o=>two o (fun v=>⟨[(2,(.val T2 (3:Int)))],[]⟩) (fun v=>⟨[(0,(.val T24 a0)),(3,(.val T2 (len a0))),(6,(.val T2 v15)),(7,(.val T2 v17)),(27,(.val T2 (len a0))),(28,(.val T2 v15))],[]⟩)) o
noncomputable def r2_Poly.c4x (o:Unit ⊕ Unit):Ex:=(fun o=>two o (fun _=>.ret) (fun _=>(.exit 7))) o
noncomputable def r2_Poly.c4n (o:Unit ⊕ Unit):Nat:=(fun o=>two o (fun _=>0) (fun _=>0)) o
theorem r2_Poly.c4_ok (k:Nat) (a0:(List V22)) (v15 v17:Int):∀ (n:Nat) (v19:Int),Owp (r2_Poly.c4 k a0 v15 v17 n v19) fun o=>LTriple PR (r2_Poly.cx k) (sub r2_Poly.code [1,1,1,1,0,1,0,0,1,1,0,0,1,1,0,0,1,0,0,1,0,0]) 0 (r2_Poly.c4p a0 v15 v17 v19) (r2_Poly.c4x o) (r2_Poly.c4n o) (r2_Poly.c4q a0 v15 v17 o)
  | 0,_=>fun _ h=>nomatch h
  | n+1,v19=>Owp.of (r2_Poly.c4.eq_2 ..) (
   Owp.bif (fun e20 =>
   Owp.req fun h21 =>
   Owp.req fun h22 =>
   Owp.req fun h23 =>
   Owp.bnd fun y24 e25 =>
   Owp.bif (fun e26 =>
   Owp.some (loop_exit (r2_Poly.cok k) hmix [tT,rS T2 y24,tT] [] [] exne_ret (via (finP (aI (aI (aI (aI (aI (aI trivial e20) h21) h22) h23) e25) e26) .ret [] (r2_Poly.c4q a0 v15 v17 (.inl ()))) (by kernel_rfl)))) (fun e26 =>
   fun y hy=>loop_back (r2_Poly.cok k) hmix 0 (r2_Poly.c4p a0 v15 v17 (iadd .i64 v19 (1:Int))) [tT,rS T2 y24,fF] [] [] (via (finP (aI (aI (aI (aI (aI (aI trivial e20) h21) h22) h23) e25) e26) .normal [] (r2_Poly.c4p a0 v15 v17 (iadd .i64 v19 (1:Int)))) (by kernel_rfl)) ((r2_Poly.c4_ok k a0 v15 v17 n (iadd .i64 v19 (1:Int))).ap hy))) (fun e20 =>
   Owp.some (loop_exit (r2_Poly.cok k) hmix [fF] [] [] (exne 7) (via (finP (aI trivial e20) (.exit 7) [] (r2_Poly.c4q a0 v15 v17 (.inr ()))) (by kernel_rfl)))))
noncomputable def r2_Poly.c3p (a0:(List V22)) (v15 v17:Int):SL:=⟨[(0,(.val T24 a0)),(3,(.val T2 (len a0))),(6,(.val T2 v15)),(7,(.val T2 v17)),(27,(.val T2 (len a0))),(28,(.val T2 v15))],[]⟩
noncomputable def r2_Poly.c3q (a0:(List V22)) (v15:Int) (o:Unit ⊕ Unit):SL:=(fun o=>two o (fun v=>⟨[(2,(.val T2 (3:Int)))],[]⟩) (fun v=>⟨[(0,(.val T24 a0)),(3,(.val T2 (len a0))),(27,(.val T2 (len a0))),(28,(.val T2 v15))],[]⟩)) o
noncomputable def r2_Poly.c3x (o:Unit ⊕ Unit):Ex:=(fun o=>two o (fun _=>.ret) (fun _=>(.exit 5))) o
noncomputable def r2_Poly.c3n (o:Unit ⊕ Unit):Nat:=(fun o=>two o (fun _=>0) (fun _=>0)) o
theorem r2_Poly.c3_ok (k:Nat) (a0:(List V22)) (v15:Int):∀ (n:Nat) (v17:Int),Owp (r2_Poly.c3 k a0 v15 n v17) fun o=>LTriple PR (r2_Poly.cx k) (sub r2_Poly.code [1,1,1,1,0,1,0,0,1,1,0,0,1,1,0,0]) 0 (r2_Poly.c3p a0 v15 v17) (r2_Poly.c3x o) (r2_Poly.c3n o) (r2_Poly.c3q a0 v15 o)
  | 0,_=>fun _ h=>nomatch h
  | n+1,v17=>Owp.of (r2_Poly.c3.eq_2 ..) (
   Owp.bif (fun e18 =>
   Owp.bnd fun o27 e28 =>
   Owp.two (fun y29 e30 =>
   Owp.some (loop_exit (r2_Poly.cok k) hmix [tT,.cut ⟨[],[],(r2_Poly.c4p a0 v15 v17 (iadd .i64 v17 (1:Int))),0,.ret,(r2_Poly.c4q a0 v15 v17 (.inl ())),0⟩] [] [] exne_ret (via (cutP (aI trivial e18) [] (r2_Poly.c4p a0 v15 v17 (iadd .i64 v17 (1:Int))) (((r2_Poly.c4_ok k a0 v15 v17 k (iadd .i64 v17 (1:Int))).ap (e28.trans (congrArg some e30))).triple) (finP trivial .ret [] (r2_Poly.c3q a0 v15 (.inl ())))) (by kernel_rfl)))) (fun y31 e32 =>
   fun y hy=>loop_back (r2_Poly.cok k) hmix 0 (r2_Poly.c3p a0 v15 (iadd .i64 v17 (1:Int))) [tT,.cut ⟨[],[],(r2_Poly.c4p a0 v15 v17 (iadd .i64 v17 (1:Int))),0,(.exit 7),(r2_Poly.c4q a0 v15 v17 (.inr ())),0⟩] [] [] (via (cutP (aI trivial e18) [] (r2_Poly.c4p a0 v15 v17 (iadd .i64 v17 (1:Int))) (((r2_Poly.c4_ok k a0 v15 v17 k (iadd .i64 v17 (1:Int))).ap (e28.trans (congrArg some e32))).triple) (finP trivial .normal [] (r2_Poly.c3p a0 v15 (iadd .i64 v17 (1:Int))))) (by kernel_rfl)) ((r2_Poly.c3_ok k a0 v15 n (iadd .i64 v17 (1:Int))).ap hy))) (fun e18 =>
   Owp.some (loop_exit (r2_Poly.cok k) hmix [fF] [] [] (exne 5) (via (finP (aI trivial e18) (.exit 5) [] (r2_Poly.c3q a0 v15 (.inr ()))) (by kernel_rfl)))))
noncomputable def r2_Poly.c2p (a0:(List V22)) (v15:Int):SL:=⟨[(0,(.val T24 a0)),(3,(.val T2 (len a0))),(27,(.val T2 (len a0))),(28,(.val T2 v15))],[]⟩
noncomputable def r2_Poly.c2q (o:Unit ⊕ Unit):SL:=(fun o=>two o (fun v=>⟨[(2,(.val T2 (3:Int)))],[]⟩) (fun v=>⟨[],[]⟩)) o
noncomputable def r2_Poly.c2x (o:Unit ⊕ Unit):Ex:=(fun o=>two o (fun _=>.ret) (fun _=>(.exit 3))) o
noncomputable def r2_Poly.c2n (o:Unit ⊕ Unit):Nat:=(fun o=>two o (fun _=>0) (fun _=>0)) o
theorem r2_Poly.c2_ok (k:Nat) (a0:(List V22)):∀ (n:Nat) (v15:Int),Owp (r2_Poly.c2 k a0 n v15) fun o=>LTriple PR (r2_Poly.cx k) (sub r2_Poly.code [1,1,1,1,0,1,0,0]) 0 (r2_Poly.c2p a0 v15) (r2_Poly.c2x o) (r2_Poly.c2n o) (r2_Poly.c2q o)
  | 0,_=>fun _ h=>nomatch h
  | n+1,v15=>Owp.of (r2_Poly.c2.eq_2 ..) (
   Owp.bif (fun e16 =>
   Owp.bnd fun o33 e34 =>
   Owp.two (fun y35 e36 =>
   Owp.some (loop_exit (r2_Poly.cok k) hmix [tT,.cut ⟨[],[],(r2_Poly.c3p a0 v15 (iadd .i64 v15 (1:Int))),0,.ret,(r2_Poly.c3q a0 v15 (.inl ())),0⟩] [] [] exne_ret (via (cutP (aI trivial e16) [] (r2_Poly.c3p a0 v15 (iadd .i64 v15 (1:Int))) (((r2_Poly.c3_ok k a0 v15 k (iadd .i64 v15 (1:Int))).ap (e34.trans (congrArg some e36))).triple) (finP trivial .ret [] (r2_Poly.c2q (.inl ())))) (by kernel_rfl)))) (fun y37 e38 =>
   fun y hy=>loop_back (r2_Poly.cok k) hmix 0 (r2_Poly.c2p a0 (iadd .i64 v15 (1:Int))) [tT,.cut ⟨[],[],(r2_Poly.c3p a0 v15 (iadd .i64 v15 (1:Int))),0,(.exit 5),(r2_Poly.c3q a0 v15 (.inr ())),0⟩] [] [] (via (cutP (aI trivial e16) [] (r2_Poly.c3p a0 v15 (iadd .i64 v15 (1:Int))) (((r2_Poly.c3_ok k a0 v15 k (iadd .i64 v15 (1:Int))).ap (e34.trans (congrArg some e38))).triple) (finP trivial .normal [] (r2_Poly.c2p a0 (iadd .i64 v15 (1:Int))))) (by kernel_rfl)) ((r2_Poly.c2_ok k a0 n (iadd .i64 v15 (1:Int))).ap hy))) (fun e16 =>
   Owp.some (loop_exit (r2_Poly.cok k) hmix [fF] [] [] (exne 3) (via (finP (aI trivial e16) (.exit 3) [] (r2_Poly.c2q (.inr ()))) (by kernel_rfl)))))
theorem r2_Poly.way (k:Nat) (a0:(List V22)):Owp (r2_Poly k a0) fun y=>∃ w c0,exec PR (r2_Poly.cx k) r2_Poly.code 0 (entry (.pair T24 .unit) (a0,())).st w (Ret (r2_Poly.cx k) Tryz.f49 c0 (.one (.dp T2)) y):=by
  unfold r2_Poly; exact
   Owp.bif (fun e1 =>
   Owp.some (⟨[tT],[],via (retP (aI trivial e1) (.one (.dp T2)) ((2:Int):Int)) (by kernel_rfl)⟩)) (fun e1 =>
   Owp.bif (fun e2 =>
   Owp.some (⟨[fF,tT],[],via (retP (aI (aI trivial e1) e2) (.one (.dp T2)) ((3:Int):Int)) (by kernel_rfl)⟩)) (fun e2 =>
   Owp.bnd fun o9 e10 =>
   Owp.two (fun y11 e12 =>
   Owp.some (⟨[fF,fF,.cut ⟨[],[],(r2_Poly.c1p a0 (0:Int)),0,.ret,(r2_Poly.c1q a0 (.inl ())),0⟩],[],via (cutP (aI (aI trivial e1) e2) [] (r2_Poly.c1p a0 (0:Int)) (((r2_Poly.c1_ok k a0 k (0:Int)).ap (e10.trans (congrArg some e12))).triple) (retP trivial (.one (.dp T2)) ((1:Int):Int))) (by kernel_rfl)⟩)) (fun y13 e14 =>
   Owp.bnd fun o39 e40 =>
   Owp.two (fun y41 e42 =>
   Owp.some (⟨[fF,fF,.cut ⟨[],[],(r2_Poly.c1p a0 (0:Int)),0,(.exit 1),(r2_Poly.c1q a0 (.inr ())),0⟩,.cut ⟨[],[],(r2_Poly.c2p a0 (0:Int)),0,.ret,(r2_Poly.c2q (.inl ())),0⟩],[],via (cutP (aI (aI trivial e1) e2) [] (r2_Poly.c1p a0 (0:Int)) (((r2_Poly.c1_ok k a0 k (0:Int)).ap (e10.trans (congrArg some e14))).triple) (cutP trivial [] (r2_Poly.c2p a0 (0:Int)) (((r2_Poly.c2_ok k a0 k (0:Int)).ap (e40.trans (congrArg some e42))).triple) (retP trivial (.one (.dp T2)) ((3:Int):Int)))) (by kernel_rfl)⟩)) (fun y43 e44 =>
   Owp.some (⟨[fF,fF,.cut ⟨[],[],(r2_Poly.c1p a0 (0:Int)),0,(.exit 1),(r2_Poly.c1q a0 (.inr ())),0⟩,.cut ⟨[],[],(r2_Poly.c2p a0 (0:Int)),0,(.exit 3),(r2_Poly.c2q (.inr ())),0⟩],[],via (cutP (aI (aI trivial e1) e2) [] (r2_Poly.c1p a0 (0:Int)) (((r2_Poly.c1_ok k a0 k (0:Int)).ap (e10.trans (congrArg some e14))).triple) (cutP trivial [] (r2_Poly.c2p a0 (0:Int)) (((r2_Poly.c2_ok k a0 k (0:Int)).ap (e40.trans (congrArg some e44))).triple) (retP trivial (.one (.dp T2)) ((0:Int):Int)))) (by kernel_rfl)⟩)))))
theorem r2_Poly.ok (k:Nat):FnOk PR 49 (r2_Poly.sp k) :=
  fn_ok (r2_Poly.cok k) hmix Tryz.func49 (code:=r2_Poly.code) (by kernel_rfl) (by kernel_rfl) (by kernel_rfl) rfl (by kernel_rfl) (by kernel_rfl) (by kernel_rfl) (fun x=>Nat.le_of_ble_eq_true (by kernel_rfl)) fun x y hy=>(r2_Poly.way k x.1).ap hy
noncomputable def r2_Inside.code:Code:=Func.cd Tryz.f54
def r2_Inside.c2 (k:Nat) (a0:(List V22)) (a1:V22) (v4:Int):Option (Bool) :=
  req (inL 0 a0) <|
  req (inL (isub .i64 v4 1) a0) <|
  bnd (r2_left k (el Z22 a0 0) (el Z22 a0 (isub .i64 v4 1)) a1) fun y8 =>
  bif' (ige y8 0)
  (req (inL v4 a0) <|
   bnd (r2_left k (el Z22 a0 (isub .i64 v4 1)) (el Z22 a0 v4) a1) fun y12 =>
   bif' (ige y12 0)
   (bnd (r2_left k (el Z22 a0 v4) (el Z22 a0 0) a1) fun y15 =>
   some (ige y15 0))
   (some false))
  (some false)
def r2_Inside.c1 (k:Nat) (a0:(List V22)) (a1:V22):Nat → Int → Option (Unit ⊕ Unit)
  | 0,_=>none
  | n+1,v4 =>
   bif' (ilt v4 (len a0))
   (bnd (r2_Inside.c2 k a0 a1 v4) fun o17 =>
   bif' o17
   (some (.inl ()))
   (r2_Inside.c1 k a0 a1 n (iadd .i64 v4 1)))
   (some (.inr ()))
def r2_Inside (k:Nat) (a0:(List V22)) (a1:V22):Option Bool :=
  bnd (r2_coord k a1 65536000) fun y1 =>
  bif' y1
  (bnd (r2_Inside.c1 k a0 a1 k 2) fun o20 =>
   two o20 (fun y22 =>
   some true) (fun y24 =>
   some false))
  (some false)
noncomputable def r2_Inside.sp (k:Nat):Go.Sx.Spec:=⟨(.pair T24 (.pair T22 .unit)),(.one (.dp T4)),fun x=>r2_Inside k x.1 x.2.1,false⟩
noncomputable def r2_Inside.cx (k:Nat):Go.Sx.Ctx:=⟨tys,[(24,r2_coord.sp k),(89,r2_left.sp k)],eqs,52,false⟩
theorem r2_Inside.cok (k:Nat):CtxOk PR (r2_Inside.cx k):=ctx_ok tysOk eqsOk (FnsOk.cons (r2_coord.ok k) (FnsOk.cons (r2_left.ok k) FnsOk.nil))
noncomputable def r2_Inside.c2p (a0:(List V22)) (a1:V22) (v4:Int):SL:=⟨[(0,(.val T24 a0)),(3,(.val .ptr ⟨0,0,(0:Int),0,0⟩)),(5,(.val T2 v4))],[(0,.cells T22 a1)]⟩
noncomputable def r2_Inside.c2q (a0:(List V22)) (a1:V22) (v4:Int) (o:Bool):SL:=(fun v=>⟨[(0,(.val T24 a0)),(3,(.val .ptr ⟨0,0,(0:Int),0,0⟩)),(5,(.val T2 v4)),(51,(.val T4 v))],[(0,.cells T22 a1)]⟩) o
noncomputable def r2_Inside.c2x (o:Bool):Ex:=(fun _=>.normal) o
noncomputable def r2_Inside.c2n (o:Bool):Nat:=(fun _=>1) o
theorem r2_Inside.c2_ok (k:Nat) (a0:(List V22)) (a1:V22) (v4:Int):Owp (r2_Inside.c2 k a0 a1 v4) fun o=>Triple PR (r2_Inside.cx k) (sub r2_Inside.code [1,1,0,1,0,0,1,0,0,0]) 1 (r2_Inside.c2p a0 a1 v4) (r2_Inside.c2x o) (r2_Inside.c2n o) (r2_Inside.c2q a0 a1 v4 o):=by
  unfold r2_Inside.c2; exact
   Owp.req fun h6 =>
   Owp.req fun h7 =>
   Owp.bnd fun y8 e9 =>
   Owp.bif (fun e10 =>
   Owp.req fun h11 =>
   Owp.bnd fun y12 e13 =>
   Owp.bif (fun e14 =>
   Owp.bnd fun y15 e16 =>
   Owp.some (triple_way (r2_Inside.cok k) hmix [rS T2 y8,tT,tT,tT,tT,tT,tT,tT,tT,tT,tT,tT,rS T2 y12,tT,tT,tT,tT,tT,tT,tT,tT,tT,tT,tT,rS T2 y15,tT,tT] [] [(0,0)] (via (finP (aI (aI (aI (aI (aI (aI (aI (aI (aI (aI (aI (aI (aI (aI (aI (aI (aI (aI (aI (aI (aI (aI (aI (aI (aI (aI (aI trivial h6) h7) e9) e10) e10) e10) (aI e10 h7)) e10) e10) e10) (aI e10 h11)) e10) e10) (aI e10 e13)) e10) e10) e14) e14) (aI e14 h11)) e14) e14) (aI e14 h6)) e14) e14) (aI e14 e16)) e14) e14) .normal [(0,0)] (r2_Inside.c2q a0 a1 v4 (ige y15 (0:Int)))) (by kernel_rfl)))) (fun e14 =>
   Owp.some (triple_way (r2_Inside.cok k) hmix [rS T2 y8,tT,tT,tT,tT,tT,tT,tT,tT,tT,tT,tT,rS T2 y12,tT,tT,fF,fF,fF,fF,fF,fF,fF,fF,fF,tT,fF,fF] [] [(0,0)] (via (finP (aI (aI (aI (aI (aI (aI (aI (aI (aI (aI (aI (aI (aI (aI (aI (aI (aI (aI (aI (aI (aI (aI (aI (aI (aI (aI (aI trivial h6) h7) e9) e10) e10) e10) (aI e10 h7)) e10) e10) e10) (aI e10 h11)) e10) e10) (aI e10 e13)) e10) e10) e14) e14) e14) e14) e14) e14) e14) e14) e14) e14) e14) .normal [(0,0)] (r2_Inside.c2q a0 a1 v4 false)) (by kernel_rfl))))) (fun e10 =>
   Owp.some (triple_way (r2_Inside.cok k) hmix [rS T2 y8,fF,fF,fF,fF,fF,fF,fF,fF,fF,fF,fF,tT,fF,fF,fF,fF,fF,fF,fF,fF,fF,fF,fF,tT,fF,fF] [] [(0,0)] (via (finP (aI (aI (aI (aI (aI (aI (aI (aI (aI (aI (aI (aI (aI (aI (aI (aI (aI (aI (aI (aI (aI (aI (aI (aI (aI (aI (aI trivial h6) h7) e9) e10) e10) e10) e10) e10) e10) e10) e10) e10) e10) e10) e10) e10) ff) ff) ff) ff) ff) ff) ff) ff) ff) ff) ff) .normal [(0,0)] (r2_Inside.c2q a0 a1 v4 false)) (by kernel_rfl))))
noncomputable def r2_Inside.c1p (a0:(List V22)) (a1:V22) (v4:Int):SL:=⟨[(0,(.val T24 a0)),(3,(.val .ptr ⟨0,0,(0:Int),0,0⟩)),(5,(.val T2 v4))],[(0,.cells T22 a1)]⟩
noncomputable def r2_Inside.c1q (o:Unit ⊕ Unit):SL:=(fun o=>two o (fun v=>⟨[(4,(.val T4 true))],[]⟩) (fun v=>⟨[],[]⟩)) o
noncomputable def r2_Inside.c1x (o:Unit ⊕ Unit):Ex:=(fun o=>two o (fun _=>.ret) (fun _=>(.exit 0))) o
noncomputable def r2_Inside.c1n (o:Unit ⊕ Unit):Nat:=(fun o=>two o (fun _=>0) (fun _=>0)) o
theorem r2_Inside.c1_ok (k:Nat) (a0:(List V22)) (a1:V22):∀ (n:Nat) (v4:Int),Owp (r2_Inside.c1 k a0 a1 n v4) fun o=>LTriple PR (r2_Inside.cx k) (sub r2_Inside.code [1,1,0,1,0,0]) 1 (r2_Inside.c1p a0 a1 v4) (r2_Inside.c1x o) (r2_Inside.c1n o) (r2_Inside.c1q o)
  | 0,_=>fun _ h=>nomatch h
  | n+1,v4=>Owp.of (r2_Inside.c1.eq_2 ..) (
   Owp.bif (fun e5 =>
   Owp.bnd fun o17 e18 =>
   Owp.bif (fun e19 =>
   Owp.some (loop_exit (r2_Inside.cok k) hmix [tT,.cutR 6 ⟨[],[(0,0)],(r2_Inside.c2p a0 a1 v4),1,.normal,(r2_Inside.c2q a0 a1 v4 o17),1⟩,tT] [] [] exne_ret (via (cutP (aI trivial e5) [(0,0)] (r2_Inside.c2p a0 a1 v4) (((r2_Inside.c2_ok k a0 a1 v4).ap e18)) (finP (aI trivial e19) .ret [] (r2_Inside.c1q (.inl ())))) (by kernel_rfl)))) (fun e19 =>
   fun y hy=>loop_back (r2_Inside.cok k) hmix 1 (r2_Inside.c1p a0 a1 (iadd .i64 v4 (1:Int))) [tT,.cutR 6 ⟨[],[(0,0)],(r2_Inside.c2p a0 a1 v4),1,.normal,(r2_Inside.c2q a0 a1 v4 o17),1⟩,fF] [] [(0,0)] (via (cutP (aI trivial e5) [(0,0)] (r2_Inside.c2p a0 a1 v4) (((r2_Inside.c2_ok k a0 a1 v4).ap e18)) (finP (aI trivial e19) .normal [(0,0)] (r2_Inside.c1p a0 a1 (iadd .i64 v4 (1:Int))))) (by kernel_rfl)) ((r2_Inside.c1_ok k a0 a1 n (iadd .i64 v4 (1:Int))).ap hy))) (fun e5 =>
   Owp.some (loop_exit (r2_Inside.cok k) hmix [fF] [] [] (exne 0) (via (finP (aI trivial e5) (.exit 0) [] (r2_Inside.c1q (.inr ()))) (by kernel_rfl)))))
theorem r2_Inside.way (k:Nat) (a0:(List V22)) (a1:V22):Owp (r2_Inside k a0 a1) fun y=>∃ w c0,exec PR (r2_Inside.cx k) r2_Inside.code 0 (entry (.pair T24 (.pair T22 .unit)) (a0,a1,())).st w (Ret (r2_Inside.cx k) Tryz.f54 c0 (.one (.dp T4)) y):=by
  unfold r2_Inside; exact
   Owp.bnd fun y1 e2 =>
   Owp.bif (fun e3 =>
   Owp.bnd fun o20 e21 =>
   Owp.two (fun y22 e23 =>
   Owp.some (⟨[rS T4 y1,fF,.cut ⟨[],[(0,0)],(r2_Inside.c1p a0 a1 (2:Int)),1,.ret,(r2_Inside.c1q (.inl ())),0⟩],[],via (cutP (aI (aI trivial e2) (congrArg not e3)) [(0,0)] (r2_Inside.c1p a0 a1 (2:Int)) (((r2_Inside.c1_ok k a0 a1 k (2:Int)).ap (e21.trans (congrArg some e23))).triple) (retP trivial (.one (.dp T4)) (true:Bool))) (by kernel_rfl)⟩)) (fun y24 e25 =>
   Owp.some (⟨[rS T4 y1,fF,.cut ⟨[],[(0,0)],(r2_Inside.c1p a0 a1 (2:Int)),1,(.exit 0),(r2_Inside.c1q (.inr ())),0⟩],[],via (cutP (aI (aI trivial e2) (congrArg not e3)) [(0,0)] (r2_Inside.c1p a0 a1 (2:Int)) (((r2_Inside.c1_ok k a0 a1 k (2:Int)).ap (e21.trans (congrArg some e25))).triple) (retP trivial (.one (.dp T4)) (false:Bool))) (by kernel_rfl)⟩))) (fun e3 =>
   Owp.some (⟨[rS T4 y1,tT],[],via (retP (aI (aI trivial e2) (congrArg not e3)) (.one (.dp T4)) (false:Bool)) (by kernel_rfl)⟩))
theorem r2_Inside.ok (k:Nat):FnOk PR 54 (r2_Inside.sp k) :=
  fn_ok (r2_Inside.cok k) hmix Tryz.func54 (code:=r2_Inside.code) (by kernel_rfl) (by kernel_rfl) (by kernel_rfl) rfl (by kernel_rfl) (by kernel_rfl) (by kernel_rfl) (fun x=>Nat.le_of_ble_eq_true (by kernel_rfl)) fun x y hy=>(r2_Inside.way k x.1 x.2.1).ap hy
noncomputable def r2_Corners.code:Code:=Func.cd Tryz.f23
def r2_Corners.c1 (k:Nat) (a0:(List V22)):Nat → Int → Option (Unit ⊕ Unit)
  | 0,_=>none
  | n+1,v4 =>
   bif' (ilt v4 (len a0))
   (req (inL v4 a0) <|
   bnd (r2_coord k (el Z22 a0 v4) 2097152) fun y7 =>
   bif' y7
   (r2_Corners.c1 k a0 n (iadd .i64 v4 1))
   (some (.inl ())))
   (some (.inr ()))
def r2_Corners.c3 (k:Nat) (a0:(List V22)) (v16:Int) (y21:V22):Nat → Int → Option (Unit ⊕ Unit)
  | 0,_=>none
  | n+1,v23 =>
   bif' (ilt v23 (len a0))
   (req (nz (len a0)) <|
   req (inL (irem (iadd .i64 v16 v23) (len a0)) a0) <|
   bnd (r2_sub k (el Z22 a0 (irem (iadd .i64 v16 v23) (len a0))) (el Z22 a0 v16)) fun y27 =>
   bnd (r2_Cross k y21 y27) fun y29 =>
   bnd (r2_Of k (imul .i64 8 (iadd .i64 (iadd .i64 (iadd .i64 (imax y21.1 (ineg .i64 y21.1)) (imax y21.2.1 (ineg .i64 y21.2.1))) (imax y27.1 (ineg .i64 y27.1))) (imax y27.2.1 (ineg .i64 y27.2.1))))) fun y31 =>
   bnd (r2_Big_Cmp k y29 y31) fun y33 =>
   bif' (ilt y33 0)
   (some (.inl ()))
   (r2_Corners.c3 k a0 v16 y21 n (iadd .i64 v23 1)))
   (some (.inr ()))
def r2_Corners.c2 (k:Nat) (a0:(List V22)):Nat → Int → Option (Unit ⊕ Unit)
  | 0,_=>none
  | n+1,v16 =>
   bif' (ilt v16 (len a0))
   (req (inL v16 a0) <|
   req (nz (len a0)) <|
   req (inL (irem (iadd .i64 v16 1) (len a0)) a0) <|
   bnd (r2_sub k (el Z22 a0 (irem (iadd .i64 v16 1) (len a0))) (el Z22 a0 v16)) fun y21 =>
   bnd (r2_Corners.c3 k a0 v16 y21 k 2) fun o36 =>
   two o36 (fun y38 =>
   some (.inl ())) (fun y40 =>
   r2_Corners.c2 k a0 n (iadd .i64 v16 1)))
   (some (.inr ()))
def r2_Corners (k:Nat) (a0:(List V22)):Option Int :=
  bnd (r2_Poly k a0) fun y1 =>
  bif' (ine y1 0)
  (some y1)
  (bnd (r2_Corners.c1 k a0 k 0) fun o10 =>
   two o10 (fun y12 =>
   some 1) (fun y14 =>
   bnd (r2_Corners.c2 k a0 k 0) fun o42 =>
   two o42 (fun y44 =>
   some 3) (fun y46 =>
   bnd (r2_Inside k a0 (0,0,())) fun y48 =>
   bif' y48
   (some 0)
   (some 3))))
noncomputable def r2_Corners.sp (k:Nat):Go.Sx.Spec:=⟨(.pair T24 .unit),(.one (.dp T2)),fun x=>r2_Corners k x.1,false⟩
noncomputable def r2_Corners.cx (k:Nat):Go.Sx.Ctx:=⟨tys,[(49,r2_Poly.sp k),(24,r2_coord.sp k),(50,r2_sub.sp k),(51,r2_Cross.sp k),(53,r2_Of.sp k),(52,r2_Big_Cmp.sp k),(54,r2_Inside.sp k)],eqs,99,false⟩
theorem r2_Corners.cok (k:Nat):CtxOk PR (r2_Corners.cx k):=ctx_ok tysOk eqsOk (FnsOk.cons (r2_Poly.ok k) (FnsOk.cons (r2_coord.ok k) (FnsOk.cons (r2_sub.ok k) (FnsOk.cons (r2_Cross.ok k) (FnsOk.cons (r2_Of.ok k) (FnsOk.cons (r2_Big_Cmp.ok k) (FnsOk.cons (r2_Inside.ok k) FnsOk.nil)))))))
noncomputable def r2_Corners.c1p (a0:(List V22)) (v4:Int):SL:=⟨[(0,(.val T24 a0)),(16,(.val T24 a0)),(17,(.val T2 (len a0))),(18,(.val T2 v4))],[]⟩
noncomputable def r2_Corners.c1q (a0:(List V22)) (o:Unit ⊕ Unit):SL:=(fun o=>two o (fun v=>⟨[(2,(.val T2 (1:Int)))],[]⟩) (fun v=>⟨[(0,(.val T24 a0))],[]⟩)) o
noncomputable def r2_Corners.c1x (o:Unit ⊕ Unit):Ex:=(fun o=>two o (fun _=>.ret) (fun _=>(.exit 0))) o
noncomputable def r2_Corners.c1n (o:Unit ⊕ Unit):Nat:=(fun o=>two o (fun _=>0) (fun _=>0)) o
theorem r2_Corners.c1_ok (k:Nat) (a0:(List V22)):∀ (n:Nat) (v4:Int),Owp (r2_Corners.c1 k a0 n v4) fun o=>LTriple PR (r2_Corners.cx k) (sub r2_Corners.code [1,1,0,1,0,0]) 0 (r2_Corners.c1p a0 v4) (r2_Corners.c1x o) (r2_Corners.c1n o) (r2_Corners.c1q a0 o)
  | 0,_=>fun _ h=>nomatch h
  | n+1,v4=>Owp.of (r2_Corners.c1.eq_2 ..) (
   Owp.bif (fun e5 =>
   Owp.req fun h6 =>
   Owp.bnd fun y7 e8 =>
   Owp.bif (fun e9 =>
   fun y hy=>loop_back (r2_Corners.cok k) hmix 0 (r2_Corners.c1p a0 (iadd .i64 v4 (1:Int))) [tT,rS T4 y7,fF] [] [] (via (finP (aI (aI (aI (aI trivial e5) h6) e8) (congrArg not e9)) .normal [] (r2_Corners.c1p a0 (iadd .i64 v4 (1:Int)))) (by kernel_rfl)) ((r2_Corners.c1_ok k a0 n (iadd .i64 v4 (1:Int))).ap hy)) (fun e9 =>
   Owp.some (loop_exit (r2_Corners.cok k) hmix [tT,rS T4 y7,tT] [] [] exne_ret (via (finP (aI (aI (aI (aI trivial e5) h6) e8) (congrArg not e9)) .ret [] (r2_Corners.c1q a0 (.inl ()))) (by kernel_rfl))))) (fun e5 =>
   Owp.some (loop_exit (r2_Corners.cok k) hmix [fF] [] [] (exne 0) (via (finP (aI trivial e5) (.exit 0) [] (r2_Corners.c1q a0 (.inr ()))) (by kernel_rfl)))))
noncomputable def r2_Corners.c3p (a0:(List V22)) (v16:Int) (y21:V22) (v23:Int):SL:=⟨[(0,(.val T24 a0)),(6,(.val T2 v16)),(7,(.val .ptr ⟨0,0,(0:Int),0,0⟩)),(8,(.val .ptr ⟨1,0,(0:Int),0,0⟩)),(9,(.val T2 v23)),(26,(.val T24 a0)),(27,(.val T2 (len a0))),(28,(.val T2 v16))],[(0,.cells T22 (el Z22 a0 v16)),(1,.cells T22 y21)]⟩
noncomputable def r2_Corners.c3q (a0:(List V22)) (v16:Int) (o:Unit ⊕ Unit):SL:=(fun o=>two o (fun v=>⟨[(2,(.val T2 (3:Int)))],[]⟩) (fun v=>⟨[(0,(.val T24 a0)),(26,(.val T24 a0)),(27,(.val T2 (len a0))),(28,(.val T2 v16))],[]⟩)) o
noncomputable def r2_Corners.c3x (o:Unit ⊕ Unit):Ex:=(fun o=>two o (fun _=>.ret) (fun _=>(.exit 4))) o
noncomputable def r2_Corners.c3n (o:Unit ⊕ Unit):Nat:=(fun o=>two o (fun _=>0) (fun _=>0)) o
theorem r2_Corners.c3_ok (k:Nat) (a0:(List V22)) (v16:Int) (y21:V22):∀ (n:Nat) (v23:Int),Owp (r2_Corners.c3 k a0 v16 y21 n v23) fun o=>LTriple PR (r2_Corners.cx k) (sub r2_Corners.code [1,1,1,0,1,0,0,1,1,0,0,1,1,1,0,0]) 2 (r2_Corners.c3p a0 v16 y21 v23) (r2_Corners.c3x o) (r2_Corners.c3n o) (r2_Corners.c3q a0 v16 o)
  | 0,_=>fun _ h=>nomatch h
  | n+1,v23=>Owp.of (r2_Corners.c3.eq_2 ..) (
   Owp.bif (fun e24 =>
   Owp.req fun h25 =>
   Owp.req fun h26 =>
   Owp.bnd fun y27 e28 =>
   Owp.bnd fun y29 e30 =>
   Owp.bnd fun y31 e32 =>
   Owp.bnd fun y33 e34 =>
   Owp.bif (fun e35 =>
   Owp.some (loop_exit (r2_Corners.cok k) hmix [tT,rS T22 y27,rS T72 y29,rS T72 y31,rS T2 y33,tT] [] [] exne_ret (via (finP (aI (aI (aI (aI (aI (aI (aI (aI trivial e24) h25) h26) e28) e30) e32) e34) e35) .ret [] (r2_Corners.c3q a0 v16 (.inl ()))) (by kernel_rfl)))) (fun e35 =>
   fun y hy=>loop_back (r2_Corners.cok k) hmix 2 (r2_Corners.c3p a0 v16 y21 (iadd .i64 v23 (1:Int))) [tT,rS T22 y27,rS T72 y29,rS T72 y31,rS T2 y33,fF] [] [(0,0),(1,1)] (via (finP (aI (aI (aI (aI (aI (aI (aI (aI trivial e24) h25) h26) e28) e30) e32) e34) e35) .normal [(0,0),(1,1)] (r2_Corners.c3p a0 v16 y21 (iadd .i64 v23 (1:Int)))) (by kernel_rfl)) ((r2_Corners.c3_ok k a0 v16 y21 n (iadd .i64 v23 (1:Int))).ap hy))) (fun e24 =>
   Owp.some (loop_exit (r2_Corners.cok k) hmix [fF] [] [] (exne 4) (via (finP (aI trivial e24) (.exit 4) [] (r2_Corners.c3q a0 v16 (.inr ()))) (by kernel_rfl)))))
noncomputable def r2_Corners.c2p (a0:(List V22)) (v16:Int):SL:=⟨[(0,(.val T24 a0)),(26,(.val T24 a0)),(27,(.val T2 (len a0))),(28,(.val T2 v16))],[]⟩
noncomputable def r2_Corners.c2q (a0:(List V22)) (o:Unit ⊕ Unit):SL:=(fun o=>two o (fun v=>⟨[(2,(.val T2 (3:Int)))],[]⟩) (fun v=>⟨[(0,(.val T24 a0))],[]⟩)) o
noncomputable def r2_Corners.c2x (o:Unit ⊕ Unit):Ex:=(fun o=>two o (fun _=>.ret) (fun _=>(.exit 2))) o
noncomputable def r2_Corners.c2n (o:Unit ⊕ Unit):Nat:=(fun o=>two o (fun _=>0) (fun _=>0)) o
theorem r2_Corners.c2_ok (k:Nat) (a0:(List V22)):∀ (n:Nat) (v16:Int),Owp (r2_Corners.c2 k a0 n v16) fun o=>LTriple PR (r2_Corners.cx k) (sub r2_Corners.code [1,1,1,0,1,0,0]) 0 (r2_Corners.c2p a0 v16) (r2_Corners.c2x o) (r2_Corners.c2n o) (r2_Corners.c2q a0 o)
  | 0,_=>fun _ h=>nomatch h
  | n+1,v16=>Owp.of (r2_Corners.c2.eq_2 ..) (
   Owp.bif (fun e17 =>
   Owp.req fun h18 =>
   Owp.req fun h19 =>
   Owp.req fun h20 =>
   Owp.bnd fun y21 e22 =>
   Owp.bnd fun o36 e37 =>
   Owp.two (fun y38 e39 =>
   Owp.some (loop_exit (r2_Corners.cok k) hmix [tT,rS T22 y21,.cut ⟨[],[(0,4),(1,17)],(r2_Corners.c3p a0 v16 y21 (2:Int)),2,.ret,(r2_Corners.c3q a0 v16 (.inl ())),0⟩] [] [] exne_ret (via (cutP (aI (aI (aI (aI (aI trivial e17) h18) h19) h20) e22) [(0,4),(1,17)] (r2_Corners.c3p a0 v16 y21 (2:Int)) (((r2_Corners.c3_ok k a0 v16 y21 k (2:Int)).ap (e37.trans (congrArg some e39))).triple) (finP trivial .ret [] (r2_Corners.c2q a0 (.inl ())))) (by kernel_rfl)))) (fun y40 e41 =>
   fun y hy=>loop_back (r2_Corners.cok k) hmix 0 (r2_Corners.c2p a0 (iadd .i64 v16 (1:Int))) [tT,rS T22 y21,.cut ⟨[],[(0,4),(1,17)],(r2_Corners.c3p a0 v16 y21 (2:Int)),2,(.exit 4),(r2_Corners.c3q a0 v16 (.inr ())),0⟩] [] [] (via (cutP (aI (aI (aI (aI (aI trivial e17) h18) h19) h20) e22) [(0,4),(1,17)] (r2_Corners.c3p a0 v16 y21 (2:Int)) (((r2_Corners.c3_ok k a0 v16 y21 k (2:Int)).ap (e37.trans (congrArg some e41))).triple) (finP trivial .normal [] (r2_Corners.c2p a0 (iadd .i64 v16 (1:Int))))) (by kernel_rfl)) ((r2_Corners.c2_ok k a0 n (iadd .i64 v16 (1:Int))).ap hy))) (fun e17 =>
   Owp.some (loop_exit (r2_Corners.cok k) hmix [fF] [] [] (exne 2) (via (finP (aI trivial e17) (.exit 2) [] (r2_Corners.c2q a0 (.inr ()))) (by kernel_rfl)))))
theorem r2_Corners.way (k:Nat) (a0:(List V22)):Owp (r2_Corners k a0) fun y=>∃ w c0,exec PR (r2_Corners.cx k) r2_Corners.code 0 (entry (.pair T24 .unit) (a0,())).st w (Ret (r2_Corners.cx k) Tryz.f23 c0 (.one (.dp T2)) y):=by
  unfold r2_Corners; exact
   Owp.bnd fun y1 e2 =>
   Owp.bif (fun e3 =>
   Owp.some (⟨[rS T2 y1,tT],[],via (retP (aI (aI trivial e2) e3) (.one (.dp T2)) (y1:Int)) (by kernel_rfl)⟩)) (fun e3 =>
   Owp.bnd fun o10 e11 =>
   Owp.two (fun y12 e13 =>
   Owp.some (⟨[rS T2 y1,fF,.cut ⟨[],[],(r2_Corners.c1p a0 (0:Int)),0,.ret,(r2_Corners.c1q a0 (.inl ())),0⟩],[],via (cutP (aI (aI trivial e2) e3) [] (r2_Corners.c1p a0 (0:Int)) (((r2_Corners.c1_ok k a0 k (0:Int)).ap (e11.trans (congrArg some e13))).triple) (retP trivial (.one (.dp T2)) ((1:Int):Int))) (by kernel_rfl)⟩)) (fun y14 e15 =>
   Owp.bnd fun o42 e43 =>
   Owp.two (fun y44 e45 =>
   Owp.some (⟨[rS T2 y1,fF,.cut ⟨[],[],(r2_Corners.c1p a0 (0:Int)),0,(.exit 0),(r2_Corners.c1q a0 (.inr ())),0⟩,.cut ⟨[],[],(r2_Corners.c2p a0 (0:Int)),0,.ret,(r2_Corners.c2q a0 (.inl ())),0⟩],[],via (cutP (aI (aI trivial e2) e3) [] (r2_Corners.c1p a0 (0:Int)) (((r2_Corners.c1_ok k a0 k (0:Int)).ap (e11.trans (congrArg some e15))).triple) (cutP trivial [] (r2_Corners.c2p a0 (0:Int)) (((r2_Corners.c2_ok k a0 k (0:Int)).ap (e43.trans (congrArg some e45))).triple) (retP trivial (.one (.dp T2)) ((3:Int):Int)))) (by kernel_rfl)⟩)) (fun y46 e47 =>
   Owp.bnd fun y48 e49 =>
   Owp.bif (fun e50 =>
   Owp.some (⟨[rS T2 y1,fF,.cut ⟨[],[],(r2_Corners.c1p a0 (0:Int)),0,(.exit 0),(r2_Corners.c1q a0 (.inr ())),0⟩,.cut ⟨[],[],(r2_Corners.c2p a0 (0:Int)),0,(.exit 2),(r2_Corners.c2q a0 (.inr ())),0⟩,rS T4 y48,fF],[],via (cutP (aI (aI trivial e2) e3) [] (r2_Corners.c1p a0 (0:Int)) (((r2_Corners.c1_ok k a0 k (0:Int)).ap (e11.trans (congrArg some e15))).triple) (cutP trivial [] (r2_Corners.c2p a0 (0:Int)) (((r2_Corners.c2_ok k a0 k (0:Int)).ap (e43.trans (congrArg some e47))).triple) (retP (aI (aI trivial e49) (congrArg not e50)) (.one (.dp T2)) ((0:Int):Int)))) (by kernel_rfl)⟩)) (fun e50 =>
   Owp.some (⟨[rS T2 y1,fF,.cut ⟨[],[],(r2_Corners.c1p a0 (0:Int)),0,(.exit 0),(r2_Corners.c1q a0 (.inr ())),0⟩,.cut ⟨[],[],(r2_Corners.c2p a0 (0:Int)),0,(.exit 2),(r2_Corners.c2q a0 (.inr ())),0⟩,rS T4 y48,tT],[],via (cutP (aI (aI trivial e2) e3) [] (r2_Corners.c1p a0 (0:Int)) (((r2_Corners.c1_ok k a0 k (0:Int)).ap (e11.trans (congrArg some e15))).triple) (cutP trivial [] (r2_Corners.c2p a0 (0:Int)) (((r2_Corners.c2_ok k a0 k (0:Int)).ap (e43.trans (congrArg some e47))).triple) (retP (aI (aI trivial e49) (congrArg not e50)) (.one (.dp T2)) ((3:Int):Int)))) (by kernel_rfl)⟩)))))
theorem r2_Corners.ok (k:Nat):FnOk PR 23 (r2_Corners.sp k) :=
  fn_ok (r2_Corners.cok k) hmix Tryz.func23 (code:=r2_Corners.code) (by kernel_rfl) (by kernel_rfl) (by kernel_rfl) rfl (by kernel_rfl) (by kernel_rfl) (by kernel_rfl) (fun x=>Nat.le_of_ble_eq_true (by kernel_rfl)) fun x y hy=>(r2_Corners.way k x.1).ap hy
noncomputable def r2_between.code:Code:=Func.cd Tryz.f25
def r2_between (k:Nat) (a0 a1 a2:Int):Option Bool :=
  bif' (ile a1 a0)
  (some (ile a0 a2))
  (some false)
noncomputable def r2_between.sp (k:Nat):Go.Sx.Spec:=⟨(.pair T2 T22),(.one (.dp T4)),fun x=>r2_between k x.1 x.2.1 x.2.2.1,false⟩
noncomputable def r2_between.cx (k:Nat):Go.Sx.Ctx:=⟨tys,[],eqs,15,false⟩
theorem r2_between.cok (k:Nat):CtxOk PR (r2_between.cx k):=ctx_ok tysOk eqsOk FnsOk.nil
theorem r2_between.way (k:Nat) (a0 a1 a2:Int):Owp (r2_between k a0 a1 a2) fun y=>∃ w c0,exec PR (r2_between.cx k) r2_between.code 0 (entry (.pair T2 T22) (a0,a1,a2,())).st w (Ret (r2_between.cx k) Tryz.f25 c0 (.one (.dp T4)) y):=by
  unfold r2_between; exact
   Owp.bif (fun e1 =>
   Owp.some (⟨[tT,tT,tT,tT],[],via (retP (aI (aI (aI (aI trivial e1) e1) e1) e1) (.one (.dp T4)) ((ile a0 a2):Bool)) (by kernel_rfl)⟩)) (fun e1 =>
   Owp.some (⟨[fF,fF,fF,fF],[],via (retP (aI (aI (aI (aI trivial e1) e1) e1) e1) (.one (.dp T4)) (false:Bool)) (by kernel_rfl)⟩))
theorem r2_between.ok (k:Nat):FnOk PR 25 (r2_between.sp k) :=
  fn_ok (r2_between.cok k) hmix Tryz.func25 (code:=r2_between.code) (by kernel_rfl) (by kernel_rfl) (by kernel_rfl) rfl (by kernel_rfl) (by kernel_rfl) (by kernel_rfl) (fun x=>Nat.le_of_ble_eq_true (by kernel_rfl)) fun x y hy=>(r2_between.way k x.1 x.2.1 x.2.2.1).ap hy
end Go.Proofs.T1
