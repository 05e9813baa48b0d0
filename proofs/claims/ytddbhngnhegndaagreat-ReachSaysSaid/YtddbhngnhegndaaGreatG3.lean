import Derived.Test.YtddbhngnhegndaaGreatG2
namespace Go.Proofs.T1
open Go Go.Sx Go.Proofs
set_option maxRecDepth 100000
set_option linter.unusedVariables false
noncomputable def fix_MulDiv.code:Code:=Func.cd Tryz.f38
def fix_MulDiv.c1 (k:Nat) (y1 y3:Int):Option (Bool) :=
  bif' (ilt y3 0)
  (some (!(ilt y1 0)))
  (some (ilt y1 0))
def fix_MulDiv.c2 (k:Nat) (o9:Bool) (y5:Int):Option (Bool) :=
  bif' (ilt y5 0)
  (some (!o9))
  (some o9)
def fix_MulDiv.c3 (k:Nat) (y24:(Int × Int)):Option ((Int × Int)) :=
  bif' (igt y24.1 1099511627776)
  (some (1099511627777,0))
  (some (y24.1,y24.2))
def fix_MulDiv.c4 (k:Nat) (o27:(Int × Int)) (y14:Int):Option (Int) :=
  bif' (igt o27.2 (isub .u64 y14 o27.2))
  (some (iadd .i64 (icv .i64 o27.1) 1))
  (some (icv .i64 o27.1))
def fix_MulDiv.c5 (k:Nat) (o27:(Int × Int)) (y14:Int):Option (Int) :=
  bif' (ige o27.2 (isub .u64 y14 o27.2))
  (some (iadd .i64 (icv .i64 o27.1) 1))
  (some (icv .i64 o27.1))
def fix_MulDiv (k:Nat) (a0 a1 a2:Int):Option Int :=
  bnd (fix_Clamp k a0) fun y1 =>
  bnd (fix_Clamp k a1) fun y3 =>
  bnd (fix_Clamp k a2) fun y5 =>
  bif' (ieq y5 0)
  (some 0)
  (bnd (fix_MulDiv.c1 k y1 y3) fun o9 =>
   bnd (fix_MulDiv.c2 k o9 y5) fun o12 =>
   bnd (fix_mag k y5) fun y14 =>
   bnd (fix_mag k y1) fun y16 =>
   bnd (fix_mag k y3) fun y18 =>
   bnd (bits_Mul64 k y16 y18) fun y20 =>
   bif' (ige y20.1 y14)
   (bif' o12
   (some (-1099511627776))
   (some 1099511627776))
   (bnd (bits_Div64 k y20.1 y20.2 y14) fun y24 =>
   bnd (fix_MulDiv.c3 k y24) fun o27 =>
   bif' o12
   (bnd (fix_MulDiv.c4 k o27 y14) fun o31 =>
   bnd (fix_Clamp k (ineg .i64 o31)) fun y33 =>
   some y33)
   (bnd (fix_MulDiv.c5 k o27 y14) fun o36 =>
   bnd (fix_Clamp k o36) fun y38 =>
   some y38)))
noncomputable def fix_MulDiv.sp (k:Nat):Go.Sx.Spec:=⟨(.pair T2 T22),(.one (.dp T2)),fun x=>fix_MulDiv k x.1 x.2.1 x.2.2.1,false⟩
noncomputable def fix_MulDiv.cx (k:Nat):Go.Sx.Ctx:=⟨tys,[(39,fix_Clamp.sp k),(66,fix_mag.sp k),(67,bits_Mul64.sp k),(68,bits_Div64.sp k)],eqs,78,false⟩
theorem fix_MulDiv.cok (k:Nat):CtxOk PR (fix_MulDiv.cx k):=ctx_ok tysOk eqsOk (FnsOk.cons (fix_Clamp.ok k) (FnsOk.cons (fix_mag.ok k) (FnsOk.cons (bits_Mul64.ok k) (FnsOk.cons (bits_Div64.ok k) FnsOk.nil))))
noncomputable def fix_MulDiv.c1p (y1 y3 y5:Int):SL:=⟨[(0,(.val T2 y1)),(1,(.val T2 y3)),(2,(.val T2 y5)),(7,(.val T4 (ilt y1 (0:Int)))),(25,(.val T4 (ilt y3 (0:Int))))],[]⟩
noncomputable def fix_MulDiv.c1q (y1 y3 y5:Int) (o:Bool):SL:=(fun v=>⟨[(0,(.val T2 y1)),(1,(.val T2 y3)),(2,(.val T2 y5)),(7,(.val T4 v))],[]⟩) o
noncomputable def fix_MulDiv.c1x (o:Bool):Ex:=(fun _=>.normal) o
noncomputable def fix_MulDiv.c1n (o:Bool):Nat:=(fun _=>0) o
theorem fix_MulDiv.c1_ok (k:Nat) (y1 y3 y5:Int):Owp (fix_MulDiv.c1 k y1 y3) fun o=>Triple PR (fix_MulDiv.cx k) (sub fix_MulDiv.code [1,1,1,1,0,1]) 0 (fix_MulDiv.c1p y1 y3 y5) (fix_MulDiv.c1x o) (fix_MulDiv.c1n o) (fix_MulDiv.c1q y1 y3 y5 o):=by
  unfold fix_MulDiv.c1; exact
   Owp.bif (fun e8 =>
   Owp.some (triple_way (fix_MulDiv.cok k) hmix [tT] [] [] (via (finP (aI trivial e8) .normal [] (fix_MulDiv.c1q y1 y3 y5 (!(ilt y1 (0:Int))))) (by kernel_rfl)))) (fun e8 =>
   Owp.some (triple_way (fix_MulDiv.cok k) hmix [fF] [] [] (via (finP (aI trivial e8) .normal [] (fix_MulDiv.c1q y1 y3 y5 (ilt y1 (0:Int)))) (by kernel_rfl))))
noncomputable def fix_MulDiv.c2p (o9:Bool) (y1 y3 y5:Int):SL:=⟨[(0,(.val T2 y1)),(1,(.val T2 y3)),(2,(.val T2 y5)),(7,(.val T4 o9)),(29,(.val T4 (ilt y5 (0:Int))))],[]⟩
noncomputable def fix_MulDiv.c2q (y1 y3 y5:Int) (o:Bool):SL:=(fun v=>⟨[(0,(.val T2 y1)),(1,(.val T2 y3)),(2,(.val T2 y5)),(7,(.val T4 v))],[]⟩) o
noncomputable def fix_MulDiv.c2x (o:Bool):Ex:=(fun _=>.normal) o
noncomputable def fix_MulDiv.c2n (o:Bool):Nat:=(fun _=>0) o
theorem fix_MulDiv.c2_ok (k:Nat) (o9:Bool) (y1 y3 y5:Int):Owp (fix_MulDiv.c2 k o9 y5) fun o=>Triple PR (fix_MulDiv.cx k) (sub fix_MulDiv.code [1,1,1,1,1,0,1]) 0 (fix_MulDiv.c2p o9 y1 y3 y5) (fix_MulDiv.c2x o) (fix_MulDiv.c2n o) (fix_MulDiv.c2q y1 y3 y5 o):=by
  unfold fix_MulDiv.c2; exact
   Owp.bif (fun e11 =>
   Owp.some (triple_way (fix_MulDiv.cok k) hmix [tT] [] [] (via (finP (aI trivial e11) .normal [] (fix_MulDiv.c2q y1 y3 y5 (!o9))) (by kernel_rfl)))) (fun e11 =>
   Owp.some (triple_way (fix_MulDiv.cok k) hmix [fF] [] [] (via (finP (aI trivial e11) .normal [] (fix_MulDiv.c2q y1 y3 y5 o9)) (by kernel_rfl))))
noncomputable def fix_MulDiv.c3p (o12:Bool) (y14:Int) (y24:(Int × Int)):SL:=⟨[(7,(.val T4 o12)),(8,(.val T12 y14)),(11,(.val T12 y24.1)),(12,(.val T12 y24.2)),(54,(.val T4 (igt y24.1 (1099511627776:Int))))],[]⟩
noncomputable def fix_MulDiv.c3q (o12:Bool) (y14:Int) (o:(Int × Int)):SL:=(fun v=>⟨[(7,(.val T4 o12)),(8,(.val T12 y14)),(11,(.val T12 v.1)),(12,(.val T12 v.2))],[]⟩) o
noncomputable def fix_MulDiv.c3x (o:(Int × Int)):Ex:=(fun _=>.normal) o
noncomputable def fix_MulDiv.c3n (o:(Int × Int)):Nat:=(fun _=>0) o
theorem fix_MulDiv.c3_ok (k:Nat) (o12:Bool) (y14:Int) (y24:(Int × Int)):Owp (fix_MulDiv.c3 k y24) fun o=>Triple PR (fix_MulDiv.cx k) (sub fix_MulDiv.code [1,1,1,1,1,1,1,1,1,1,0,1]) 0 (fix_MulDiv.c3p o12 y14 y24) (fix_MulDiv.c3x o) (fix_MulDiv.c3n o) (fix_MulDiv.c3q o12 y14 o):=by
  unfold fix_MulDiv.c3; exact
   Owp.bif (fun e26 =>
   Owp.some (triple_way (fix_MulDiv.cok k) hmix [tT] [] [] (via (finP (aI trivial e26) .normal [] (fix_MulDiv.c3q o12 y14 ((1099511627777:Int),(0:Int)))) (by kernel_rfl)))) (fun e26 =>
   Owp.some (triple_way (fix_MulDiv.cok k) hmix [fF] [] [] (via (finP (aI trivial e26) .normal [] (fix_MulDiv.c3q o12 y14 (y24.1,y24.2))) (by kernel_rfl))))
noncomputable def fix_MulDiv.c4p (o27:(Int × Int)) (y14:Int):SL:=⟨[(13,(.val T2 (icv .i64 o27.1))),(72,(.val T4 (igt o27.2 (isub .u64 y14 o27.2))))],[]⟩
noncomputable def fix_MulDiv.c4q (o:Int):SL:=(fun v=>⟨[(13,(.val T2 v))],[]⟩) o
noncomputable def fix_MulDiv.c4x (o:Int):Ex:=(fun _=>.normal) o
noncomputable def fix_MulDiv.c4n (o:Int):Nat:=(fun _=>0) o
theorem fix_MulDiv.c4_ok (k:Nat) (o27:(Int × Int)) (y14:Int):Owp (fix_MulDiv.c4 k o27 y14) fun o=>Triple PR (fix_MulDiv.cx k) (sub fix_MulDiv.code [1,1,1,1,1,1,1,1,1,1,1,1,1,0,1]) 0 (fix_MulDiv.c4p o27 y14) (fix_MulDiv.c4x o) (fix_MulDiv.c4n o) (fix_MulDiv.c4q o):=by
  unfold fix_MulDiv.c4; exact
   Owp.bif (fun e30 =>
   Owp.some (triple_way (fix_MulDiv.cok k) hmix [tT] [] [] (via (finP (aI trivial e30) .normal [] (fix_MulDiv.c4q (iadd .i64 (icv .i64 o27.1) (1:Int)))) (by kernel_rfl)))) (fun e30 =>
   Owp.some (triple_way (fix_MulDiv.cok k) hmix [fF] [] [] (via (finP (aI trivial e30) .normal [] (fix_MulDiv.c4q (icv .i64 o27.1))) (by kernel_rfl))))
noncomputable def fix_MulDiv.c5p (o27:(Int × Int)) (y14:Int):SL:=⟨[(13,(.val T2 (icv .i64 o27.1))),(63,(.val T4 (ige o27.2 (isub .u64 y14 o27.2))))],[]⟩
noncomputable def fix_MulDiv.c5q (o:Int):SL:=(fun v=>⟨[(13,(.val T2 v))],[]⟩) o
noncomputable def fix_MulDiv.c5x (o:Int):Ex:=(fun _=>.normal) o
noncomputable def fix_MulDiv.c5n (o:Int):Nat:=(fun _=>0) o
theorem fix_MulDiv.c5_ok (k:Nat) (o27:(Int × Int)) (y14:Int):Owp (fix_MulDiv.c5 k o27 y14) fun o=>Triple PR (fix_MulDiv.cx k) (sub fix_MulDiv.code [1,1,1,1,1,1,1,1,1,1,1,1,0,1,0,0,1]) 0 (fix_MulDiv.c5p o27 y14) (fix_MulDiv.c5x o) (fix_MulDiv.c5n o) (fix_MulDiv.c5q o):=by
  unfold fix_MulDiv.c5; exact
   Owp.bif (fun e35 =>
   Owp.some (triple_way (fix_MulDiv.cok k) hmix [tT] [] [] (via (finP (aI trivial e35) .normal [] (fix_MulDiv.c5q (iadd .i64 (icv .i64 o27.1) (1:Int)))) (by kernel_rfl)))) (fun e35 =>
   Owp.some (triple_way (fix_MulDiv.cok k) hmix [fF] [] [] (via (finP (aI trivial e35) .normal [] (fix_MulDiv.c5q (icv .i64 o27.1))) (by kernel_rfl))))
theorem fix_MulDiv.way (k:Nat) (a0 a1 a2:Int):Owp (fix_MulDiv k a0 a1 a2) fun y=>∃ w c0,exec PR (fix_MulDiv.cx k) fix_MulDiv.code 0 (entry (.pair T2 T22) (a0,a1,a2,())).st w (Ret (fix_MulDiv.cx k) Tryz.f38 c0 (.one (.dp T2)) y):=by
  unfold fix_MulDiv; exact
   Owp.bnd fun y1 e2 =>
   Owp.bnd fun y3 e4 =>
   Owp.bnd fun y5 e6 =>
   Owp.bif (fun e7 =>
   Owp.some (⟨[rS T2 y1,rS T2 y3,rS T2 y5,tT],[],via (retP (aI (aI (aI (aI trivial e2) e4) e6) e7) (.one (.dp T2)) ((0:Int):Int)) (by kernel_rfl)⟩)) (fun e7 =>
   Owp.bnd fun o9 e10 =>
   Owp.bnd fun o12 e13 =>
   Owp.bnd fun y14 e15 =>
   Owp.bnd fun y16 e17 =>
   Owp.bnd fun y18 e19 =>
   Owp.bnd fun y20 e21 =>
   Owp.bif (fun e22 =>
   Owp.bif (fun e23 =>
   Owp.some (⟨[rS T2 y1,rS T2 y3,rS T2 y5,fF,.cut ⟨[],[],(fix_MulDiv.c1p y1 y3 y5),0,.normal,(fix_MulDiv.c1q y1 y3 y5 o9),0⟩,.cut ⟨[],[],(fix_MulDiv.c2p o9 y1 y3 y5),0,.normal,(fix_MulDiv.c2q y1 y3 y5 o12),0⟩,rS T12 y14,rS T12 y16,rS T12 y18,.res (.more (.dp T12) (.one (.dp T12))) y20,tT,tT],[],via (cutP (aI (aI (aI (aI trivial e2) e4) e6) e7) [] (fix_MulDiv.c1p y1 y3 y5) (((fix_MulDiv.c1_ok k y1 y3 y5).ap e10)) (cutP trivial [] (fix_MulDiv.c2p o9 y1 y3 y5) (((fix_MulDiv.c2_ok k o9 y1 y3 y5).ap e13)) (retP (aI (aI (aI (aI (aI (aI trivial e15) e17) e19) e21) e22) e23) (.one (.dp T2)) ((-1099511627776:Int):Int)))) (by kernel_rfl)⟩)) (fun e23 =>
   Owp.some (⟨[rS T2 y1,rS T2 y3,rS T2 y5,fF,.cut ⟨[],[],(fix_MulDiv.c1p y1 y3 y5),0,.normal,(fix_MulDiv.c1q y1 y3 y5 o9),0⟩,.cut ⟨[],[],(fix_MulDiv.c2p o9 y1 y3 y5),0,.normal,(fix_MulDiv.c2q y1 y3 y5 o12),0⟩,rS T12 y14,rS T12 y16,rS T12 y18,.res (.more (.dp T12) (.one (.dp T12))) y20,tT,fF],[],via (cutP (aI (aI (aI (aI trivial e2) e4) e6) e7) [] (fix_MulDiv.c1p y1 y3 y5) (((fix_MulDiv.c1_ok k y1 y3 y5).ap e10)) (cutP trivial [] (fix_MulDiv.c2p o9 y1 y3 y5) (((fix_MulDiv.c2_ok k o9 y1 y3 y5).ap e13)) (retP (aI (aI (aI (aI (aI (aI trivial e15) e17) e19) e21) e22) e23) (.one (.dp T2)) ((1099511627776:Int):Int)))) (by kernel_rfl)⟩))) (fun e22 =>
   Owp.bnd fun y24 e25 =>
   Owp.bnd fun o27 e28 =>
   Owp.bif (fun e29 =>
   Owp.bnd fun o31 e32 =>
   Owp.bnd fun y33 e34 =>
   Owp.some (⟨[rS T2 y1,rS T2 y3,rS T2 y5,fF,.cut ⟨[],[],(fix_MulDiv.c1p y1 y3 y5),0,.normal,(fix_MulDiv.c1q y1 y3 y5 o9),0⟩,.cut ⟨[],[],(fix_MulDiv.c2p o9 y1 y3 y5),0,.normal,(fix_MulDiv.c2q y1 y3 y5 o12),0⟩,rS T12 y14,rS T12 y16,rS T12 y18,.res (.more (.dp T12) (.one (.dp T12))) y20,fF,.res (.more (.dp T12) (.one (.dp T12))) y24,.cut ⟨[],[],(fix_MulDiv.c3p o12 y14 y24),0,.normal,(fix_MulDiv.c3q o12 y14 o27),0⟩,fF,.cut ⟨[],[],(fix_MulDiv.c4p o27 y14),0,.normal,(fix_MulDiv.c4q o31),0⟩,rS T2 y33],[],via (cutP (aI (aI (aI (aI trivial e2) e4) e6) e7) [] (fix_MulDiv.c1p y1 y3 y5) (((fix_MulDiv.c1_ok k y1 y3 y5).ap e10)) (cutP trivial [] (fix_MulDiv.c2p o9 y1 y3 y5) (((fix_MulDiv.c2_ok k o9 y1 y3 y5).ap e13)) (cutP (aI (aI (aI (aI (aI (aI trivial e15) e17) e19) e21) e22) e25) [] (fix_MulDiv.c3p o12 y14 y24) (((fix_MulDiv.c3_ok k o12 y14 y24).ap e28)) (cutP (aI trivial (congrArg not e29)) [] (fix_MulDiv.c4p o27 y14) (((fix_MulDiv.c4_ok k o27 y14).ap e32)) (retP (aI trivial e34) (.one (.dp T2)) (y33:Int)))))) (by kernel_rfl)⟩)) (fun e29 =>
   Owp.bnd fun o36 e37 =>
   Owp.bnd fun y38 e39 =>
   Owp.some (⟨[rS T2 y1,rS T2 y3,rS T2 y5,fF,.cut ⟨[],[],(fix_MulDiv.c1p y1 y3 y5),0,.normal,(fix_MulDiv.c1q y1 y3 y5 o9),0⟩,.cut ⟨[],[],(fix_MulDiv.c2p o9 y1 y3 y5),0,.normal,(fix_MulDiv.c2q y1 y3 y5 o12),0⟩,rS T12 y14,rS T12 y16,rS T12 y18,.res (.more (.dp T12) (.one (.dp T12))) y20,fF,.res (.more (.dp T12) (.one (.dp T12))) y24,.cut ⟨[],[],(fix_MulDiv.c3p o12 y14 y24),0,.normal,(fix_MulDiv.c3q o12 y14 o27),0⟩,tT,.cut ⟨[],[],(fix_MulDiv.c5p o27 y14),0,.normal,(fix_MulDiv.c5q o36),0⟩,rS T2 y38],[],via (cutP (aI (aI (aI (aI trivial e2) e4) e6) e7) [] (fix_MulDiv.c1p y1 y3 y5) (((fix_MulDiv.c1_ok k y1 y3 y5).ap e10)) (cutP trivial [] (fix_MulDiv.c2p o9 y1 y3 y5) (((fix_MulDiv.c2_ok k o9 y1 y3 y5).ap e13)) (cutP (aI (aI (aI (aI (aI (aI trivial e15) e17) e19) e21) e22) e25) [] (fix_MulDiv.c3p o12 y14 y24) (((fix_MulDiv.c3_ok k o12 y14 y24).ap e28)) (cutP (aI trivial (congrArg not e29)) [] (fix_MulDiv.c5p o27 y14) (((fix_MulDiv.c5_ok k o27 y14).ap e37)) (retP (aI trivial e39) (.one (.dp T2)) (y38:Int)))))) (by kernel_rfl)⟩))))
theorem fix_MulDiv.ok (k:Nat):FnOk PR 38 (fix_MulDiv.sp k) :=
  fn_ok (fix_MulDiv.cok k) hmix Tryz.func38 (code:=fix_MulDiv.code) (by kernel_rfl) (by kernel_rfl) (by kernel_rfl) rfl (by kernel_rfl) (by kernel_rfl) (by kernel_rfl) (fun x=>Nat.le_of_ble_eq_true (by kernel_rfl)) fun x y hy=>(fix_MulDiv.way k x.1 x.2.1 x.2.2.1).ap hy
noncomputable def fix_Mul.code:Code:=Func.cd Tryz.f14
def fix_Mul (k:Nat) (a0 a1:Int):Option Int :=
  bnd (fix_MulDiv k a0 a1 65536) fun y1 =>
  some y1
noncomputable def fix_Mul.sp (k:Nat):Go.Sx.Spec:=⟨T22,(.one (.dp T2)),fun x=>fix_Mul k x.1 x.2.1,false⟩
noncomputable def fix_Mul.cx (k:Nat):Go.Sx.Ctx:=⟨tys,[(38,fix_MulDiv.sp k)],eqs,8,false⟩
theorem fix_Mul.cok (k:Nat):CtxOk PR (fix_Mul.cx k):=ctx_ok tysOk eqsOk (FnsOk.cons (fix_MulDiv.ok k) FnsOk.nil)
theorem fix_Mul.way (k:Nat) (a0 a1:Int):Owp (fix_Mul k a0 a1) fun y=>∃ w c0,exec PR (fix_Mul.cx k) fix_Mul.code 0 (entry T22 (a0,a1,())).st w (Ret (fix_Mul.cx k) Tryz.f14 c0 (.one (.dp T2)) y):=by
  unfold fix_Mul; exact
   Owp.bnd fun y1 e2 =>
   Owp.some (⟨[rS T2 y1],[],via (retP (aI trivial e2) (.one (.dp T2)) (y1:Int)) (by kernel_rfl)⟩)
theorem fix_Mul.ok (k:Nat):FnOk PR 14 (fix_Mul.sp k) :=
  fn_ok (fix_Mul.cok k) hmix Tryz.func14 (code:=fix_Mul.code) (by kernel_rfl) (by kernel_rfl) (by kernel_rfl) rfl (by kernel_rfl) (by kernel_rfl) (by kernel_rfl) (fun x=>Nat.le_of_ble_eq_true (by kernel_rfl)) fun x y hy=>(fix_Mul.way k x.1 x.2.1).ap hy
noncomputable def fix_Root.code:Code:=Func.cd Tryz.f71
def fix_Root.c2 (k:Nat) (a0 a1:Int) (y4:(Int × Int)):Option (Bool) :=
  bif' (ilt y4.1 a0)
  (some true)
  (bif' (ieq y4.1 a0)
   (some (ile y4.2 a1))
   (some false))
def fix_Root.c3 (k:Nat) (o8:Bool) (v1 v2:Int):Option (Int) :=
  bif' o8
  (some (ibits .or .u64 v1 v2))
  (some v1)
def fix_Root.c1 (k:Nat) (a0 a1:Int):Nat → Int → Int → Option (Int)
  | 0,_,_=>none
  | n+1,v1,v2 =>
   bif' (igt v2 0)
   (bnd (bits_Mul64 k (ibits .or .u64 v1 v2) (ibits .or .u64 v1 v2)) fun y4 =>
   bnd (fix_Root.c2 k a0 a1 y4) fun o8 =>
   bnd (fix_Root.c3 k o8 v1 v2) fun o11 =>
   fix_Root.c1 k a0 a1 n o11 (ishr .u64 v2 1))
   (some v1)
def fix_Root (k:Nat) (a0 a1:Int):Option Int :=
  bnd (fix_Root.c1 k a0 a1 k 0 9223372036854775808) fun o13 =>
  some o13
noncomputable def fix_Root.sp (k:Nat):Go.Sx.Spec:=⟨(.pair T12 (.pair T12 .unit)),(.one (.dp T12)),fun x=>fix_Root k x.1 x.2.1,false⟩
noncomputable def fix_Root.cx (k:Nat):Go.Sx.Ctx:=⟨tys,[(67,bits_Mul64.sp k)],eqs,38,false⟩
theorem fix_Root.cok (k:Nat):CtxOk PR (fix_Root.cx k):=ctx_ok tysOk eqsOk (FnsOk.cons (bits_Mul64.ok k) FnsOk.nil)
noncomputable def fix_Root.c2p (a0 a1 v1 v2:Int) (y4:(Int × Int)):SL:=⟨[(0,(.val T12 a0)),(1,(.val T12 a1)),(5,(.val T12 v1)),(6,(.val T12 v2)),(7,(.val T12 (ibits .or .u64 v1 v2))),(8,(.val T12 y4.1)),(9,(.val T12 y4.2))],[]⟩
noncomputable def fix_Root.c2q (a0 a1 v1 v2:Int) (o:Bool):SL:=(fun v=>⟨[(0,(.val T12 a0)),(1,(.val T12 a1)),(5,(.val T12 v1)),(6,(.val T12 v2)),(7,(.val T12 (ibits .or .u64 v1 v2))),(35,(.val T4 v))],[]⟩) o
noncomputable def fix_Root.c2x (o:Bool):Ex:=(fun _=>.normal) o
noncomputable def fix_Root.c2n (o:Bool):Nat:=(fun _=>0) o
theorem fix_Root.c2_ok (k:Nat) (a0 a1 v1 v2:Int) (y4:(Int × Int)):Owp (fix_Root.c2 k a0 a1 y4) fun o=>Triple PR (fix_Root.cx k) (sub fix_Root.code [1,1,0,1,0,0,1,0,0,1,1,0]) 0 (fix_Root.c2p a0 a1 v1 v2 y4) (fix_Root.c2x o) (fix_Root.c2n o) (fix_Root.c2q a0 a1 v1 v2 o):=by
  unfold fix_Root.c2; exact
   Owp.bif (fun e6 =>
   Owp.some (triple_way (fix_Root.cok k) hmix [tT,tT,tT,tT,tT,tT,tT,tT,tT,tT] [] [] (via (finP (aI (aI (aI (aI (aI (aI trivial e6) e6) e6) e6) e6) e6) .normal [] (fix_Root.c2q a0 a1 v1 v2 true)) (by kernel_rfl)))) (fun e6 =>
   Owp.bif (fun e7 =>
   Owp.some (triple_way (fix_Root.cok k) hmix [fF,fF,fF,fF,tT,tT,tT,fF,tT,fF] [] [] (via (finP (aI (aI (aI (aI (aI (aI (aI (aI (aI trivial e6) e6) e6) e6) e7) e7) e7) (aI e6 e7)) e6) .normal [] (fix_Root.c2q a0 a1 v1 v2 (ile y4.2 a1))) (by kernel_rfl)))) (fun e7 =>
   Owp.some (triple_way (fix_Root.cok k) hmix [fF,fF,fF,fF,fF,fF,fF,fF,fF,fF] [] [] (via (finP (aI (aI (aI (aI (aI (aI (aI (aI (aI trivial e6) e6) e6) e6) e7) e7) e7) (aI e6 e7)) e6) .normal [] (fix_Root.c2q a0 a1 v1 v2 false)) (by kernel_rfl)))))
noncomputable def fix_Root.c3p (a0 a1:Int) (o8:Bool) (v1 v2:Int):SL:=⟨[(0,(.val T12 a0)),(1,(.val T12 a1)),(5,(.val T12 v1)),(6,(.val T12 v2)),(7,(.val T12 (ibits .or .u64 v1 v2))),(35,(.val T4 o8))],[]⟩
noncomputable def fix_Root.c3q (a0 a1 v2 o:Int):SL:=(fun v=>⟨[(0,(.val T12 a0)),(1,(.val T12 a1)),(5,(.val T12 v)),(6,(.val T12 v2))],[]⟩) o
noncomputable def fix_Root.c3x (o:Int):Ex:=(fun _=>.normal) o
noncomputable def fix_Root.c3n (o:Int):Nat:=(fun _=>0) o
theorem fix_Root.c3_ok (k:Nat) (a0 a1:Int) (o8:Bool) (v1 v2:Int):Owp (fix_Root.c3 k o8 v1 v2) fun o=>Triple PR (fix_Root.cx k) (sub fix_Root.code [1,1,0,1,0,0,1,0,0,1,1,1]) 0 (fix_Root.c3p a0 a1 o8 v1 v2) (fix_Root.c3x o) (fix_Root.c3n o) (fix_Root.c3q a0 a1 v2 o):=by
  unfold fix_Root.c3; exact
   Owp.bif (fun e10 =>
   Owp.some (triple_way (fix_Root.cok k) hmix [tT] [] [] (via (finP (aI trivial e10) .normal [] (fix_Root.c3q a0 a1 v2 (ibits .or .u64 v1 v2))) (by kernel_rfl)))) (fun e10 =>
   Owp.some (triple_way (fix_Root.cok k) hmix [fF] [] [] (via (finP (aI trivial e10) .normal [] (fix_Root.c3q a0 a1 v2 v1)) (by kernel_rfl))))
noncomputable def fix_Root.c1p (a0 a1 v1 v2:Int):SL:=⟨[(0,(.val T12 a0)),(1,(.val T12 a1)),(5,(.val T12 v1)),(6,(.val T12 v2))],[]⟩
noncomputable def fix_Root.c1q (o:Int):SL:=(fun v=>⟨[(5,(.val T12 v))],[]⟩) o
noncomputable def fix_Root.c1x (o:Int):Ex:=(fun _=>(.exit 0)) o
noncomputable def fix_Root.c1n (o:Int):Nat:=(fun _=>0) o
theorem fix_Root.c1_ok (k:Nat) (a0 a1:Int):∀ (n:Nat) (v1 v2:Int),Owp (fix_Root.c1 k a0 a1 n v1 v2) fun o=>LTriple PR (fix_Root.cx k) (sub fix_Root.code [1,1,0,1,0,0]) 0 (fix_Root.c1p a0 a1 v1 v2) (fix_Root.c1x o) (fix_Root.c1n o) (fix_Root.c1q o)
  | 0,_,_=>fun _ h=>nomatch h
  | n+1,v1,v2=>Owp.of (fix_Root.c1.eq_2 ..) (
   Owp.bif (fun e3 =>
   Owp.bnd fun y4 e5 =>
   Owp.bnd fun o8 e9 =>
   Owp.bnd fun o11 e12 =>
   fun y hy=>loop_back (fix_Root.cok k) hmix 0 (fix_Root.c1p a0 a1 o11 (ishr .u64 v2 (1:Int))) [tT,.res (.more (.dp T12) (.one (.dp T12))) y4,.cutR 7 ⟨[],[],(fix_Root.c2p a0 a1 v1 v2 y4),0,.normal,(fix_Root.c2q a0 a1 v1 v2 o8),0⟩,.cut ⟨[],[],(fix_Root.c3p a0 a1 o8 v1 v2),0,.normal,(fix_Root.c3q a0 a1 v2 o11),0⟩] [] [] (via (cutP (aI (aI trivial e3) e5) [] (fix_Root.c2p a0 a1 v1 v2 y4) (((fix_Root.c2_ok k a0 a1 v1 v2 y4).ap e9)) (cutP trivial [] (fix_Root.c3p a0 a1 o8 v1 v2) (((fix_Root.c3_ok k a0 a1 o8 v1 v2).ap e12)) (finP (aI trivial (by decide:ng (1:Int))) .normal [] (fix_Root.c1p a0 a1 o11 (ishr .u64 v2 (1:Int)))))) (by kernel_rfl)) ((fix_Root.c1_ok k a0 a1 n o11 (ishr .u64 v2 (1:Int))).ap hy)) (fun e3 =>
   Owp.some (loop_exit (fix_Root.cok k) hmix [fF] [] [] (exne 0) (via (finP (aI trivial e3) (.exit 0) [] (fix_Root.c1q v1)) (by kernel_rfl)))))
theorem fix_Root.way (k:Nat) (a0 a1:Int):Owp (fix_Root k a0 a1) fun y=>∃ w c0,exec PR (fix_Root.cx k) fix_Root.code 0 (entry (.pair T12 (.pair T12 .unit)) (a0,a1,())).st w (Ret (fix_Root.cx k) Tryz.f71 c0 (.one (.dp T12)) y):=by
  unfold fix_Root; exact
   Owp.bnd fun o13 e14 =>
   Owp.some (⟨[.cut ⟨[],[],(fix_Root.c1p a0 a1 (0:Int) (9223372036854775808:Int)),0,(.exit 0),(fix_Root.c1q o13),0⟩],[],via (cutP trivial [] (fix_Root.c1p a0 a1 (0:Int) (9223372036854775808:Int)) (((fix_Root.c1_ok k a0 a1 k (0:Int) (9223372036854775808:Int)).ap e14).triple) (retP trivial (.one (.dp T12)) (o13:Int))) (by kernel_rfl)⟩)
theorem fix_Root.ok (k:Nat):FnOk PR 71 (fix_Root.sp k) :=
  fn_ok (fix_Root.cok k) hmix Tryz.func71 (code:=fix_Root.code) (by kernel_rfl) (by kernel_rfl) (by kernel_rfl) rfl (by kernel_rfl) (by kernel_rfl) (by kernel_rfl) (fun x=>Nat.le_of_ble_eq_true (by kernel_rfl)) fun x y hy=>(fix_Root.way k x.1 x.2.1).ap hy
noncomputable def fix_Add.code:Code:=Func.cd Tryz.f72
def fix_Add (k:Nat) (a0 a1:Int):Option Int :=
  bnd (fix_Clamp k a0) fun y1 =>
  bnd (fix_Clamp k a1) fun y3 =>
  bnd (fix_Clamp k (iadd .i64 y1 y3)) fun y5 =>
  some y5
noncomputable def fix_Add.sp (k:Nat):Go.Sx.Spec:=⟨T22,(.one (.dp T2)),fun x=>fix_Add k x.1 x.2.1,false⟩
noncomputable def fix_Add.cx (k:Nat):Go.Sx.Ctx:=⟨tys,[(39,fix_Clamp.sp k)],eqs,11,false⟩
theorem fix_Add.cok (k:Nat):CtxOk PR (fix_Add.cx k):=ctx_ok tysOk eqsOk (FnsOk.cons (fix_Clamp.ok k) FnsOk.nil)
theorem fix_Add.way (k:Nat) (a0 a1:Int):Owp (fix_Add k a0 a1) fun y=>∃ w c0,exec PR (fix_Add.cx k) fix_Add.code 0 (entry T22 (a0,a1,())).st w (Ret (fix_Add.cx k) Tryz.f72 c0 (.one (.dp T2)) y):=by
  unfold fix_Add; exact
   Owp.bnd fun y1 e2 =>
   Owp.bnd fun y3 e4 =>
   Owp.bnd fun y5 e6 =>
   Owp.some (⟨[rS T2 y1,rS T2 y3,rS T2 y5],[],via (retP (aI (aI (aI trivial e2) e4) e6) (.one (.dp T2)) (y5:Int)) (by kernel_rfl)⟩)
theorem fix_Add.ok (k:Nat):FnOk PR 72 (fix_Add.sp k) :=
  fn_ok (fix_Add.cok k) hmix Tryz.func72 (code:=fix_Add.code) (by kernel_rfl) (by kernel_rfl) (by kernel_rfl) rfl (by kernel_rfl) (by kernel_rfl) (by kernel_rfl) (fun x=>Nat.le_of_ble_eq_true (by kernel_rfl)) fun x y hy=>(fix_Add.way k x.1 x.2.1).ap hy
noncomputable def fix_Sub.code:Code:=Func.cd Tryz.f75
def fix_Sub (k:Nat) (a0 a1:Int):Option Int :=
  bnd (fix_Clamp k a0) fun y1 =>
  bnd (fix_Clamp k a1) fun y3 =>
  bnd (fix_Clamp k (isub .i64 y1 y3)) fun y5 =>
  some y5
noncomputable def fix_Sub.sp (k:Nat):Go.Sx.Spec:=⟨T22,(.one (.dp T2)),fun x=>fix_Sub k x.1 x.2.1,false⟩
noncomputable def fix_Sub.cx (k:Nat):Go.Sx.Ctx:=⟨tys,[(39,fix_Clamp.sp k)],eqs,11,false⟩
theorem fix_Sub.cok (k:Nat):CtxOk PR (fix_Sub.cx k):=ctx_ok tysOk eqsOk (FnsOk.cons (fix_Clamp.ok k) FnsOk.nil)
theorem fix_Sub.way (k:Nat) (a0 a1:Int):Owp (fix_Sub k a0 a1) fun y=>∃ w c0,exec PR (fix_Sub.cx k) fix_Sub.code 0 (entry T22 (a0,a1,())).st w (Ret (fix_Sub.cx k) Tryz.f75 c0 (.one (.dp T2)) y):=by
  unfold fix_Sub; exact
   Owp.bnd fun y1 e2 =>
   Owp.bnd fun y3 e4 =>
   Owp.bnd fun y5 e6 =>
   Owp.some (⟨[rS T2 y1,rS T2 y3,rS T2 y5],[],via (retP (aI (aI (aI trivial e2) e4) e6) (.one (.dp T2)) (y5:Int)) (by kernel_rfl)⟩)
theorem fix_Sub.ok (k:Nat):FnOk PR 75 (fix_Sub.sp k) :=
  fn_ok (fix_Sub.cok k) hmix Tryz.func75 (code:=fix_Sub.code) (by kernel_rfl) (by kernel_rfl) (by kernel_rfl) rfl (by kernel_rfl) (by kernel_rfl) (by kernel_rfl) (fun x=>Nat.le_of_ble_eq_true (by kernel_rfl)) fun x y hy=>(fix_Sub.way k x.1 x.2.1).ap hy
noncomputable def vec_mag.code:Code:=Func.cd Tryz.f69
def vec_mag (k:Nat) (a0:Int):Option Int :=
  some (icv .u64 (imax a0 (ineg .i64 a0)))
noncomputable def vec_mag.sp (k:Nat):Go.Sx.Spec:=⟨(.pair T2 .unit),(.one (.dp T12)),fun x=>vec_mag k x.1,false⟩
noncomputable def vec_mag.cx (k:Nat):Go.Sx.Ctx:=⟨tys,[],eqs,8,false⟩
theorem vec_mag.cok (k:Nat):CtxOk PR (vec_mag.cx k):=ctx_ok tysOk eqsOk FnsOk.nil
theorem vec_mag.way (k:Nat) (a0:Int):Owp (vec_mag k a0) fun y=>∃ w c0,exec PR (vec_mag.cx k) vec_mag.code 0 (entry (.pair T2 .unit) (a0,())).st w (Ret (vec_mag.cx k) Tryz.f69 c0 (.one (.dp T12)) y):=by
  unfold vec_mag; exact
   Owp.some (⟨[],[],via (retP trivial (.one (.dp T12)) ((icv .u64 (imax a0 (ineg .i64 a0))):Int)) (by kernel_rfl)⟩)
theorem vec_mag.ok (k:Nat):FnOk PR 69 (vec_mag.sp k) :=
  fn_ok (vec_mag.cok k) hmix Tryz.func69 (code:=vec_mag.code) (by kernel_rfl) (by kernel_rfl) (by kernel_rfl) rfl (by kernel_rfl) (by kernel_rfl) (by kernel_rfl) (fun x=>Nat.le_of_ble_eq_true (by kernel_rfl)) fun x y hy=>(vec_mag.way k x.1).ap hy
theorem bits_Add64.ok (k:Nat):FnOk PR 70 (bits_Add64.sp k):=add64_ok Tryz.func70 (by kernel_rfl) (by kernel_rfl) (by kernel_rfl) (by kernel_rfl) k
noncomputable def vec_length.code:Code:=Func.cd Tryz.f40
def vec_length (k:Nat) (a0 a1:Int):Option Int :=
  bnd (vec_mag k a0) fun y1 =>
  bnd (vec_mag k a0) fun y3 =>
  bnd (bits_Mul64 k y1 y3) fun y5 =>
  bnd (vec_mag k a1) fun y7 =>
  bnd (vec_mag k a1) fun y9 =>
  bnd (bits_Mul64 k y7 y9) fun y11 =>
  bnd (bits_Add64 k y5.2 y11.2 0) fun y13 =>
  bnd (bits_Add64 k y5.1 y11.1 y13.2) fun y15 =>
  bnd (fix_Root k y15.1 y13.1) fun y17 =>
  some (icv .i64 y17)
noncomputable def vec_length.sp (k:Nat):Go.Sx.Spec:=⟨T22,(.one (.dp T2)),fun x=>vec_length k x.1 x.2.1,false⟩
noncomputable def vec_length.cx (k:Nat):Go.Sx.Ctx:=⟨tys,[(69,vec_mag.sp k),(67,bits_Mul64.sp k),(70,bits_Add64.sp k),(71,fix_Root.sp k)],eqs,46,false⟩
theorem vec_length.cok (k:Nat):CtxOk PR (vec_length.cx k):=ctx_ok tysOk eqsOk (FnsOk.cons (vec_mag.ok k) (FnsOk.cons (bits_Mul64.ok k) (FnsOk.cons (bits_Add64.ok k) (FnsOk.cons (fix_Root.ok k) FnsOk.nil))))
theorem vec_length.way (k:Nat) (a0 a1:Int):Owp (vec_length k a0 a1) fun y=>∃ w c0,exec PR (vec_length.cx k) vec_length.code 0 (entry T22 (a0,a1,())).st w (Ret (vec_length.cx k) Tryz.f40 c0 (.one (.dp T2)) y):=by
  unfold vec_length; exact
   Owp.bnd fun y1 e2 =>
   Owp.bnd fun y3 e4 =>
   Owp.bnd fun y5 e6 =>
   Owp.bnd fun y7 e8 =>
   Owp.bnd fun y9 e10 =>
   Owp.bnd fun y11 e12 =>
   Owp.bnd fun y13 e14 =>
   Owp.bnd fun y15 e16 =>
   Owp.bnd fun y17 e18 =>
   Owp.some (⟨[rS T12 y1,rS T12 y3,.res (.more (.dp T12) (.one (.dp T12))) y5,rS T12 y7,rS T12 y9,.res (.more (.dp T12) (.one (.dp T12))) y11,.res (.more (.dp T12) (.one (.dp T12))) y13,.res (.more (.dp T12) (.one (.dp T12))) y15,rS T12 y17],[],via (retP (aI (aI (aI (aI (aI (aI (aI (aI (aI trivial e2) e4) e6) e8) e10) e12) e14) e16) e18) (.one (.dp T2)) ((icv .i64 y17):Int)) (by kernel_rfl)⟩)
theorem vec_length.ok (k:Nat):FnOk PR 40 (vec_length.sp k) :=
  fn_ok (vec_length.cok k) hmix Tryz.func40 (code:=vec_length.code) (by kernel_rfl) (by kernel_rfl) (by kernel_rfl) rfl (by kernel_rfl) (by kernel_rfl) (by kernel_rfl) (fun x=>Nat.le_of_ble_eq_true (by kernel_rfl)) fun x y hy=>(vec_length.way k x.1 x.2.1).ap hy
noncomputable def vec_Len.code:Code:=Func.cd Tryz.f15
def vec_Len (k:Nat) (a0:V22):Option Int :=
  bnd (fix_Clamp k a0.1) fun y1 =>
  bnd (fix_Clamp k a0.2.1) fun y3 =>
  bnd (vec_length k y1 y3) fun y5 =>
  bnd (fix_Clamp k y5) fun y7 =>
  some y7
noncomputable def vec_Len.sp (k:Nat):Go.Sx.Spec:=⟨(.pair T22 .unit),(.one (.dp T2)),fun x=>vec_Len k x.1,false⟩
noncomputable def vec_Len.cx (k:Nat):Go.Sx.Ctx:=⟨tys,[(39,fix_Clamp.sp k),(40,vec_length.sp k)],eqs,11,false⟩
theorem vec_Len.cok (k:Nat):CtxOk PR (vec_Len.cx k):=ctx_ok tysOk eqsOk (FnsOk.cons (fix_Clamp.ok k) (FnsOk.cons (vec_length.ok k) FnsOk.nil))
theorem vec_Len.way (k:Nat) (a0:V22):Owp (vec_Len k a0) fun y=>∃ w c0,exec PR (vec_Len.cx k) vec_Len.code 0 (entry (.pair T22 .unit) (a0,())).st w (Ret (vec_Len.cx k) Tryz.f15 c0 (.one (.dp T2)) y):=by
  unfold vec_Len; exact
   Owp.bnd fun y1 e2 =>
   Owp.bnd fun y3 e4 =>
   Owp.bnd fun y5 e6 =>
   Owp.bnd fun y7 e8 =>
   Owp.some (⟨[rS T2 y1,rS T2 y3,rS T2 y5,rS T2 y7],[],via (retP (aI (aI (aI (aI trivial e2) e4) e6) e8) (.one (.dp T2)) (y7:Int)) (by kernel_rfl)⟩)
theorem vec_Len.ok (k:Nat):FnOk PR 15 (vec_Len.sp k) :=
  fn_ok (vec_Len.cok k) hmix Tryz.func15 (code:=vec_Len.code) (by kernel_rfl) (by kernel_rfl) (by kernel_rfl) rfl (by kernel_rfl) (by kernel_rfl) (by kernel_rfl) (fun x=>Nat.le_of_ble_eq_true (by kernel_rfl)) fun x y hy=>(vec_Len.way k x.1).ap hy
noncomputable def vec_Add.code:Code:=Func.cd Tryz.f41
def vec_Add (k:Nat) (a0 a1:V22):Option V22 :=
  bnd (fix_Add k a0.1 a1.1) fun y1 =>
  bnd (fix_Add k a0.2.1 a1.2.1) fun y3 =>
  some (y1,y3,())
noncomputable def vec_Add.sp (k:Nat):Go.Sx.Spec:=⟨(.pair T22 (.pair T22 .unit)),(.one (.dp T22)),fun x=>vec_Add k x.1 x.2.1,false⟩
noncomputable def vec_Add.cx (k:Nat):Go.Sx.Ctx:=⟨tys,[(72,fix_Add.sp k)],eqs,16,false⟩
theorem vec_Add.cok (k:Nat):CtxOk PR (vec_Add.cx k):=ctx_ok tysOk eqsOk (FnsOk.cons (fix_Add.ok k) FnsOk.nil)
theorem vec_Add.way (k:Nat) (a0 a1:V22):Owp (vec_Add k a0 a1) fun y=>∃ w c0,exec PR (vec_Add.cx k) vec_Add.code 0 (entry (.pair T22 (.pair T22 .unit)) (a0,a1,())).st w (Ret (vec_Add.cx k) Tryz.f41 c0 (.one (.dp T22)) y):=by
  unfold vec_Add; exact
   Owp.bnd fun y1 e2 =>
   Owp.bnd fun y3 e4 =>
   Owp.some (⟨[rS T2 y1,rS T2 y3],[],via (retP (aI (aI trivial e2) e4) (.one (.dp T22)) ((y1,y3,()):V22)) (by kernel_rfl)⟩)
theorem vec_Add.ok (k:Nat):FnOk PR 41 (vec_Add.sp k) :=
  fn_ok (vec_Add.cok k) hmix Tryz.func41 (code:=vec_Add.code) (by kernel_rfl) (by kernel_rfl) (by kernel_rfl) rfl (by kernel_rfl) (by kernel_rfl) (by kernel_rfl) (fun x=>Nat.le_of_ble_eq_true (by kernel_rfl)) fun x y hy=>(vec_Add.way k x.1 x.2.1).ap hy
noncomputable def trig_table.code:Code:=Func.cd Tryz.f115
def trig_table (k:Nat):Option (List Int) :=
  some [0,1608,3216,4821,6424,8022,9616,11204,12785,14359,15924,17479,19024,20557,22078,23586,25080,26558,28020,29466,30893,32303,33692,35062,36410,37736,39040,40320,41576,42806,44011,45190,46341,47464,48559,49624,50660,51665,52639,53581,54491,55368,56212,57022,57798,58538,59244,59914,60547,61145,61705,62228,62714,63162,63572,63944,64277,64571,64827,65043,65220,65358,65457,65516,65536]
noncomputable def trig_table.sp (k:Nat):Go.Sx.Spec:=⟨.unit,(.one (.dp (.arr 65 T2))),fun x=>trig_table k,false⟩
noncomputable def trig_table.cx (k:Nat):Go.Sx.Ctx:=⟨tys,[],eqs,2,false⟩
theorem trig_table.cok (k:Nat):CtxOk PR (trig_table.cx k):=ctx_ok tysOk eqsOk FnsOk.nil
theorem trig_table.way (k:Nat):Owp (trig_table k) fun y=>∃ w c0,exec PR (trig_table.cx k) trig_table.code 0 (entry .unit ()).st w (Ret (trig_table.cx k) Tryz.f115 c0 (.one (.dp (.arr 65 T2))) y):=by
  unfold trig_table; exact
   Owp.some (⟨[],[],via (retP trivial (.one (.dp (.arr 65 T2))) ([(0:Int),(1608:Int),(3216:Int),(4821:Int),(6424:Int),(8022:Int),(9616:Int),(11204:Int),(12785:Int),(14359:Int),(15924:Int),(17479:Int),(19024:Int),(20557:Int),(22078:Int),(23586:Int),(25080:Int),(26558:Int),(28020:Int),(29466:Int),(30893:Int),(32303:Int),(33692:Int),(35062:Int),(36410:Int),(37736:Int),(39040:Int),(40320:Int),(41576:Int),(42806:Int),(44011:Int),(45190:Int),(46341:Int),(47464:Int),(48559:Int),(49624:Int),(50660:Int),(51665:Int),(52639:Int),(53581:Int),(54491:Int),(55368:Int),(56212:Int),(57022:Int),(57798:Int),(58538:Int),(59244:Int),(59914:Int),(60547:Int),(61145:Int),(61705:Int),(62228:Int),(62714:Int),(63162:Int),(63572:Int),(63944:Int),(64277:Int),(64571:Int),(64827:Int),(65043:Int),(65220:Int),(65358:Int),(65457:Int),(65516:Int),(65536:Int)]:(List Int))) (by kernel_rfl)⟩)
theorem trig_table.ok (k:Nat):FnOk PR 115 (trig_table.sp k) :=
  fn_ok (trig_table.cok k) hmix Tryz.func115 (code:=trig_table.code) (by kernel_rfl) (by kernel_rfl) (by kernel_rfl) rfl (by kernel_rfl) (by kernel_rfl) (by kernel_rfl) (fun x=>Nat.le_of_ble_eq_true (by kernel_rfl)) fun x y hy=>(trig_table.way k).ap hy
noncomputable def trig_first.code:Code:=Func.cd Tryz.f104
def trig_first (k:Nat) (a0:Int):Option Int :=
  bnd (trig_table k) fun y1 =>
  bif' (ieq (irem a0 256) 0)
  (req (inR (iquo .i64 a0 256) 65) <|
   some (el 0 y1 (iquo .i64 a0 256)))
  (req (inR (iquo .i64 a0 256) 65) <|
   req (inR (iadd .i64 (iquo .i64 a0 256) 1) 65) <|
   some (iadd .i64 (el 0 y1 (iquo .i64 a0 256)) (iquo .i64 (iadd .i64 (imul .i64 (isub .i64 (el 0 y1 (iadd .i64 (iquo .i64 a0 256) 1)) (el 0 y1 (iquo .i64 a0 256))) (irem a0 256)) 128) 256)))
noncomputable def trig_first.sp (k:Nat):Go.Sx.Spec:=⟨(.pair T2 .unit),(.one (.dp T2)),fun x=>trig_first k x.1,false⟩
noncomputable def trig_first.cx (k:Nat):Go.Sx.Ctx:=⟨tys,[(115,trig_table.sp k)],eqs,32,false⟩
theorem trig_first.cok (k:Nat):CtxOk PR (trig_first.cx k):=ctx_ok tysOk eqsOk (FnsOk.cons (trig_table.ok k) FnsOk.nil)
theorem trig_first.way (k:Nat) (a0:Int):Owp (trig_first k a0) fun y=>∃ w c0,exec PR (trig_first.cx k) trig_first.code 0 (entry (.pair T2 .unit) (a0,())).st w (Ret (trig_first.cx k) Tryz.f104 c0 (.one (.dp T2)) y):=by
  unfold trig_first; exact
   Owp.bnd fun y1 e2 =>
   Owp.bif (fun e3 =>
   Owp.req fun h4 =>
   Owp.some (⟨[.res (.one (.dp (.arr 65 T2))) y1,tT],[],via (retP (aI (aI (aI (aI (aI (aI trivial e2) (by decide:nz (256:Int))) (by decide:nz (256:Int))) e3) h4) h4) (.one (.dp T2)) ((el (0:Int) y1 (iquo .i64 a0 (256:Int))):Int)) (by kernel_rfl)⟩)) (fun e3 =>
   Owp.req fun h5 =>
   Owp.req fun h6 =>
   Owp.some (⟨[.res (.one (.dp (.arr 65 T2))) y1,fF],[],via (retP (aI (aI (aI (aI (aI (aI (aI (aI (aI (aI (aI trivial e2) (by decide:nz (256:Int))) (by decide:nz (256:Int))) e3) h5) h5) h6) h6) h5) h5) (by decide:nz (256:Int))) (.one (.dp T2)) ((iadd .i64 (el (0:Int) y1 (iquo .i64 a0 (256:Int))) (iquo .i64 (iadd .i64 (imul .i64 (isub .i64 (el (0:Int) y1 (iadd .i64 (iquo .i64 a0 (256:Int)) (1:Int))) (el (0:Int) y1 (iquo .i64 a0 (256:Int)))) (irem a0 (256:Int))) (128:Int)) (256:Int))):Int)) (by kernel_rfl)⟩))
theorem trig_first.ok (k:Nat):FnOk PR 104 (trig_first.sp k) :=
  fn_ok (trig_first.cok k) hmix Tryz.func104 (code:=trig_first.code) (by kernel_rfl) (by kernel_rfl) (by kernel_rfl) rfl (by kernel_rfl) (by kernel_rfl) (by kernel_rfl) (fun x=>Nat.le_of_ble_eq_true (by kernel_rfl)) fun x y hy=>(trig_first.way k x.1).ap hy
noncomputable def trig_Sin.code:Code:=Func.cd Tryz.f74
def trig_Sin (k:Nat) (a0:Int):Option Int :=
  bif' (ieq (iquo .i64 (ibits .and .i64 a0 65535) 16384) 0)
  (bnd (trig_first k (irem (ibits .and .i64 a0 65535) 16384)) fun y2 =>
   some y2)
  (bif' (ieq (iquo .i64 (ibits .and .i64 a0 65535) 16384) 1)
   (bnd (trig_first k (isub .i64 16384 (irem (ibits .and .i64 a0 65535) 16384))) fun y5 =>
   some y5)
   (bif' (ieq (iquo .i64 (ibits .and .i64 a0 65535) 16384) 2)
   (bnd (trig_first k (irem (ibits .and .i64 a0 65535) 16384)) fun y8 =>
   some (ineg .i64 y8))
   (bnd (trig_first k (isub .i64 16384 (irem (ibits .and .i64 a0 65535) 16384))) fun y10 =>
   some (ineg .i64 y10))))
noncomputable def trig_Sin.sp (k:Nat):Go.Sx.Spec:=⟨(.pair T2 .unit),(.one (.dp T2)),fun x=>trig_Sin k x.1,false⟩
noncomputable def trig_Sin.cx (k:Nat):Go.Sx.Ctx:=⟨tys,[(104,trig_first.sp k)],eqs,28,false⟩
theorem trig_Sin.cok (k:Nat):CtxOk PR (trig_Sin.cx k):=ctx_ok tysOk eqsOk (FnsOk.cons (trig_first.ok k) FnsOk.nil)
theorem trig_Sin.way (k:Nat) (a0:Int):Owp (trig_Sin k a0) fun y=>∃ w c0,exec PR (trig_Sin.cx k) trig_Sin.code 0 (entry (.pair T2 .unit) (a0,())).st w (Ret (trig_Sin.cx k) Tryz.f74 c0 (.one (.dp T2)) y):=by
  unfold trig_Sin; exact
   Owp.bif (fun e1 =>
   Owp.bnd fun y2 e3 =>
   Owp.some (⟨[tT,rS T2 y2],[],via (retP (aI (aI (aI (aI trivial (by decide:nz (16384:Int))) (by decide:nz (16384:Int))) e1) e3) (.one (.dp T2)) (y2:Int)) (by kernel_rfl)⟩)) (fun e1 =>
   Owp.bif (fun e4 =>
   Owp.bnd fun y5 e6 =>
   Owp.some (⟨[fF,tT,rS T2 y5],[],via (retP (aI (aI (aI (aI (aI trivial (by decide:nz (16384:Int))) (by decide:nz (16384:Int))) e1) e4) e6) (.one (.dp T2)) (y5:Int)) (by kernel_rfl)⟩)) (fun e4 =>
   Owp.bif (fun e7 =>
   Owp.bnd fun y8 e9 =>
   Owp.some (⟨[fF,fF,tT,rS T2 y8],[],via (retP (aI (aI (aI (aI (aI (aI trivial (by decide:nz (16384:Int))) (by decide:nz (16384:Int))) e1) e4) e7) e9) (.one (.dp T2)) ((ineg .i64 y8):Int)) (by kernel_rfl)⟩)) (fun e7 =>
   Owp.bnd fun y10 e11 =>
   Owp.some (⟨[fF,fF,fF,rS T2 y10],[],via (retP (aI (aI (aI (aI (aI (aI trivial (by decide:nz (16384:Int))) (by decide:nz (16384:Int))) e1) e4) e7) e11) (.one (.dp T2)) ((ineg .i64 y10):Int)) (by kernel_rfl)⟩))))
theorem trig_Sin.ok (k:Nat):FnOk PR 74 (trig_Sin.sp k) :=
  fn_ok (trig_Sin.cok k) hmix Tryz.func74 (code:=trig_Sin.code) (by kernel_rfl) (by kernel_rfl) (by kernel_rfl) rfl (by kernel_rfl) (by kernel_rfl) (by kernel_rfl) (fun x=>Nat.le_of_ble_eq_true (by kernel_rfl)) fun x y hy=>(trig_Sin.way k x.1).ap hy
noncomputable def trig_Cos.code:Code:=Func.cd Tryz.f73
def trig_Cos (k:Nat) (a0:Int):Option Int :=
  bnd (trig_Sin k (iadd .i64 (ibits .and .i64 a0 65535) 16384)) fun y1 =>
  some y1
noncomputable def trig_Cos.sp (k:Nat):Go.Sx.Spec:=⟨(.pair T2 .unit),(.one (.dp T2)),fun x=>trig_Cos k x.1,false⟩
noncomputable def trig_Cos.cx (k:Nat):Go.Sx.Ctx:=⟨tys,[(74,trig_Sin.sp k)],eqs,7,false⟩
theorem trig_Cos.cok (k:Nat):CtxOk PR (trig_Cos.cx k):=ctx_ok tysOk eqsOk (FnsOk.cons (trig_Sin.ok k) FnsOk.nil)
theorem trig_Cos.way (k:Nat) (a0:Int):Owp (trig_Cos k a0) fun y=>∃ w c0,exec PR (trig_Cos.cx k) trig_Cos.code 0 (entry (.pair T2 .unit) (a0,())).st w (Ret (trig_Cos.cx k) Tryz.f73 c0 (.one (.dp T2)) y):=by
  unfold trig_Cos; exact
   Owp.bnd fun y1 e2 =>
   Owp.some (⟨[rS T2 y1],[],via (retP (aI trivial e2) (.one (.dp T2)) (y1:Int)) (by kernel_rfl)⟩)
theorem trig_Cos.ok (k:Nat):FnOk PR 73 (trig_Cos.sp k) :=
  fn_ok (trig_Cos.cok k) hmix Tryz.func73 (code:=trig_Cos.code) (by kernel_rfl) (by kernel_rfl) (by kernel_rfl) rfl (by kernel_rfl) (by kernel_rfl) (by kernel_rfl) (fun x=>Nat.le_of_ble_eq_true (by kernel_rfl)) fun x y hy=>(trig_Cos.way k x.1).ap hy
noncomputable def vec_Turn.code:Code:=Func.cd Tryz.f42
def vec_Turn (k:Nat) (a0:V22) (a1:Int):Option V22 :=
  bnd (trig_Cos k a1) fun y1 =>
  bnd (trig_Sin k a1) fun y3 =>
  bnd (fix_Mul k a0.1 y1) fun y5 =>
  bnd (fix_Mul k a0.2.1 y3) fun y7 =>
  bnd (fix_Sub k y5 y7) fun y9 =>
  bnd (fix_Mul k a0.1 y3) fun y11 =>
  bnd (fix_Mul k a0.2.1 y1) fun y13 =>
  bnd (fix_Add k y11 y13) fun y15 =>
  some (y9,y15,())
noncomputable def vec_Turn.sp (k:Nat):Go.Sx.Spec:=⟨(.pair T22 (.pair T2 .unit)),(.one (.dp T22)),fun x=>vec_Turn k x.1 x.2.1,false⟩
noncomputable def vec_Turn.cx (k:Nat):Go.Sx.Ctx:=⟨tys,[(73,trig_Cos.sp k),(74,trig_Sin.sp k),(14,fix_Mul.sp k),(75,fix_Sub.sp k),(72,fix_Add.sp k)],eqs,30,false⟩
theorem vec_Turn.cok (k:Nat):CtxOk PR (vec_Turn.cx k):=ctx_ok tysOk eqsOk (FnsOk.cons (trig_Cos.ok k) (FnsOk.cons (trig_Sin.ok k) (FnsOk.cons (fix_Mul.ok k) (FnsOk.cons (fix_Sub.ok k) (FnsOk.cons (fix_Add.ok k) FnsOk.nil)))))
theorem vec_Turn.way (k:Nat) (a0:V22) (a1:Int):Owp (vec_Turn k a0 a1) fun y=>∃ w c0,exec PR (vec_Turn.cx k) vec_Turn.code 0 (entry (.pair T22 (.pair T2 .unit)) (a0,a1,())).st w (Ret (vec_Turn.cx k) Tryz.f42 c0 (.one (.dp T22)) y):=by
  unfold vec_Turn; exact
   Owp.bnd fun y1 e2 =>
   Owp.bnd fun y3 e4 =>
   Owp.bnd fun y5 e6 =>
   Owp.bnd fun y7 e8 =>
   Owp.bnd fun y9 e10 =>
   Owp.bnd fun y11 e12 =>
   Owp.bnd fun y13 e14 =>
   Owp.bnd fun y15 e16 =>
   Owp.some (⟨[rS T2 y1,rS T2 y3,rS T2 y5,rS T2 y7,rS T2 y9,rS T2 y11,rS T2 y13,rS T2 y15],[],via (retP (aI (aI (aI (aI (aI (aI (aI (aI trivial e2) e4) e6) e8) e10) e12) e14) e16) (.one (.dp T22)) ((y9,y15,()):V22)) (by kernel_rfl)⟩)
theorem vec_Turn.ok (k:Nat):FnOk PR 42 (vec_Turn.sp k) :=
  fn_ok (vec_Turn.cok k) hmix Tryz.func42 (code:=vec_Turn.code) (by kernel_rfl) (by kernel_rfl) (by kernel_rfl) rfl (by kernel_rfl) (by kernel_rfl) (by kernel_rfl) (fun x=>Nat.le_of_ble_eq_true (by kernel_rfl)) fun x y hy=>(vec_Turn.way k x.1 x.2.1).ap hy
noncomputable def vec_through.code:Code:=Func.cd Tryz.f109
def vec_through.c1 (k:Nat) (a0 a1:Int):Option (Bool) :=
  bif' (ilt (iadd .i64 (imul .i64 (imul .i64 2 a0) 65536) a1) 0)
  (req (nz (imul .i64 2 a1)) <|
   some (ine (irem (iadd .i64 (imul .i64 (imul .i64 2 a0) 65536) a1) (imul .i64 2 a1)) 0))
  (some false)
def vec_through (k:Nat) (a0 a1:Int):Option Int :=
  req (nz (imul .i64 2 a1)) <|
  bnd (vec_through.c1 k a0 a1) fun o4 =>
  bif' o4
  (some (isub .i64 (iquo .i64 (iadd .i64 (imul .i64 (imul .i64 2 a0) 65536) a1) (imul .i64 2 a1)) 1))
  (some (iquo .i64 (iadd .i64 (imul .i64 (imul .i64 2 a0) 65536) a1) (imul .i64 2 a1)))
noncomputable def vec_through.sp (k:Nat):Go.Sx.Spec:=⟨T22,(.one (.dp T2)),fun x=>vec_through k x.1 x.2.1,false⟩
noncomputable def vec_through.cx (k:Nat):Go.Sx.Ctx:=⟨tys,[],eqs,28,false⟩
theorem vec_through.cok (k:Nat):CtxOk PR (vec_through.cx k):=ctx_ok tysOk eqsOk FnsOk.nil
noncomputable def vec_through.c1p (a0 a1:Int):SL:=⟨[(1,(.val T2 a1)),(5,(.val T2 (iadd .i64 (imul .i64 (imul .i64 (2:Int) a0) (65536:Int)) a1))),(6,(.val T2 (iquo .i64 (iadd .i64 (imul .i64 (imul .i64 (2:Int) a0) (65536:Int)) a1) (imul .i64 (2:Int) a1))))],[]⟩
noncomputable def vec_through.c1q (a0 a1:Int) (o:Bool):SL:=(fun v=>⟨[(6,(.val T2 (iquo .i64 (iadd .i64 (imul .i64 (imul .i64 (2:Int) a0) (65536:Int)) a1) (imul .i64 (2:Int) a1)))),(24,(.val T4 v))],[]⟩) o
noncomputable def vec_through.c1x (o:Bool):Ex:=(fun _=>.normal) o
noncomputable def vec_through.c1n (o:Bool):Nat:=(fun _=>0) o
theorem vec_through.c1_ok (k:Nat) (a0 a1:Int):Owp (vec_through.c1 k a0 a1) fun o=>Triple PR (vec_through.cx k) (sub vec_through.code [1,1,1,0,0]) 0 (vec_through.c1p a0 a1) (vec_through.c1x o) (vec_through.c1n o) (vec_through.c1q a0 a1 o):=by
  unfold vec_through.c1; exact
   Owp.bif (fun e2 =>
   Owp.req fun h3 =>
   Owp.some (triple_way (vec_through.cok k) hmix [tT,tT,tT,tT,tT,tT] [] [] (via (finP (aI (aI (aI (aI (aI (aI trivial e2) e2) e2) (aI e2 h3)) e2) e2) .normal [] (vec_through.c1q a0 a1 (ine (irem (iadd .i64 (imul .i64 (imul .i64 (2:Int) a0) (65536:Int)) a1) (imul .i64 (2:Int) a1)) (0:Int)))) (by kernel_rfl)))) (fun e2 =>
   Owp.some (triple_way (vec_through.cok k) hmix [fF,fF,fF,fF,fF,fF] [] [] (via (finP (aI (aI (aI (aI (aI (aI trivial e2) e2) e2) e2) e2) e2) .normal [] (vec_through.c1q a0 a1 false)) (by kernel_rfl))))
theorem vec_through.way (k:Nat) (a0 a1:Int):Owp (vec_through k a0 a1) fun y=>∃ w c0,exec PR (vec_through.cx k) vec_through.code 0 (entry T22 (a0,a1,())).st w (Ret (vec_through.cx k) Tryz.f109 c0 (.one (.dp T2)) y):=by
  unfold vec_through; exact
   Owp.req fun h1 =>
   Owp.bnd fun o4 e5 =>
   Owp.bif (fun e6 =>
   Owp.some (⟨[.cutR 3 ⟨[],[],(vec_through.c1p a0 a1),0,.normal,(vec_through.c1q a0 a1 o4),0⟩,tT],[],via (cutP (aI trivial h1) [] (vec_through.c1p a0 a1) (((vec_through.c1_ok k a0 a1).ap e5)) (retP (aI trivial e6) (.one (.dp T2)) ((isub .i64 (iquo .i64 (iadd .i64 (imul .i64 (imul .i64 (2:Int) a0) (65536:Int)) a1) (imul .i64 (2:Int) a1)) (1:Int)):Int))) (by kernel_rfl)⟩)) (fun e6 =>
   Owp.some (⟨[.cutR 3 ⟨[],[],(vec_through.c1p a0 a1),0,.normal,(vec_through.c1q a0 a1 o4),0⟩,fF],[],via (cutP (aI trivial h1) [] (vec_through.c1p a0 a1) (((vec_through.c1_ok k a0 a1).ap e5)) (retP (aI trivial e6) (.one (.dp T2)) ((iquo .i64 (iadd .i64 (imul .i64 (imul .i64 (2:Int) a0) (65536:Int)) a1) (imul .i64 (2:Int) a1)):Int))) (by kernel_rfl)⟩))
theorem vec_through.ok (k:Nat):FnOk PR 109 (vec_through.sp k) :=
  fn_ok (vec_through.cok k) hmix Tryz.func109 (code:=vec_through.code) (by kernel_rfl) (by kernel_rfl) (by kernel_rfl) rfl (by kernel_rfl) (by kernel_rfl) (by kernel_rfl) (fun x=>Nat.le_of_ble_eq_true (by kernel_rfl)) fun x y hy=>(vec_through.way k x.1 x.2.1).ap hy
noncomputable def vec_Unit.code:Code:=Func.cd Tryz.f88
def vec_Unit.c1 (k:Nat) (y1 y3:Int):Option (Bool) :=
  bif' (ieq y1 0)
  (some (ieq y3 0))
  (some false)
def vec_Unit.c2 (k:Nat):Nat → Int → Int → Option ((Int × Int))
  | 0,_,_=>none
  | n+1,v9,v10 =>
   bnd (vec_mag k v9) fun y11 =>
   bnd (vec_mag k v10) fun y13 =>
   bif' (ilt (imax y11 y13) 1073741824)
   (vec_Unit.c2 k n (imul .i64 2 v9) (imul .i64 2 v10))
   (some (v9,v10))
def vec_Unit (k:Nat) (a0:V22):Option V22 :=
  bnd (fix_Clamp k a0.1) fun y1 =>
  bnd (fix_Clamp k a0.2.1) fun y3 =>
  bnd (vec_Unit.c1 k y1 y3) fun o6 =>
  bif' o6
  (some (0,0,()))
  (bnd (vec_Unit.c2 k k y1 y3) fun o16 =>
   bnd (vec_length k o16.1 o16.2) fun y18 =>
   bnd (vec_through k o16.1 y18) fun y20 =>
   bnd (vec_through k o16.2 y18) fun y22 =>
   some (y20,y22,()))
noncomputable def vec_Unit.sp (k:Nat):Go.Sx.Spec:=⟨(.pair T22 .unit),(.one (.dp T22)),fun x=>vec_Unit k x.1,false⟩
noncomputable def vec_Unit.cx (k:Nat):Go.Sx.Ctx:=⟨tys,[(39,fix_Clamp.sp k),(69,vec_mag.sp k),(40,vec_length.sp k),(109,vec_through.sp k)],eqs,39,false⟩
theorem vec_Unit.cok (k:Nat):CtxOk PR (vec_Unit.cx k):=ctx_ok tysOk eqsOk (FnsOk.cons (fix_Clamp.ok k) (FnsOk.cons (vec_mag.ok k) (FnsOk.cons (vec_length.ok k) (FnsOk.cons (vec_through.ok k) FnsOk.nil))))
noncomputable def vec_Unit.c1p (y1 y3:Int):SL:=⟨[(2,(.val .ptr ⟨0,0,(0:Int),0,0⟩)),(3,(.val T2 y1)),(4,(.val T2 y3))],[(0,.cells T22 ((0:Int),(0:Int),()))]⟩
noncomputable def vec_Unit.c1q (y1 y3:Int) (o:Bool):SL:=(fun v=>⟨[(2,(.val .ptr ⟨0,0,(0:Int),0,0⟩)),(3,(.val T2 y1)),(4,(.val T2 y3)),(17,(.val T4 v))],[(0,.cells T22 ((0:Int),(0:Int),()))]⟩) o
noncomputable def vec_Unit.c1x (o:Bool):Ex:=(fun _=>.normal) o
noncomputable def vec_Unit.c1n (o:Bool):Nat:=(fun _=>1) o
theorem vec_Unit.c1_ok (k:Nat) (y1 y3:Int):Owp (vec_Unit.c1 k y1 y3) fun o=>Triple PR (vec_Unit.cx k) (sub vec_Unit.code [1,1,0,0]) 1 (vec_Unit.c1p y1 y3) (vec_Unit.c1x o) (vec_Unit.c1n o) (vec_Unit.c1q y1 y3 o):=by
  unfold vec_Unit.c1; exact
   Owp.bif (fun e5 =>
   Owp.some (triple_way (vec_Unit.cok k) hmix [tT,tT,tT] [] [(0,0)] (via (finP (aI (aI (aI trivial e5) e5) e5) .normal [(0,0)] (vec_Unit.c1q y1 y3 (ieq y3 (0:Int)))) (by kernel_rfl)))) (fun e5 =>
   Owp.some (triple_way (vec_Unit.cok k) hmix [fF,fF,fF] [] [(0,0)] (via (finP (aI (aI (aI trivial e5) e5) e5) .normal [(0,0)] (vec_Unit.c1q y1 y3 false)) (by kernel_rfl))))
noncomputable def vec_Unit.c2p (v9 v10:Int):SL:=⟨[(2,(.val .ptr ⟨0,0,(0:Int),0,0⟩)),(3,(.val T2 v9)),(4,(.val T2 v10))],[(0,.cells T22 ((0:Int),(0:Int),()))]⟩
noncomputable def vec_Unit.c2q (o:(Int × Int)):SL:=(fun v=>⟨[(2,(.val .ptr ⟨0,0,(0:Int),0,0⟩)),(3,(.val T2 v.1)),(4,(.val T2 v.2))],[(0,.cells T22 ((0:Int),(0:Int),()))]⟩) o
noncomputable def vec_Unit.c2x (o:(Int × Int)):Ex:=(fun _=>(.exit 0)) o
noncomputable def vec_Unit.c2n (o:(Int × Int)):Nat:=(fun _=>1) o
theorem vec_Unit.c2_ok (k:Nat):∀ (n:Nat) (v9 v10:Int),Owp (vec_Unit.c2 k n v9 v10) fun o=>LTriple PR (vec_Unit.cx k) (sub vec_Unit.code [1,1,1,0,0,0]) 1 (vec_Unit.c2p v9 v10) (vec_Unit.c2x o) (vec_Unit.c2n o) (vec_Unit.c2q o)
  | 0,_,_=>fun _ h=>nomatch h
  | n+1,v9,v10=>Owp.of (vec_Unit.c2.eq_2 ..) (
   Owp.bnd fun y11 e12 =>
   Owp.bnd fun y13 e14 =>
   Owp.bif (fun e15 =>
   fun y hy=>loop_back (vec_Unit.cok k) hmix 1 (vec_Unit.c2p (imul .i64 (2:Int) v9) (imul .i64 (2:Int) v10)) [rS T12 y11,rS T12 y13,tT] [] [(0,0)] (via (finP (aI (aI (aI trivial e12) e14) e15) .normal [(0,0)] (vec_Unit.c2p (imul .i64 (2:Int) v9) (imul .i64 (2:Int) v10))) (by kernel_rfl)) ((vec_Unit.c2_ok k n (imul .i64 (2:Int) v9) (imul .i64 (2:Int) v10)).ap hy)) (fun e15 =>
   Owp.some (loop_exit (vec_Unit.cok k) hmix [rS T12 y11,rS T12 y13,fF] [] [(0,0)] (exne 0) (via (finP (aI (aI (aI trivial e12) e14) e15) (.exit 0) [(0,0)] (vec_Unit.c2q (v9,v10))) (by kernel_rfl)))))
theorem vec_Unit.way (k:Nat) (a0:V22):Owp (vec_Unit k a0) fun y=>∃ w c0,exec PR (vec_Unit.cx k) vec_Unit.code 0 (entry (.pair T22 .unit) (a0,())).st w (Ret (vec_Unit.cx k) Tryz.f88 c0 (.one (.dp T22)) y):=by
  unfold vec_Unit; exact
   Owp.bnd fun y1 e2 =>
   Owp.bnd fun y3 e4 =>
   Owp.bnd fun o6 e7 =>
   Owp.bif (fun e8 =>
   Owp.some (⟨[rS T2 y1,rS T2 y3,.cutR 2 ⟨[],[(0,1)],(vec_Unit.c1p y1 y3),1,.normal,(vec_Unit.c1q y1 y3 o6),1⟩,tT],[],via (cutP (aI (aI trivial e2) e4) [(0,1)] (vec_Unit.c1p y1 y3) (((vec_Unit.c1_ok k y1 y3).ap e7)) (retP (aI trivial e8) (.one (.dp T22)) (((0:Int),(0:Int),()):V22))) (by kernel_rfl)⟩)) (fun e8 =>
   Owp.bnd fun o16 e17 =>
   Owp.bnd fun y18 e19 =>
   Owp.bnd fun y20 e21 =>
   Owp.bnd fun y22 e23 =>
   Owp.some (⟨[rS T2 y1,rS T2 y3,.cutR 2 ⟨[],[(0,1)],(vec_Unit.c1p y1 y3),1,.normal,(vec_Unit.c1q y1 y3 o6),1⟩,fF,.cut ⟨[],[(0,0)],(vec_Unit.c2p y1 y3),1,(.exit 0),(vec_Unit.c2q o16),1⟩,rS T2 y18,rS T2 y20,rS T2 y22],[],via (cutP (aI (aI trivial e2) e4) [(0,1)] (vec_Unit.c1p y1 y3) (((vec_Unit.c1_ok k y1 y3).ap e7)) (cutP (aI trivial e8) [(0,0)] (vec_Unit.c2p y1 y3) (((vec_Unit.c2_ok k k y1 y3).ap e17).triple) (retP (aI (aI (aI trivial e19) e21) e23) (.one (.dp T22)) ((y20,y22,()):V22)))) (by kernel_rfl)⟩))
theorem vec_Unit.ok (k:Nat):FnOk PR 88 (vec_Unit.sp k) :=
  fn_ok (vec_Unit.cok k) hmix Tryz.func88 (code:=vec_Unit.code) (by kernel_rfl) (by kernel_rfl) (by kernel_rfl) rfl (by kernel_rfl) (by kernel_rfl) (by kernel_rfl) (fun x=>Nat.le_of_ble_eq_true (by kernel_rfl)) fun x y hy=>(vec_Unit.way k x.1).ap hy
noncomputable def tourlaw2_square.code:Code:=Func.cd Tryz.f34
def tourlaw2_square (k:Nat) (a0 a1 a2:Int):Option (List V22) :=
  some [((imul .i64 a0 65536),(imul .i64 a1 65536),()),((iadd .i64 (imul .i64 a0 65536) (imul .i64 a2 65536)),(imul .i64 a1 65536),()),((iadd .i64 (imul .i64 a0 65536) (imul .i64 a2 65536)),(iadd .i64 (imul .i64 a1 65536) (imul .i64 a2 65536)),()),((imul .i64 a0 65536),(iadd .i64 (imul .i64 a1 65536) (imul .i64 a2 65536)),())]
noncomputable def tourlaw2_square.sp (k:Nat):Go.Sx.Spec:=⟨(.pair T2 T22),(.one (.ow T22 23)),fun x=>tourlaw2_square k x.1 x.2.1 x.2.2.1,false⟩
noncomputable def tourlaw2_square.cx (k:Nat):Go.Sx.Ctx:=⟨tys,[],eqs,34,false⟩
theorem tourlaw2_square.cok (k:Nat):CtxOk PR (tourlaw2_square.cx k):=ctx_ok tysOk eqsOk FnsOk.nil
theorem tourlaw2_square.way (k:Nat) (a0 a1 a2:Int):Owp (tourlaw2_square k a0 a1 a2) fun y=>∃ w c0,exec PR (tourlaw2_square.cx k) tourlaw2_square.code 0 (entry (.pair T2 T22) (a0,a1,a2,())).st w (Ret (tourlaw2_square.cx k) Tryz.f34 c0 (.one (.ow T22 23)) y):=by
  unfold tourlaw2_square; exact
   Owp.some (⟨[tT],[],via (retP trivial (.one (.ow T22 23)) ([((imul .i64 a0 (65536:Int)),(imul .i64 a1 (65536:Int)),()),((iadd .i64 (imul .i64 a0 (65536:Int)) (imul .i64 a2 (65536:Int))),(imul .i64 a1 (65536:Int)),()),((iadd .i64 (imul .i64 a0 (65536:Int)) (imul .i64 a2 (65536:Int))),(iadd .i64 (imul .i64 a1 (65536:Int)) (imul .i64 a2 (65536:Int))),()),((imul .i64 a0 (65536:Int)),(iadd .i64 (imul .i64 a1 (65536:Int)) (imul .i64 a2 (65536:Int))),())]:(List V22))) (by kernel_rfl)⟩)
theorem tourlaw2_square.ok (k:Nat):FnOk PR 34 (tourlaw2_square.sp k) :=
  fn_ok (tourlaw2_square.cok k) hmix Tryz.func34 (code:=tourlaw2_square.code) (by kernel_rfl) (by kernel_rfl) (by kernel_rfl) rfl (by kernel_rfl) (by kernel_rfl) (by kernel_rfl) (fun x=>Nat.le_of_ble_eq_true (by kernel_rfl)) fun x y hy=>(tourlaw2_square.way k x.1 x.2.1 x.2.2.1).ap hy
noncomputable def tourlaw2_block.code:Code:=Func.cd Tryz.f12
def tourlaw2_block (k:Nat) (a0 a1:Int) (a2:Bool):Option V25 :=
  bnd (tourlaw2_square k (-1) (-1) 2) fun y1 =>
  bif' a2
  (some (((imul .i64 a0 65536),(imul .i64 a1 65536),()),(0,0,()),0,0,65536,65536,0,0,y1,false,0,()))
  (some (((imul .i64 a0 65536),(imul .i64 a1 65536),()),(0,0,()),0,0,0,0,0,0,y1,false,0,()))
noncomputable def tourlaw2_block.sp (k:Nat):Go.Sx.Spec:=⟨(.pair T2 (.pair T2 (.pair T4 .unit))),(.one (.dp T25)),fun x=>tourlaw2_block k x.1 x.2.1 x.2.2.1,false⟩
noncomputable def tourlaw2_block.cx (k:Nat):Go.Sx.Ctx:=⟨tys,[(34,(tourlaw2_square.sp k).frz)],eqs,19,false⟩
theorem tourlaw2_block.cok (k:Nat):CtxOk PR (tourlaw2_block.cx k):=ctx_ok tysOk eqsOk (FnsOk.cons (FnOk.frz rfl (tourlaw2_square.ok k)) FnsOk.nil)
theorem tourlaw2_block.way (k:Nat) (a0 a1:Int) (a2:Bool):Owp (tourlaw2_block k a0 a1 a2) fun y=>∃ w c0,exec PR (tourlaw2_block.cx k) tourlaw2_block.code 0 (entry (.pair T2 (.pair T2 (.pair T4 .unit))) (a0,a1,a2,())).st w (Ret (tourlaw2_block.cx k) Tryz.f12 c0 (.one (.dp T25)) y):=by
  unfold tourlaw2_block; exact
   Owp.bnd fun y1 e2 =>
   Owp.bif (fun e3 =>
   Owp.some (⟨[rS T24 y1,tT],[],via (retP (aI (aI trivial e2) e3) (.one (.dp T25)) ((((imul .i64 a0 (65536:Int)),(imul .i64 a1 (65536:Int)),()),((0:Int),(0:Int),()),(0:Int),(0:Int),(65536:Int),(65536:Int),(0:Int),(0:Int),y1,false,(0:Int),()):V25)) (by kernel_rfl)⟩)) (fun e3 =>
   Owp.some (⟨[rS T24 y1,fF],[],via (retP (aI (aI trivial e2) e3) (.one (.dp T25)) ((((imul .i64 a0 (65536:Int)),(imul .i64 a1 (65536:Int)),()),((0:Int),(0:Int),()),(0:Int),(0:Int),(0:Int),(0:Int),(0:Int),(0:Int),y1,false,(0:Int),()):V25)) (by kernel_rfl)⟩))
theorem tourlaw2_block.ok (k:Nat):FnOk PR 12 (tourlaw2_block.sp k) :=
  fn_ok (tourlaw2_block.cok k) hmix Tryz.func12 (code:=tourlaw2_block.code) (by kernel_rfl) (by kernel_rfl) (by kernel_rfl) rfl (by kernel_rfl) (by kernel_rfl) (by kernel_rfl) (fun x=>Nat.le_of_ble_eq_true (by kernel_rfl)) fun x y hy=>(tourlaw2_block.way k x.1 x.2.1 x.2.2.1).ap hy
noncomputable def body_within.code:Code:=Func.cd Tryz.f37
def body_within (k:Nat) (a0:V22) (a1:Int):Option Bool :=
  bif' (ige a0.1 (ineg .i64 a1))
  (bif' (ile a0.1 a1)
   (bif' (ige a0.2.1 (ineg .i64 a1))
   (some (ile a0.2.1 a1))
   (some false))
   (some false))
  (some false)
noncomputable def body_within.sp (k:Nat):Go.Sx.Spec:=⟨(.pair T22 (.pair T2 .unit)),(.one (.dp T4)),fun x=>body_within k x.1 x.2.1,false⟩
noncomputable def body_within.cx (k:Nat):Go.Sx.Ctx:=⟨tys,[],eqs,29,false⟩
theorem body_within.cok (k:Nat):CtxOk PR (body_within.cx k):=ctx_ok tysOk eqsOk FnsOk.nil
theorem body_within.way (k:Nat) (a0:V22) (a1:Int):Owp (body_within k a0 a1) fun y=>∃ w c0,exec PR (body_within.cx k) body_within.code 0 (entry (.pair T22 (.pair T2 .unit)) (a0,a1,())).st w (Ret (body_within.cx k) Tryz.f37 c0 (.one (.dp T4)) y):=by
  unfold body_within; exact
   Owp.bif (fun e1 =>
   Owp.bif (fun e2 =>
   Owp.bif (fun e3 =>
   Owp.some (⟨[tT,tT,tT,tT,tT,tT,tT,tT,tT,tT,tT,tT,tT,tT,tT,tT],[],via (retP (aI (aI (aI (aI (aI (aI (aI (aI (aI (aI (aI (aI (aI (aI (aI (aI trivial e1) e1) e1) e1) e1) e2) e2) e2) e2) e2) e2) e3) e3) e3) e3) e3) (.one (.dp T4)) ((ile a0.2.1 a1):Bool)) (by kernel_rfl)⟩)) (fun e3 =>
   Owp.some (⟨[tT,tT,tT,tT,tT,tT,tT,tT,tT,tT,tT,fF,fF,fF,fF,fF],[],via (retP (aI (aI (aI (aI (aI (aI (aI (aI (aI (aI (aI (aI (aI (aI (aI (aI trivial e1) e1) e1) e1) e1) e2) e2) e2) e2) e2) e2) e3) e3) e3) e3) e3) (.one (.dp T4)) (false:Bool)) (by kernel_rfl)⟩))) (fun e2 =>
   Owp.some (⟨[tT,tT,tT,tT,tT,fF,fF,fF,fF,fF,fF,fF,fF,fF,fF,fF],[],via (retP (aI (aI (aI (aI (aI (aI (aI (aI (aI (aI (aI (aI (aI (aI (aI (aI trivial e1) e1) e1) e1) e1) e2) e2) e2) e2) e2) e2) ff) ff) ff) ff) ff) (.one (.dp T4)) (false:Bool)) (by kernel_rfl)⟩))) (fun e1 =>
   Owp.some (⟨[fF,fF,fF,fF,fF,fF,fF,fF,fF,fF,fF,fF,fF,fF,fF,fF],[],via (retP (aI (aI (aI (aI (aI (aI (aI (aI (aI (aI (aI (aI (aI (aI (aI (aI trivial e1) e1) e1) e1) e1) ff) ff) ff) ff) ff) ff) ff) ff) ff) ff) ff) (.one (.dp T4)) (false:Bool)) (by kernel_rfl)⟩))
theorem body_within.ok (k:Nat):FnOk PR 37 (body_within.sp k) :=
  fn_ok (body_within.cok k) hmix Tryz.func37 (code:=body_within.code) (by kernel_rfl) (by kernel_rfl) (by kernel_rfl) rfl (by kernel_rfl) (by kernel_rfl) (by kernel_rfl) (fun x=>Nat.le_of_ble_eq_true (by kernel_rfl)) fun x y hy=>(body_within.way k x.1 x.2.1).ap hy
noncomputable def body_shape_1.code:Code:=Func.cd Tryz.f63
def body_shape_1 (k:Nat) (a0:V22):Option Bool :=
  bnd (body_within k a0 2097152) fun y1 =>
  some (!y1)
noncomputable def body_shape_1.sp (k:Nat):Go.Sx.Spec:=⟨(.pair T22 .unit),(.one (.dp T4)),fun x=>body_shape_1 k x.1,false⟩
noncomputable def body_shape_1.cx (k:Nat):Go.Sx.Ctx:=⟨tys,[(37,body_within.sp k)],eqs,6,false⟩
theorem body_shape_1.cok (k:Nat):CtxOk PR (body_shape_1.cx k):=ctx_ok tysOk eqsOk (FnsOk.cons (body_within.ok k) FnsOk.nil)
theorem body_shape_1.way (k:Nat) (a0:V22):Owp (body_shape_1 k a0) fun y=>∃ w c0,exec PR (body_shape_1.cx k) body_shape_1.code 0 (entry (.pair T22 .unit) (a0,())).st w (Ret (body_shape_1.cx k) Tryz.f63 c0 (.one (.dp T4)) y):=by
  unfold body_shape_1; exact
   Owp.bnd fun y1 e2 =>
   Owp.some (⟨[rS T4 y1],[],via (retP (aI trivial e2) (.one (.dp T4)) ((!y1):Bool)) (by kernel_rfl)⟩)
theorem body_shape_1.ok (k:Nat):FnOk PR 63 (body_shape_1.sp k) :=
  fn_ok (body_shape_1.cok k) hmix Tryz.func63 (code:=body_shape_1.code) (by kernel_rfl) (by kernel_rfl) (by kernel_rfl) rfl (by kernel_rfl) (by kernel_rfl) (by kernel_rfl) (fun x=>Nat.le_of_ble_eq_true (by kernel_rfl)) fun x y hy=>(body_shape_1.way k x.1).ap hy
noncomputable def body_size.code:Code:=Func.cd Tryz.f102
def body_size (k:Nat) (a0:V22):Option Int :=
  some (iadd .i64 (imax a0.1 (ineg .i64 a0.1)) (imax a0.2.1 (ineg .i64 a0.2.1)))
noncomputable def body_size.sp (k:Nat):Go.Sx.Spec:=⟨(.pair T22 .unit),(.one (.dp T2)),fun x=>body_size k x.1,false⟩
noncomputable def body_size.cx (k:Nat):Go.Sx.Ctx:=⟨tys,[],eqs,16,false⟩
theorem body_size.cok (k:Nat):CtxOk PR (body_size.cx k):=ctx_ok tysOk eqsOk FnsOk.nil
theorem body_size.way (k:Nat) (a0:V22):Owp (body_size k a0) fun y=>∃ w c0,exec PR (body_size.cx k) body_size.code 0 (entry (.pair T22 .unit) (a0,())).st w (Ret (body_size.cx k) Tryz.f102 c0 (.one (.dp T2)) y):=by
  unfold body_size; exact
   Owp.some (⟨[],[],via (retP trivial (.one (.dp T2)) ((iadd .i64 (imax a0.1 (ineg .i64 a0.1)) (imax a0.2.1 (ineg .i64 a0.2.1))):Int)) (by kernel_rfl)⟩)
theorem body_size.ok (k:Nat):FnOk PR 102 (body_size.sp k) :=
  fn_ok (body_size.cok k) hmix Tryz.func102 (code:=body_size.code) (by kernel_rfl) (by kernel_rfl) (by kernel_rfl) rfl (by kernel_rfl) (by kernel_rfl) (by kernel_rfl) (fun x=>Nat.le_of_ble_eq_true (by kernel_rfl)) fun x y hy=>(body_size.way k x.1).ap hy
noncomputable def body_fat.code:Code:=Func.cd Tryz.f64
def body_fat.c3 (k:Nat) (a0:(List V22)) (v1 v6:Int):Option (Bool) :=
  bif' (ine v6 v1)
  (req (nz (len a0)) <|
   bif' (ine v6 (irem (iadd .i64 v1 1) (len a0)))
   (bnd (body_size k ((isub .i64 (el Z22 a0 (irem (iadd .i64 v1 1) (len a0))).1 (el Z22 a0 v1).1),(isub .i64 (el Z22 a0 (irem (iadd .i64 v1 1) (len a0))).2.1 (el Z22 a0 v1).2.1),())) fun y12 =>
   bnd (body_size k ((isub .i64 (el Z22 a0 v6).1 (el Z22 a0 v1).1),(isub .i64 (el Z22 a0 v6).2.1 (el Z22 a0 v1).2.1),())) fun y14 =>
   some (ilt (isub .i64 (imul .i64 (isub .i64 (el Z22 a0 (irem (iadd .i64 v1 1) (len a0))).1 (el Z22 a0 v1).1) (isub .i64 (el Z22 a0 v6).2.1 (el Z22 a0 v1).2.1)) (imul .i64 (isub .i64 (el Z22 a0 (irem (iadd .i64 v1 1) (len a0))).2.1 (el Z22 a0 v1).2.1) (isub .i64 (el Z22 a0 v6).1 (el Z22 a0 v1).1))) (imul .i64 8 (iadd .i64 y12 y14))))
   (some false))
  (some false)
def body_fat.c2 (k:Nat) (a0:(List V22)) (v1:Int):Nat → Int → Option (Unit ⊕ Unit)
  | 0,_=>none
  | n+1,v6 =>
   bif' (ilt v6 (len a0))
   (req (inL v6 a0) <|
   bnd (body_fat.c3 k a0 v1 v6) fun o16 =>
   bif' o16
   (some (.inl ()))
   (body_fat.c2 k a0 v1 n (iadd .i64 v6 1)))
   (some (.inr ()))
def body_fat.c1 (k:Nat) (a0:(List V22)):Nat → Int → Option (Unit ⊕ Unit)
  | 0,_=>none
  | n+1,v1 =>
   bif' (ilt v1 (len a0))
   (req (inL v1 a0) <|
   req (nz (len a0)) <|
   req (inL (irem (iadd .i64 v1 1) (len a0)) a0) <|
   bnd (body_fat.c2 k a0 v1 k 0) fun o19 =>
   two o19 (fun y21 =>
   some (.inl ())) (fun y23 =>
   body_fat.c1 k a0 n (iadd .i64 v1 1)))
   (some (.inr ()))
def body_fat (k:Nat) (a0:(List V22)):Option Bool :=
  bnd (body_fat.c1 k a0 k 0) fun o25 =>
  two o25 (fun y27 =>
  some false) (fun y29 =>
  some true)
noncomputable def body_fat.sp (k:Nat):Go.Sx.Spec:=⟨(.pair T24 .unit),(.one (.dp T4)),fun x=>body_fat k x.1,false⟩
noncomputable def body_fat.cx (k:Nat):Go.Sx.Ctx:=⟨tys,[(102,body_size.sp k)],eqs,88,false⟩
theorem body_fat.cok (k:Nat):CtxOk PR (body_fat.cx k):=ctx_ok tysOk eqsOk (FnsOk.cons (body_size.ok k) FnsOk.nil)
noncomputable def body_fat.c3p (a0:(List V22)) (v1 v6:Int):SL:=⟨[(0,(.val T24 a0)),(3,(.val T2 v1)),(4,(.val .ptr ⟨0,0,(0:Int),0,0⟩)),(6,(.val .ptr ⟨1,0,(0:Int),0,0⟩)),(7,(.val T2 v6)),(9,(.val .ptr ⟨2,0,(0:Int),0,0⟩)),(10,(.val T24 a0)),(11,(.val T2 (len a0))),(12,(.val T2 v1)),(36,(.val T24 a0)),(37,(.val T2 (len a0))),(38,(.val T2 v6))],[(0,.cells T22 (el Z22 a0 v1)),(1,.cells T22 ((isub .i64 (el Z22 a0 (irem (iadd .i64 v1 (1:Int)) (len a0))).1 (el Z22 a0 v1).1),(isub .i64 (el Z22 a0 (irem (iadd .i64 v1 (1:Int)) (len a0))).2.1 (el Z22 a0 v1).2.1),())),(2,.cells T22 ((isub .i64 (el Z22 a0 v6).1 (el Z22 a0 v1).1),(isub .i64 (el Z22 a0 v6).2.1 (el Z22 a0 v1).2.1),()))]⟩
noncomputable def body_fat.c3q (a0:(List V22)) (v1 v6:Int) (o:Bool):SL:=(fun v=>⟨[(0,(.val T24 a0)),(3,(.val T2 v1)),(4,(.val .ptr ⟨0,0,(0:Int),0,0⟩)),(6,(.val .ptr ⟨1,0,(0:Int),0,0⟩)),(10,(.val T24 a0)),(11,(.val T2 (len a0))),(12,(.val T2 v1)),(36,(.val T24 a0)),(37,(.val T2 (len a0))),(38,(.val T2 v6)),(85,(.val T4 v))],[(0,.cells T22 (el Z22 a0 v1)),(1,.cells T22 ((isub .i64 (el Z22 a0 (irem (iadd .i64 v1 (1:Int)) (len a0))).1 (el Z22 a0 v1).1),(isub .i64 (el Z22 a0 (irem (iadd .i64 v1 (1:Int)) (len a0))).2.1 (el Z22 a0 v1).2.1),()))]⟩) o
noncomputable def body_fat.c3x (o:Bool):Ex:=(fun _=>.normal) o
noncomputable def body_fat.c3n (o:Bool):Nat:=(fun _=>2) o
theorem body_fat.c3_ok (k:Nat) (a0:(List V22)) (v1 v6:Int):Owp (body_fat.c3 k a0 v1 v6) fun o=>Triple PR (body_fat.cx k) (sub body_fat.code [1,0,1,0,0,1,1,0,0,1,1,1,1,0,0,1,1,0,0,1,1,0]) 3 (body_fat.c3p a0 v1 v6) (body_fat.c3x o) (body_fat.c3n o) (body_fat.c3q a0 v1 v6 o):=by
  unfold body_fat.c3; exact
   Owp.bif (fun e9 =>
   Owp.req fun h10 =>
   Owp.bif (fun e11 =>
   Owp.bnd fun y12 e13 =>
   Owp.bnd fun y14 e15 =>
   Owp.some (triple_way (body_fat.cok k) hmix [tT,tT,tT,tT,tT,tT,tT,tT,tT,tT,tT,tT,tT,tT,tT,tT,tT,tT,tT,tT,tT,rS T2 y12,tT,tT,rS T2 y14,tT,tT,tT,tT] [] [(0,0),(1,1)] (via (finP (aI (aI (aI (aI (aI (aI (aI (aI (aI (aI (aI (aI (aI (aI (aI (aI (aI (aI (aI (aI (aI (aI (aI (aI (aI (aI (aI trivial e9) e9) e9) e9) e9) (aI e9 h10)) e9) e9) e11) e11) e11) e11) e11) e11) e11) e11) e11) e11) e11) e11) (aI e11 e13)) e11) (aI e11 e15)) e11) e11) e11) e11) .normal [(0,0),(1,1)] (body_fat.c3q a0 v1 v6 (ilt (isub .i64 (imul .i64 (isub .i64 (el Z22 a0 (irem (iadd .i64 v1 (1:Int)) (len a0))).1 (el Z22 a0 v1).1) (isub .i64 (el Z22 a0 v6).2.1 (el Z22 a0 v1).2.1)) (imul .i64 (isub .i64 (el Z22 a0 (irem (iadd .i64 v1 (1:Int)) (len a0))).2.1 (el Z22 a0 v1).2.1) (isub .i64 (el Z22 a0 v6).1 (el Z22 a0 v1).1))) (imul .i64 (8:Int) (iadd .i64 y12 y14))))) (by kernel_rfl)))) (fun e11 =>
   Owp.some (triple_way (body_fat.cok k) hmix [tT,tT,tT,tT,tT,tT,tT,tT,fF,fF,fF,fF,fF,fF,fF,fF,fF,fF,fF,fF,fF,tT,fF,fF,tT,fF,fF,fF,fF] [] [(0,0),(1,1)] (via (finP (aI (aI (aI (aI (aI (aI (aI (aI (aI (aI (aI (aI (aI (aI (aI (aI (aI (aI (aI (aI (aI (aI (aI (aI (aI (aI (aI trivial e9) e9) e9) e9) e9) (aI e9 h10)) e9) e9) e11) e11) e11) e11) e11) e11) e11) e11) e11) e11) e11) e11) e11) e11) e11) e11) e11) e11) e11) .normal [(0,0),(1,1)] (body_fat.c3q a0 v1 v6 false)) (by kernel_rfl))))) (fun e9 =>
   Owp.some (triple_way (body_fat.cok k) hmix [fF,fF,fF,fF,fF,fF,fF,fF,fF,fF,fF,fF,fF,fF,fF,fF,fF,fF,fF,fF,fF,tT,fF,fF,tT,fF,fF,fF,fF] [] [(0,0),(1,1)] (via (finP (aI (aI (aI (aI (aI (aI (aI (aI (aI (aI (aI (aI (aI (aI (aI (aI (aI (aI (aI (aI (aI (aI (aI (aI (aI (aI (aI trivial e9) e9) e9) e9) e9) e9) e9) e9) ff) ff) ff) ff) ff) ff) ff) ff) ff) ff) ff) ff) ff) ff) ff) ff) ff) ff) ff) .normal [(0,0),(1,1)] (body_fat.c3q a0 v1 v6 false)) (by kernel_rfl))))
noncomputable def body_fat.c2p (a0:(List V22)) (v1 v6:Int):SL:=⟨[(0,(.val T24 a0)),(3,(.val T2 v1)),(4,(.val .ptr ⟨0,0,(0:Int),0,0⟩)),(6,(.val .ptr ⟨1,0,(0:Int),0,0⟩)),(10,(.val T24 a0)),(11,(.val T2 (len a0))),(12,(.val T2 v1)),(36,(.val T24 a0)),(37,(.val T2 (len a0))),(38,(.val T2 v6))],[(0,.cells T22 (el Z22 a0 v1)),(1,.cells T22 ((isub .i64 (el Z22 a0 (irem (iadd .i64 v1 (1:Int)) (len a0))).1 (el Z22 a0 v1).1),(isub .i64 (el Z22 a0 (irem (iadd .i64 v1 (1:Int)) (len a0))).2.1 (el Z22 a0 v1).2.1),()))]⟩
noncomputable def body_fat.c2q (a0:(List V22)) (v1:Int) (o:Unit ⊕ Unit):SL:=(fun o=>two o (fun v=>⟨[(2,(.val T4 false))],[]⟩) (fun v=>⟨[(0,(.val T24 a0)),(10,(.val T24 a0)),(11,(.val T2 (len a0))),(12,(.val T2 v1))],[]⟩)) o
noncomputable def body_fat.c2x (o:Unit ⊕ Unit):Ex:=(fun o=>two o (fun _=>.ret) (fun _=>(.exit 2))) o
noncomputable def body_fat.c2n (o:Unit ⊕ Unit):Nat:=(fun o=>two o (fun _=>0) (fun _=>0)) o
theorem body_fat.c2_ok (k:Nat) (a0:(List V22)) (v1:Int):∀ (n:Nat) (v6:Int),Owp (body_fat.c2 k a0 v1 n v6) fun o=>LTriple PR (body_fat.cx k) (sub body_fat.code [1,0,1,0,0,1,1,0,0,1,1,1,1,0,0]) 2 (body_fat.c2p a0 v1 v6) (body_fat.c2x o) (body_fat.c2n o) (body_fat.c2q a0 v1 o)
  | 0,_=>fun _ h=>nomatch h
  | n+1,v6=>Owp.of (body_fat.c2.eq_2 ..) (
   Owp.bif (fun e7 =>
   Owp.req fun h8 =>
   Owp.bnd fun o16 e17 =>
   Owp.bif (fun e18 =>
   Owp.some (loop_exit (body_fat.cok k) hmix [tT,.cutR 10 ⟨[],[(0,0),(1,1),(2,20)],(body_fat.c3p a0 v1 v6),3,.normal,(body_fat.c3q a0 v1 v6 o16),2⟩,tT] [] [] exne_ret (via (cutP (aI (aI trivial e7) h8) [(0,0),(1,1),(2,20)] (body_fat.c3p a0 v1 v6) (((body_fat.c3_ok k a0 v1 v6).ap e17)) (finP (aI trivial e18) .ret [] (body_fat.c2q a0 v1 (.inl ())))) (by kernel_rfl)))) (fun e18 =>
   fun y hy=>loop_back (body_fat.cok k) hmix 2 (body_fat.c2p a0 v1 (iadd .i64 v6 (1:Int))) [tT,.cutR 10 ⟨[],[(0,0),(1,1),(2,20)],(body_fat.c3p a0 v1 v6),3,.normal,(body_fat.c3q a0 v1 v6 o16),2⟩,fF] [] [(0,0),(1,1)] (via (cutP (aI (aI trivial e7) h8) [(0,0),(1,1),(2,20)] (body_fat.c3p a0 v1 v6) (((body_fat.c3_ok k a0 v1 v6).ap e17)) (finP (aI trivial e18) .normal [(0,0),(1,1)] (body_fat.c2p a0 v1 (iadd .i64 v6 (1:Int))))) (by kernel_rfl)) ((body_fat.c2_ok k a0 v1 n (iadd .i64 v6 (1:Int))).ap hy))) (fun e7 =>
   Owp.some (loop_exit (body_fat.cok k) hmix [fF] [] [] (exne 2) (via (finP (aI trivial e7) (.exit 2) [] (body_fat.c2q a0 v1 (.inr ()))) (by kernel_rfl)))))
noncomputable def body_fat.c1p (a0:(List V22)) (v1:Int):SL:=⟨[(0,(.val T24 a0)),(10,(.val T24 a0)),(11,(.val T2 (len a0))),(12,(.val T2 v1))],[]⟩
noncomputable def body_fat.c1q (o:Unit ⊕ Unit):SL:=(fun o=>two o (fun v=>⟨[(2,(.val T4 false))],[]⟩) (fun v=>⟨[],[]⟩)) o
noncomputable def body_fat.c1x (o:Unit ⊕ Unit):Ex:=(fun o=>two o (fun _=>.ret) (fun _=>(.exit 0))) o
noncomputable def body_fat.c1n (o:Unit ⊕ Unit):Nat:=(fun o=>two o (fun _=>0) (fun _=>0)) o
theorem body_fat.c1_ok (k:Nat) (a0:(List V22)):∀ (n:Nat) (v1:Int),Owp (body_fat.c1 k a0 n v1) fun o=>LTriple PR (body_fat.cx k) (sub body_fat.code [1,0,1,0,0]) 0 (body_fat.c1p a0 v1) (body_fat.c1x o) (body_fat.c1n o) (body_fat.c1q o)
  | 0,_=>fun _ h=>nomatch h
  | n+1,v1=>Owp.of (body_fat.c1.eq_2 ..) (
   Owp.bif (fun e2 =>
   Owp.req fun h3 =>
   Owp.req fun h4 =>
   Owp.req fun h5 =>
   Owp.bnd fun o19 e20 =>
   Owp.two (fun y21 e22 =>
   Owp.some (loop_exit (body_fat.cok k) hmix [tT,.cut ⟨[],[(0,4),(1,28)],(body_fat.c2p a0 v1 (0:Int)),2,.ret,(body_fat.c2q a0 v1 (.inl ())),0⟩] [] [] exne_ret (via (cutP (aI (aI (aI (aI trivial e2) h3) h4) h5) [(0,4),(1,28)] (body_fat.c2p a0 v1 (0:Int)) (((body_fat.c2_ok k a0 v1 k (0:Int)).ap (e20.trans (congrArg some e22))).triple) (finP trivial .ret [] (body_fat.c1q (.inl ())))) (by kernel_rfl)))) (fun y23 e24 =>
   fun y hy=>loop_back (body_fat.cok k) hmix 0 (body_fat.c1p a0 (iadd .i64 v1 (1:Int))) [tT,.cut ⟨[],[(0,4),(1,28)],(body_fat.c2p a0 v1 (0:Int)),2,(.exit 2),(body_fat.c2q a0 v1 (.inr ())),0⟩] [] [] (via (cutP (aI (aI (aI (aI trivial e2) h3) h4) h5) [(0,4),(1,28)] (body_fat.c2p a0 v1 (0:Int)) (((body_fat.c2_ok k a0 v1 k (0:Int)).ap (e20.trans (congrArg some e24))).triple) (finP trivial .normal [] (body_fat.c1p a0 (iadd .i64 v1 (1:Int))))) (by kernel_rfl)) ((body_fat.c1_ok k a0 n (iadd .i64 v1 (1:Int))).ap hy))) (fun e2 =>
   Owp.some (loop_exit (body_fat.cok k) hmix [fF] [] [] (exne 0) (via (finP (aI trivial e2) (.exit 0) [] (body_fat.c1q (.inr ()))) (by kernel_rfl)))))
theorem body_fat.way (k:Nat) (a0:(List V22)):Owp (body_fat k a0) fun y=>∃ w c0,exec PR (body_fat.cx k) body_fat.code 0 (entry (.pair T24 .unit) (a0,())).st w (Ret (body_fat.cx k) Tryz.f64 c0 (.one (.dp T4)) y):=by
  unfold body_fat; exact
   Owp.bnd fun o25 e26 =>
   Owp.two (fun y27 e28 =>
   Owp.some (⟨[.cut ⟨[],[],(body_fat.c1p a0 (0:Int)),0,.ret,(body_fat.c1q (.inl ())),0⟩],[],via (cutP trivial [] (body_fat.c1p a0 (0:Int)) (((body_fat.c1_ok k a0 k (0:Int)).ap (e26.trans (congrArg some e28))).triple) (retP trivial (.one (.dp T4)) (false:Bool))) (by kernel_rfl)⟩)) (fun y29 e30 =>
   Owp.some (⟨[.cut ⟨[],[],(body_fat.c1p a0 (0:Int)),0,(.exit 0),(body_fat.c1q (.inr ())),0⟩],[],via (cutP trivial [] (body_fat.c1p a0 (0:Int)) (((body_fat.c1_ok k a0 k (0:Int)).ap (e26.trans (congrArg some e30))).triple) (retP trivial (.one (.dp T4)) (true:Bool))) (by kernel_rfl)⟩))
theorem body_fat.ok (k:Nat):FnOk PR 64 (body_fat.sp k) :=
  fn_ok (body_fat.cok k) hmix Tryz.func64 (code:=body_fat.code) (by kernel_rfl) (by kernel_rfl) (by kernel_rfl) rfl (by kernel_rfl) (by kernel_rfl) (by kernel_rfl) (fun x=>Nat.le_of_ble_eq_true (by kernel_rfl)) fun x y hy=>(body_fat.way k x.1).ap hy
noncomputable def body_shape.code:Code:=Func.cd Tryz.f35
def body_shape.c1 (k:Nat) (a0:(List V22)):Option (Bool) :=
  bnd (body_fat k a0) fun y7 =>
  bif' y7
  (bnd (poly_Has k a0 (0,0,())) fun y10 =>
   some (!y10))
  (some true)
def body_shape (k:Nat) (a0:(List V22)):Option Int :=
  bnd (poly_Check k a0) fun y1 =>
  bif' (ine y1 0)
  (some y1)
  (bnd (slices_ContainsFunc k a0 (fun x:(V22 × Unit)=>body_shape_1 k (x.1))) fun y4 =>
   bif' y4
   (some 1)
   (bnd (body_shape.c1 k a0) fun o12 =>
   bif' o12
   (some 3)
   (some 0)))
noncomputable def body_shape.sp (k:Nat):Go.Sx.Spec:=⟨(.pair T24 .unit),(.one (.dp T2)),fun x=>body_shape k x.1,false⟩
noncomputable def body_shape.cx (k:Nat):Go.Sx.Ctx:=⟨tys,[(61,poly_Check.sp k),(62,slices_ContainsFunc.sp k),(63,body_shape_1.sp k),(64,body_fat.sp k),(65,poly_Has.sp k)],eqs,20,false⟩
theorem body_shape.cok (k:Nat):CtxOk PR (body_shape.cx k):=ctx_ok tysOk eqsOk (FnsOk.cons (poly_Check.ok k) (FnsOk.cons (slices_ContainsFunc.ok k) (FnsOk.cons (body_shape_1.ok k) (FnsOk.cons (body_fat.ok k) (FnsOk.cons (poly_Has.ok k) FnsOk.nil)))))
noncomputable def body_shape.c1p (a0:(List V22)):SL:=⟨[(0,(.val T24 a0))],[]⟩
noncomputable def body_shape.c1q (o:Bool):SL:=(fun v=>⟨[(19,(.val T4 v))],[]⟩) o
noncomputable def body_shape.c1x (o:Bool):Ex:=(fun _=>.normal) o
noncomputable def body_shape.c1n (o:Bool):Nat:=(fun _=>0) o
theorem body_shape.c1_ok (k:Nat) (a0:(List V22)):Owp (body_shape.c1 k a0) fun o=>Triple PR (body_shape.cx k) (sub body_shape.code [1,1,1,0,0]) 0 (body_shape.c1p a0) (body_shape.c1x o) (body_shape.c1n o) (body_shape.c1q o):=by
  unfold body_shape.c1; exact
   Owp.bnd fun y7 e8 =>
   Owp.bif (fun e9 =>
   Owp.bnd fun y10 e11 =>
   Owp.some (triple_way (body_shape.cok k) hmix [rS T4 y7,fF,fF,fF,rS T4 y10,fF,fF] [] [] (via (finP (aI (aI (aI (aI (aI (aI trivial e8) (congrArg not e9)) (congrArg not e9)) (aI (congrArg not e9) e11)) (congrArg not e9)) (congrArg not e9)) .normal [] (body_shape.c1q (!y10))) (by kernel_rfl)))) (fun e9 =>
   Owp.some (triple_way (body_shape.cok k) hmix [rS T4 y7,tT,tT,tT,tT,tT,tT] [] [] (via (finP (aI (aI (aI (aI (aI (aI trivial e8) (congrArg not e9)) (congrArg not e9)) (congrArg not e9)) (congrArg not e9)) (congrArg not e9)) .normal [] (body_shape.c1q true)) (by kernel_rfl))))
theorem body_shape.way (k:Nat) (a0:(List V22)):Owp (body_shape k a0) fun y=>∃ w c0,exec PR (body_shape.cx k) body_shape.code 0 (entry (.pair T24 .unit) (a0,())).st w (Ret (body_shape.cx k) Tryz.f35 c0 (.one (.dp T2)) y):=by
  unfold body_shape; exact
   Owp.bnd fun y1 e2 =>
   Owp.bif (fun e3 =>
   Owp.some (⟨[rS T2 y1,tT],[],via (retP (aI (aI trivial e2) e3) (.one (.dp T2)) (y1:Int)) (by kernel_rfl)⟩)) (fun e3 =>
   Owp.bnd fun y4 e5 =>
   Owp.bif (fun e6 =>
   Owp.some (⟨[rS T2 y1,fF,rS T4 y4,tT],[],via (retP (aI (aI (aI (aI trivial e2) e3) e5) e6) (.one (.dp T2)) ((1:Int):Int)) (by kernel_rfl)⟩)) (fun e6 =>
   Owp.bnd fun o12 e13 =>
   Owp.bif (fun e14 =>
   Owp.some (⟨[rS T2 y1,fF,rS T4 y4,fF,.cutR 6 ⟨[],[],(body_shape.c1p a0),0,.normal,(body_shape.c1q o12),0⟩,tT],[],via (cutP (aI (aI (aI (aI trivial e2) e3) e5) e6) [] (body_shape.c1p a0) (((body_shape.c1_ok k a0).ap e13)) (retP (aI trivial e14) (.one (.dp T2)) ((3:Int):Int))) (by kernel_rfl)⟩)) (fun e14 =>
   Owp.some (⟨[rS T2 y1,fF,rS T4 y4,fF,.cutR 6 ⟨[],[],(body_shape.c1p a0),0,.normal,(body_shape.c1q o12),0⟩,fF],[],via (cutP (aI (aI (aI (aI trivial e2) e3) e5) e6) [] (body_shape.c1p a0) (((body_shape.c1_ok k a0).ap e13)) (retP (aI trivial e14) (.one (.dp T2)) ((0:Int):Int))) (by kernel_rfl)⟩))))
theorem body_shape.ok (k:Nat):FnOk PR 35 (body_shape.sp k) :=
  fn_ok (body_shape.cok k) hmix Tryz.func35 (code:=body_shape.code) (by kernel_rfl) (by kernel_rfl) (by kernel_rfl) rfl (by kernel_rfl) (by kernel_rfl) (by kernel_rfl) (fun x=>Nat.le_of_ble_eq_true (by kernel_rfl)) fun x y hy=>(body_shape.way k x.1).ap hy
noncomputable def body_Check_1.code:Code:=Func.cd Tryz.f36
def body_Check_1 (k:Nat) (a0 a1 a2:Int):Option Bool :=
  bif' (ige a0 a1)
  (some (ile a0 a2))
  (some false)
noncomputable def body_Check_1.sp (k:Nat):Go.Sx.Spec:=⟨(.pair T2 T22),(.one (.dp T4)),fun x=>body_Check_1 k x.1 x.2.1 x.2.2.1,false⟩
noncomputable def body_Check_1.cx (k:Nat):Go.Sx.Ctx:=⟨tys,[],eqs,15,false⟩
theorem body_Check_1.cok (k:Nat):CtxOk PR (body_Check_1.cx k):=ctx_ok tysOk eqsOk FnsOk.nil
theorem body_Check_1.way (k:Nat) (a0 a1 a2:Int):Owp (body_Check_1 k a0 a1 a2) fun y=>∃ w c0,exec PR (body_Check_1.cx k) body_Check_1.code 0 (entry (.pair T2 T22) (a0,a1,a2,())).st w (Ret (body_Check_1.cx k) Tryz.f36 c0 (.one (.dp T4)) y):=by
  unfold body_Check_1; exact
   Owp.bif (fun e1 =>
   Owp.some (⟨[tT,tT,tT,tT],[],via (retP (aI (aI (aI (aI trivial e1) e1) e1) e1) (.one (.dp T4)) ((ile a0 a2):Bool)) (by kernel_rfl)⟩)) (fun e1 =>
   Owp.some (⟨[fF,fF,fF,fF],[],via (retP (aI (aI (aI (aI trivial e1) e1) e1) e1) (.one (.dp T4)) (false:Bool)) (by kernel_rfl)⟩))
theorem body_Check_1.ok (k:Nat):FnOk PR 36 (body_Check_1.sp k) :=
  fn_ok (body_Check_1.cok k) hmix Tryz.func36 (code:=body_Check_1.code) (by kernel_rfl) (by kernel_rfl) (by kernel_rfl) rfl (by kernel_rfl) (by kernel_rfl) (by kernel_rfl) (fun x=>Nat.le_of_ble_eq_true (by kernel_rfl)) fun x y hy=>(body_Check_1.way k x.1 x.2.1 x.2.2.1).ap hy
end Go.Proofs.T1
