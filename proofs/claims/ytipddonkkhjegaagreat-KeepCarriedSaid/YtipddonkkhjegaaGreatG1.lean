import Derived.Test.YtipddonkkhjegaaGreatG0
namespace Go.Proofs.T1
open Go Go.Sx Go.Proofs
set_option maxRecDepth 100000
set_option linter.unusedVariables false
noncomputable def bits_Mul64.code:Code:=Func.cd Tryz.f116
def bits_Mul64 (k:Nat) (a0 a1:Int):Option (Int × Int) :=
 some ((iadd .u64 (iadd .u64 (imul .u64 (ishr .u64 a0 32) (ishr .u64 a1 32)) (ishr .u64 (iadd .u64 (imul .u64 (ishr .u64 a0 32) (ibits .and .u64 a1 4294967295)) (ishr .u64 (imul .u64 (ibits .and .u64 a0 4294967295) (ibits .and .u64 a1 4294967295)) 32)) 32)) (ishr .u64 (iadd .u64 (ibits .and .u64 (iadd .u64 (imul .u64 (ishr .u64 a0 32) (ibits .and .u64 a1 4294967295)) (ishr .u64 (imul .u64 (ibits .and .u64 a0 4294967295) (ibits .and .u64 a1 4294967295)) 32)) 4294967295) (imul .u64 (ibits .and .u64 a0 4294967295) (ishr .u64 a1 32))) 32)),(imul .u64 a0 a1))
noncomputable def bits_Mul64.sp (k:Nat):Go.Sx.Spec:=⟨(.pair T12 (.pair T12 .unit)),(.more (.dp T12) (.one (.dp T12))),fun x=>bits_Mul64 k x.1 x.2.1,false⟩
noncomputable def bits_Mul64.cx (k:Nat):Go.Sx.Ctx:=⟨tys,[],eqs,51,0,[],false⟩
theorem bits_Mul64.cok (k:Nat):CtxOk PR (bits_Mul64.cx k):=ctx_ok tysOk eqsOk FnsOk.nil HsOk.nil
theorem bits_Mul64.way (k:Nat) (a0 a1:Int):Owp (bits_Mul64 k a0 a1) fun y=>∃ w c0,exec PR (bits_Mul64.cx k) bits_Mul64.code 0 (entry (.pair T12 (.pair T12 .unit)) (a0,a1,())).st w (Ret (bits_Mul64.cx k) Tryz.f116 c0 (.more (.dp T12) (.one (.dp T12))) y):=by
 unfold bits_Mul64; exact
  oS (⟨[],[],via (retP (aI (aI (aI (aI (aI tv0 (by decide:ng (32:Int))) (by decide:ng (32:Int))) (by decide:ng (32:Int))) (by decide:ng (32:Int))) (by decide:ng (32:Int))) (.more (.dp T12) (.one (.dp T12))) (((iadd .u64 (iadd .u64 (imul .u64 (ishr .u64 a0 (32:Int)) (ishr .u64 a1 (32:Int))) (ishr .u64 (iadd .u64 (imul .u64 (ishr .u64 a0 (32:Int)) (ibits .and .u64 a1 (4294967295:Int))) (ishr .u64 (imul .u64 (ibits .and .u64 a0 (4294967295:Int)) (ibits .and .u64 a1 (4294967295:Int))) (32:Int))) (32:Int))) (ishr .u64 (iadd .u64 (ibits .and .u64 (iadd .u64 (imul .u64 (ishr .u64 a0 (32:Int)) (ibits .and .u64 a1 (4294967295:Int))) (ishr .u64 (imul .u64 (ibits .and .u64 a0 (4294967295:Int)) (ibits .and .u64 a1 (4294967295:Int))) (32:Int))) (4294967295:Int)) (imul .u64 (ibits .and .u64 a0 (4294967295:Int)) (ishr .u64 a1 (32:Int)))) (32:Int))),(imul .u64 a0 a1)):(Int × Int))) (by kernel_rfl)⟩)
theorem bits_Mul64.ok (k:Nat):FnOk PR 116 (bits_Mul64.sp k) :=
 fn_ok (bits_Mul64.cok k) hmix Tryz.func116 (code:=bits_Mul64.code) (by kernel_rfl) (by kernel_rfl) (by kernel_rfl) rfl rfl (by kernel_rfl) (by kernel_rfl) (by kernel_rfl) (fun x=>Nat.le_of_ble_eq_true (by kernel_rfl)) fun x y hy=>(bits_Mul64.way k x.1 x.2.1).ap hy
noncomputable def poly_Times.code:Code:=Func.cd Tryz.f67
def poly_Times.c1 (k:Nat) (a0 a1:Int) (y1:(Int × Int)):Option (Int) :=
 bif' (ilt a0 0)
 (some (isub .i64 (icv .i64 y1.1) a1))
 (some (icv .i64 y1.1))
def poly_Times.c2 (k:Nat) (a0 a1 o4:Int):Option (Int) :=
 bif' (ilt a1 0)
 (some (isub .i64 o4 a0))
 (some o4)
def poly_Times (k:Nat) (a0 a1:Int):Option V115 :=
 bnd (bits_Mul64 k (icv .u64 a0) (icv .u64 a1)) fun y1 =>
 bnd (poly_Times.c1 k a0 a1 y1) fun o4 =>
 bnd (poly_Times.c2 k a0 a1 o4) fun o7 =>
 some (o7,y1.2,())
noncomputable def poly_Times.sp (k:Nat):Go.Sx.Spec:=⟨T26,(.one (.dp T115)),fun x=>poly_Times k x.1 x.2.1,false⟩
noncomputable def poly_Times.cx (k:Nat):Go.Sx.Ctx:=⟨tys,[(116,bits_Mul64.sp k)],eqs,31,0,[],false⟩
theorem poly_Times.cok (k:Nat):CtxOk PR (poly_Times.cx k):=ctx_ok tysOk eqsOk (fC (bits_Mul64.ok k) FnsOk.nil) HsOk.nil
noncomputable def poly_Times.c1p (a0 a1:Int) (y1:(Int × Int)):SL:=⟨[(0,(.val T2 a0)),(1,(.val T2 a1)),(4,(.val .ptr ⟨0,0,(0:Int),0,0⟩)),(6,(.val T12 y1.2)),(7,(.val T2 (icv .i64 y1.1))),(19,(.val T4 (ilt a0 (0:Int))))],[(0,.cells T115 ((0:Int),(0:Int),()))]⟩
noncomputable def poly_Times.c1q (a0 a1:Int) (y1:(Int × Int)) (o:Int):SL:=(fun v=>⟨[(0,(.val T2 a0)),(1,(.val T2 a1)),(4,(.val .ptr ⟨0,0,(0:Int),0,0⟩)),(6,(.val T12 y1.2)),(7,(.val T2 v))],[(0,.cells T115 ((0:Int),(0:Int),()))]⟩) o
noncomputable def poly_Times.c1x (o:Int):Ex:=(fun _=>.normal) o
noncomputable def poly_Times.c1n (o:Int):Nat:=(fun _=>1) o
theorem poly_Times.c1_ok (k:Nat) (a0 a1:Int) (y1:(Int × Int)):Owp (poly_Times.c1 k a0 a1 y1) fun o=>Triple PR (poly_Times.cx k) (sub poly_Times.code [1,1,1,0,1]) 1 (poly_Times.c1p a0 a1 y1) (poly_Times.c1x o) (poly_Times.c1n o) (poly_Times.c1q a0 a1 y1 o):=by
 unfold poly_Times.c1; exact
  oF (fun e3 =>
  oS (tW (poly_Times.cok k) hmix [tT] [] [(0,0)] (via (finP (aI tv0 e3) .normal [(0,0)] (poly_Times.c1q a0 a1 y1 (isub .i64 (icv .i64 y1.1) a1))) (by kernel_rfl)))) (fun e3 =>
  oS (tW (poly_Times.cok k) hmix [fF] [] [(0,0)] (via (finP (aI tv0 e3) .normal [(0,0)] (poly_Times.c1q a0 a1 y1 (icv .i64 y1.1))) (by kernel_rfl))))
noncomputable def poly_Times.c2p (a0 a1 o4:Int) (y1:(Int × Int)):SL:=⟨[(0,(.val T2 a0)),(4,(.val .ptr ⟨0,0,(0:Int),0,0⟩)),(6,(.val T12 y1.2)),(7,(.val T2 o4)),(24,(.val T4 (ilt a1 (0:Int))))],[(0,.cells T115 ((0:Int),(0:Int),()))]⟩
noncomputable def poly_Times.c2q (y1:(Int × Int)) (o:Int):SL:=(fun v=>⟨[(4,(.val .ptr ⟨0,0,(0:Int),0,0⟩)),(6,(.val T12 y1.2)),(7,(.val T2 v))],[(0,.cells T115 ((0:Int),(0:Int),()))]⟩) o
noncomputable def poly_Times.c2x (o:Int):Ex:=(fun _=>.normal) o
noncomputable def poly_Times.c2n (o:Int):Nat:=(fun _=>1) o
theorem poly_Times.c2_ok (k:Nat) (a0 a1 o4:Int) (y1:(Int × Int)):Owp (poly_Times.c2 k a0 a1 o4) fun o=>Triple PR (poly_Times.cx k) (sub poly_Times.code [1,1,1,1,0,1]) 1 (poly_Times.c2p a0 a1 o4 y1) (poly_Times.c2x o) (poly_Times.c2n o) (poly_Times.c2q y1 o):=by
 unfold poly_Times.c2; exact
  oF (fun e6 =>
  oS (tW (poly_Times.cok k) hmix [tT] [] [(0,0)] (via (finP (aI tv0 e6) .normal [(0,0)] (poly_Times.c2q y1 (isub .i64 o4 a0))) (by kernel_rfl)))) (fun e6 =>
  oS (tW (poly_Times.cok k) hmix [fF] [] [(0,0)] (via (finP (aI tv0 e6) .normal [(0,0)] (poly_Times.c2q y1 o4)) (by kernel_rfl))))
theorem poly_Times.way (k:Nat) (a0 a1:Int):Owp (poly_Times k a0 a1) fun y=>∃ w c0,exec PR (poly_Times.cx k) poly_Times.code 0 (entry T26 (a0,a1,())).st w (Ret (poly_Times.cx k) Tryz.f67 c0 (.one (.dp T115)) y):=by
 unfold poly_Times; exact
  oB fun y1 e2 =>
  oB fun o4 e5 =>
  oB fun o7 e8 =>
  oS (⟨[.res (.more (.dp T12) (.one (.dp T12))) y1,.cut ⟨[],[(0,0)],(poly_Times.c1p a0 a1 y1),1,.normal,(poly_Times.c1q a0 a1 y1 o4),1⟩,.cut ⟨[],[(0,0)],(poly_Times.c2p a0 a1 o4 y1),1,.normal,(poly_Times.c2q y1 o7),1⟩],[],via (cutP (aI tv0 e2) [(0,0)] (poly_Times.c1p a0 a1 y1) (((poly_Times.c1_ok k a0 a1 y1).ap e5)) (cutP tv0 [(0,0)] (poly_Times.c2p a0 a1 o4 y1) (((poly_Times.c2_ok k a0 a1 o4 y1).ap e8)) (retP tv0 (.one (.dp T115)) ((o7,y1.2,()):V115)))) (by kernel_rfl)⟩)
theorem poly_Times.ok (k:Nat):FnOk PR 67 (poly_Times.sp k) :=
 fn_ok (poly_Times.cok k) hmix Tryz.func67 (code:=poly_Times.code) (by kernel_rfl) (by kernel_rfl) (by kernel_rfl) rfl rfl (by kernel_rfl) (by kernel_rfl) (by kernel_rfl) (fun x=>Nat.le_of_ble_eq_true (by kernel_rfl)) fun x y hy=>(poly_Times.way k x.1 x.2.1).ap hy
theorem bits_Sub64.ok (k:Nat):FnOk PR 159 (bits_Sub64.sp k):=sub64_ok Tryz.func159 (by kernel_rfl) (by kernel_rfl) (by kernel_rfl) (by kernel_rfl) k
noncomputable def poly_Wide_Minus.code:Code:=Func.cd Tryz.f117
def poly_Wide_Minus (k:Nat) (a0 a1:V115):Option V115 :=
 bnd (bits_Sub64 k a0.2.1 a1.2.1 0) fun y1 =>
 some ((isub .i64 (isub .i64 a0.1 a1.1) (icv .i64 y1.2)),y1.1,())
noncomputable def poly_Wide_Minus.sp (k:Nat):Go.Sx.Spec:=⟨(.pair T115 (.pair T115 .unit)),(.one (.dp T115)),fun x=>poly_Wide_Minus k x.1 x.2.1,false⟩
noncomputable def poly_Wide_Minus.cx (k:Nat):Go.Sx.Ctx:=⟨tys,[(159,bits_Sub64.sp k)],eqs,25,0,[],false⟩
theorem poly_Wide_Minus.cok (k:Nat):CtxOk PR (poly_Wide_Minus.cx k):=ctx_ok tysOk eqsOk (fC (bits_Sub64.ok k) FnsOk.nil) HsOk.nil
theorem poly_Wide_Minus.way (k:Nat) (a0 a1:V115):Owp (poly_Wide_Minus k a0 a1) fun y=>∃ w c0,exec PR (poly_Wide_Minus.cx k) poly_Wide_Minus.code 0 (entry (.pair T115 (.pair T115 .unit)) (a0,a1,())).st w (Ret (poly_Wide_Minus.cx k) Tryz.f117 c0 (.one (.dp T115)) y):=by
 unfold poly_Wide_Minus; exact
  oB fun y1 e2 =>
  oS (⟨[.res (.more (.dp T12) (.one (.dp T12))) y1],[],via (retP (aI tv0 e2) (.one (.dp T115)) (((isub .i64 (isub .i64 a0.1 a1.1) (icv .i64 y1.2)),y1.1,()):V115)) (by kernel_rfl)⟩)
theorem poly_Wide_Minus.ok (k:Nat):FnOk PR 117 (poly_Wide_Minus.sp k) :=
 fn_ok (poly_Wide_Minus.cok k) hmix Tryz.func117 (code:=poly_Wide_Minus.code) (by kernel_rfl) (by kernel_rfl) (by kernel_rfl) rfl rfl (by kernel_rfl) (by kernel_rfl) (by kernel_rfl) (fun x=>Nat.le_of_ble_eq_true (by kernel_rfl)) fun x y hy=>(poly_Wide_Minus.way k x.1 x.2.1).ap hy
noncomputable def bits_Len64.code:Code:=Func.cd Tryz.f175
def bits_Len64.c1 (k:Nat) (a0:Int):Option ((Int × Int)) :=
 bif' (ige a0 4294967296)
 (some ((ishr .u64 a0 32),32))
 (some (a0,0))
def bits_Len64.c2 (k:Nat) (o2:(Int × Int)):Option ((Int × Int)) :=
 bif' (ige o2.1 65536)
 (some ((ishr .u64 o2.1 16),(iadd .i64 o2.2 16)))
 (some (o2.1,o2.2))
def bits_Len64.c3 (k:Nat) (o5:(Int × Int)):Option ((Int × Int)) :=
 bif' (ige o5.1 256)
 (some ((ishr .u64 o5.1 8),(iadd .i64 o5.2 8)))
 (some (o5.1,o5.2))
def bits_Len64 (k:Nat) (a0:Int):Option Int :=
 bnd (bits_Len64.c1 k a0) fun o2 =>
 bnd (bits_Len64.c2 k o2) fun o5 =>
 bnd (bits_Len64.c3 k o5) fun o8 =>
 req (inR (icv .u8 o8.1) 256) <|some (iadd .i64 o8.2 (icv .i64 (strAt str0 (icv .u8 o8.1))))
noncomputable def bits_Len64.sp (k:Nat):Go.Sx.Spec:=⟨(.pair T12 .unit),(.one (.dp T2)),fun x=>bits_Len64 k x.1,false⟩
noncomputable def bits_Len64.cx (k:Nat):Go.Sx.Ctx:=⟨tys,[],eqs,25,0,[],false⟩
theorem bits_Len64.cok (k:Nat):CtxOk PR (bits_Len64.cx k):=ctx_ok tysOk eqsOk FnsOk.nil HsOk.nil
noncomputable def bits_Len64.c1p (a0:Int):SL:=⟨[(0,(.val T12 a0)),(2,(.val T2 (0:Int))),(4,(.val T4 (ige a0 (4294967296:Int))))],[]⟩
noncomputable def bits_Len64.c1q (o:(Int × Int)):SL:=(fun v=>⟨[(0,(.val T12 v.1)),(2,(.val T2 v.2))],[]⟩) o
noncomputable def bits_Len64.c1x (o:(Int × Int)):Ex:=(fun _=>.normal) o
noncomputable def bits_Len64.c1n (o:(Int × Int)):Nat:=(fun _=>0) o
theorem bits_Len64.c1_ok (k:Nat) (a0:Int):Owp (bits_Len64.c1 k a0) fun o=>Triple PR (bits_Len64.cx k) (sub bits_Len64.code [1,0,1]) 0 (bits_Len64.c1p a0) (bits_Len64.c1x o) (bits_Len64.c1n o) (bits_Len64.c1q o):=by
 unfold bits_Len64.c1; exact
  oF (fun e1 =>
  oS (tW (bits_Len64.cok k) hmix [tT] [] [] (via (finP (aI (aI tv0 e1) (by decide:ng (32:Int))) .normal [] (bits_Len64.c1q ((ishr .u64 a0 (32:Int)),(32:Int)))) (by kernel_rfl)))) (fun e1 =>
  oS (tW (bits_Len64.cok k) hmix [fF] [] [] (via (finP (aI tv0 e1) .normal [] (bits_Len64.c1q (a0,(0:Int)))) (by kernel_rfl))))
noncomputable def bits_Len64.c2p (o2:(Int × Int)):SL:=⟨[(0,(.val T12 o2.1)),(2,(.val T2 o2.2)),(8,(.val T4 (ige o2.1 (65536:Int))))],[]⟩
noncomputable def bits_Len64.c2q (o:(Int × Int)):SL:=(fun v=>⟨[(0,(.val T12 v.1)),(2,(.val T2 v.2))],[]⟩) o
noncomputable def bits_Len64.c2x (o:(Int × Int)):Ex:=(fun _=>.normal) o
noncomputable def bits_Len64.c2n (o:(Int × Int)):Nat:=(fun _=>0) o
theorem bits_Len64.c2_ok (k:Nat) (o2:(Int × Int)):Owp (bits_Len64.c2 k o2) fun o=>Triple PR (bits_Len64.cx k) (sub bits_Len64.code [1,1,0,1]) 0 (bits_Len64.c2p o2) (bits_Len64.c2x o) (bits_Len64.c2n o) (bits_Len64.c2q o):=by
 unfold bits_Len64.c2; exact
  oF (fun e4 =>
  oS (tW (bits_Len64.cok k) hmix [tT] [] [] (via (finP (aI (aI tv0 e4) (by decide:ng (16:Int))) .normal [] (bits_Len64.c2q ((ishr .u64 o2.1 (16:Int)),(iadd .i64 o2.2 (16:Int))))) (by kernel_rfl)))) (fun e4 =>
  oS (tW (bits_Len64.cok k) hmix [fF] [] [] (via (finP (aI tv0 e4) .normal [] (bits_Len64.c2q (o2.1,o2.2))) (by kernel_rfl))))
noncomputable def bits_Len64.c3p (o5:(Int × Int)):SL:=⟨[(0,(.val T12 o5.1)),(2,(.val T2 o5.2)),(14,(.val T4 (ige o5.1 (256:Int))))],[]⟩
noncomputable def bits_Len64.c3q (o:(Int × Int)):SL:=(fun v=>⟨[(0,(.val T12 v.1)),(2,(.val T2 v.2))],[]⟩) o
noncomputable def bits_Len64.c3x (o:(Int × Int)):Ex:=(fun _=>.normal) o
noncomputable def bits_Len64.c3n (o:(Int × Int)):Nat:=(fun _=>0) o
theorem bits_Len64.c3_ok (k:Nat) (o5:(Int × Int)):Owp (bits_Len64.c3 k o5) fun o=>Triple PR (bits_Len64.cx k) (sub bits_Len64.code [1,1,1,0,1]) 0 (bits_Len64.c3p o5) (bits_Len64.c3x o) (bits_Len64.c3n o) (bits_Len64.c3q o):=by
 unfold bits_Len64.c3; exact
  oF (fun e7 =>
  oS (tW (bits_Len64.cok k) hmix [tT] [] [] (via (finP (aI (aI tv0 e7) (by decide:ng (8:Int))) .normal [] (bits_Len64.c3q ((ishr .u64 o5.1 (8:Int)),(iadd .i64 o5.2 (8:Int))))) (by kernel_rfl)))) (fun e7 =>
  oS (tW (bits_Len64.cok k) hmix [fF] [] [] (via (finP (aI tv0 e7) .normal [] (bits_Len64.c3q (o5.1,o5.2))) (by kernel_rfl))))
theorem bits_Len64.way (k:Nat) (a0:Int):Owp (bits_Len64 k a0) fun y=>∃ w c0,exec PR (bits_Len64.cx k) bits_Len64.code 0 (entry (.pair T12 .unit) (a0,())).st w (Ret (bits_Len64.cx k) Tryz.f175 c0 (.one (.dp T2)) y):=by
 unfold bits_Len64; exact
  oB fun o2 e3 =>
  oB fun o5 e6 =>
  oB fun o8 e9 =>
  oR fun h10 =>
  oS (⟨[.cut ⟨[],[],(bits_Len64.c1p a0),0,.normal,(bits_Len64.c1q o2),0⟩,.cut ⟨[],[],(bits_Len64.c2p o2),0,.normal,(bits_Len64.c2q o5),0⟩,.cut ⟨[],[],(bits_Len64.c3p o5),0,.normal,(bits_Len64.c3q o8),0⟩],[],via (cutP tv0 [] (bits_Len64.c1p a0) (((bits_Len64.c1_ok k a0).ap e3)) (cutP tv0 [] (bits_Len64.c2p o2) (((bits_Len64.c2_ok k o2).ap e6)) (cutP tv0 [] (bits_Len64.c3p o5) (((bits_Len64.c3_ok k o5).ap e9)) (retP (aI tv0 h10) (.one (.dp T2)) ((iadd .i64 o8.2 (icv .i64 (strAt str0 (icv .u8 o8.1)))):Int))))) (by kernel_rfl)⟩)
theorem bits_Len64.ok (k:Nat):FnOk PR 175 (bits_Len64.sp k) :=
 fn_ok (bits_Len64.cok k) hmix Tryz.func175 (code:=bits_Len64.code) (by kernel_rfl) (by kernel_rfl) (by kernel_rfl) rfl rfl (by kernel_rfl) (by kernel_rfl) (by kernel_rfl) (fun x=>Nat.le_of_ble_eq_true (by kernel_rfl)) fun x y hy=>(bits_Len64.way k x.1).ap hy
noncomputable def bits_LeadingZeros64.code:Code:=Func.cd Tryz.f160
def bits_LeadingZeros64 (k:Nat) (a0:Int):Option Int :=
 bnd (bits_Len64 k a0) fun y1 =>
 some (isub .i64 64 y1)
noncomputable def bits_LeadingZeros64.sp (k:Nat):Go.Sx.Spec:=⟨(.pair T12 .unit),(.one (.dp T2)),fun x=>bits_LeadingZeros64 k x.1,false⟩
noncomputable def bits_LeadingZeros64.cx (k:Nat):Go.Sx.Ctx:=⟨tys,[(175,bits_Len64.sp k)],eqs,6,0,[],false⟩
theorem bits_LeadingZeros64.cok (k:Nat):CtxOk PR (bits_LeadingZeros64.cx k):=ctx_ok tysOk eqsOk (fC (bits_Len64.ok k) FnsOk.nil) HsOk.nil
theorem bits_LeadingZeros64.way (k:Nat) (a0:Int):Owp (bits_LeadingZeros64 k a0) fun y=>∃ w c0,exec PR (bits_LeadingZeros64.cx k) bits_LeadingZeros64.code 0 (entry (.pair T12 .unit) (a0,())).st w (Ret (bits_LeadingZeros64.cx k) Tryz.f160 c0 (.one (.dp T2)) y):=by
 unfold bits_LeadingZeros64; exact
  oB fun y1 e2 =>
  oS (⟨[rS T2 y1],[],via (retP (aI tv0 e2) (.one (.dp T2)) ((isub .i64 (64:Int) y1):Int)) (by kernel_rfl)⟩)
theorem bits_LeadingZeros64.ok (k:Nat):FnOk PR 160 (bits_LeadingZeros64.sp k) :=
 fn_ok (bits_LeadingZeros64.cok k) hmix Tryz.func160 (code:=bits_LeadingZeros64.code) (by kernel_rfl) (by kernel_rfl) (by kernel_rfl) rfl rfl (by kernel_rfl) (by kernel_rfl) (by kernel_rfl) (fun x=>Nat.le_of_ble_eq_true (by kernel_rfl)) fun x y hy=>(bits_LeadingZeros64.way k x.1).ap hy
noncomputable def bits_Div64.code:Code:=Func.cd Tryz.f118
def bits_Div64.c2 (k:Nat) (a1 a2 v10 v11 y5:Int):Option (Bool) :=
 bif' (ige v10 4294967296)
 (some true)
 (some (igt (imul .u64 v10 (ibits .and .u64 (ishl .u64 a2 (icv .u64 y5)) 4294967295)) (iadd .u64 (imul .u64 4294967296 v11) (ishr .u64 (ishl .u64 a1 (icv .u64 y5)) 32))))
def bits_Div64.c1 (k:Nat) (a1 a2 y5:Int):Nat→Int→Int→Option (Int)
 | 0,_,_=>none
 | n+1,v10,v11 =>
  bnd (bits_Div64.c2 k a1 a2 v10 v11 y5) fun o13 =>
  bif' o13
  (bif' (ige (iadd .u64 v11 (ishr .u64 (ishl .u64 a2 (icv .u64 y5)) 32)) 4294967296)
  (some (isub .u64 v10 1))
  (bits_Div64.c1 k a1 a2 y5 n (isub .u64 v10 1) (iadd .u64 v11 (ishr .u64 (ishl .u64 a2 (icv .u64 y5)) 32))))
  (some v10)
def bits_Div64.c4 (k:Nat) (a1 a2 v19 v20 y5:Int):Option (Bool) :=
 bif' (ige v20 4294967296)
 (some true)
 (some (igt (imul .u64 v20 (ibits .and .u64 (ishl .u64 a2 (icv .u64 y5)) 4294967295)) (iadd .u64 (imul .u64 4294967296 v19) (ibits .and .u64 (ishl .u64 a1 (icv .u64 y5)) 4294967295))))
def bits_Div64.c3 (k:Nat) (a1 a2 y5:Int):Nat→Int→Int→Option (Int)
 | 0,_,_=>none
 | n+1,v19,v20 =>
  bnd (bits_Div64.c4 k a1 a2 v19 v20 y5) fun o22 =>
  bif' o22
  (bif' (ige (iadd .u64 v19 (ishr .u64 (ishl .u64 a2 (icv .u64 y5)) 32)) 4294967296)
  (some (isub .u64 v20 1))
  (bits_Div64.c3 k a1 a2 y5 n (iadd .u64 v19 (ishr .u64 (ishl .u64 a2 (icv .u64 y5)) 32)) (isub .u64 v20 1)))
  (some v20)
def bits_Div64 (k:Nat) (a0 a1 a2:Int):Option (Int × Int) :=
 bif' (ieq a2 0)
 (none)
 (bif' (ile a2 a0)
  (none)
  (bif' (ieq a0 0)
  (req (nz a2) <|some ((iquo .u64 a1 a2),(irem a1 a2)))
  (bnd (bits_LeadingZeros64 k a2) fun y5 =>
  req (ng (icv .u64 y5)) <|req (ng (isub .u64 64 (icv .u64 y5))) <|req (nz (ishr .u64 (ishl .u64 a2 (icv .u64 y5)) 32)) <|bnd (bits_Div64.c1 k a1 a2 y5 k (iquo .u64 (ibits .or .u64 (ishl .u64 a0 (icv .u64 y5)) (ishr .u64 a1 (isub .u64 64 (icv .u64 y5)))) (ishr .u64 (ishl .u64 a2 (icv .u64 y5)) 32)) (isub .u64 (ibits .or .u64 (ishl .u64 a0 (icv .u64 y5)) (ishr .u64 a1 (isub .u64 64 (icv .u64 y5)))) (imul .u64 (iquo .u64 (ibits .or .u64 (ishl .u64 a0 (icv .u64 y5)) (ishr .u64 a1 (isub .u64 64 (icv .u64 y5)))) (ishr .u64 (ishl .u64 a2 (icv .u64 y5)) 32)) (ishr .u64 (ishl .u64 a2 (icv .u64 y5)) 32)))) fun o17 =>
  bnd (bits_Div64.c3 k a1 a2 y5 k (isub .u64 (isub .u64 (iadd .u64 (imul .u64 (ibits .or .u64 (ishl .u64 a0 (icv .u64 y5)) (ishr .u64 a1 (isub .u64 64 (icv .u64 y5)))) 4294967296) (ishr .u64 (ishl .u64 a1 (icv .u64 y5)) 32)) (imul .u64 o17 (ishl .u64 a2 (icv .u64 y5)))) (imul .u64 (iquo .u64 (isub .u64 (iadd .u64 (imul .u64 (ibits .or .u64 (ishl .u64 a0 (icv .u64 y5)) (ishr .u64 a1 (isub .u64 64 (icv .u64 y5)))) 4294967296) (ishr .u64 (ishl .u64 a1 (icv .u64 y5)) 32)) (imul .u64 o17 (ishl .u64 a2 (icv .u64 y5)))) (ishr .u64 (ishl .u64 a2 (icv .u64 y5)) 32)) (ishr .u64 (ishl .u64 a2 (icv .u64 y5)) 32))) (iquo .u64 (isub .u64 (iadd .u64 (imul .u64 (ibits .or .u64 (ishl .u64 a0 (icv .u64 y5)) (ishr .u64 a1 (isub .u64 64 (icv .u64 y5)))) 4294967296) (ishr .u64 (ishl .u64 a1 (icv .u64 y5)) 32)) (imul .u64 o17 (ishl .u64 a2 (icv .u64 y5)))) (ishr .u64 (ishl .u64 a2 (icv .u64 y5)) 32))) fun o26 =>
  some ((iadd .u64 (imul .u64 o17 4294967296) o26),(ishr .u64 (isub .u64 (iadd .u64 (imul .u64 (isub .u64 (iadd .u64 (imul .u64 (ibits .or .u64 (ishl .u64 a0 (icv .u64 y5)) (ishr .u64 a1 (isub .u64 64 (icv .u64 y5)))) 4294967296) (ishr .u64 (ishl .u64 a1 (icv .u64 y5)) 32)) (imul .u64 o17 (ishl .u64 a2 (icv .u64 y5)))) 4294967296) (ibits .and .u64 (ishl .u64 a1 (icv .u64 y5)) 4294967295)) (imul .u64 o26 (ishl .u64 a2 (icv .u64 y5)))) (icv .u64 y5))))))
noncomputable def bits_Div64.sp (k:Nat):Go.Sx.Spec:=⟨(.pair T12 (.pair T12 (.pair T12 .unit))),(.more (.dp T12) (.one (.dp T12))),fun x=>bits_Div64 k x.1 x.2.1 x.2.2.1,false⟩
noncomputable def bits_Div64.cx (k:Nat):Go.Sx.Ctx:=⟨tys,[(160,bits_LeadingZeros64.sp k)],eqs,135,0,[],false⟩
theorem bits_Div64.cok (k:Nat):CtxOk PR (bits_Div64.cx k):=ctx_ok tysOk eqsOk (fC (bits_LeadingZeros64.ok k) FnsOk.nil) HsOk.nil
noncomputable def bits_Div64.c2p (a0 a1 a2 v10 v11 y5:Int):SL:=⟨[(2,(.val T12 (ishl .u64 a2 (icv .u64 y5)))),(8,(.val T12 (icv .u64 y5))),(9,(.val T12 (ishr .u64 (ishl .u64 a2 (icv .u64 y5)) (32:Int)))),(10,(.val T12 (ibits .and .u64 (ishl .u64 a2 (icv .u64 y5)) (4294967295:Int)))),(11,(.val T12 (ibits .or .u64 (ishl .u64 a0 (icv .u64 y5)) (ishr .u64 a1 (isub .u64 (64:Int) (icv .u64 y5)))))),(13,(.val T12 (ishr .u64 (ishl .u64 a1 (icv .u64 y5)) (32:Int)))),(14,(.val T12 (ibits .and .u64 (ishl .u64 a1 (icv .u64 y5)) (4294967295:Int)))),(15,(.val T12 v10)),(16,(.val T12 v11))],[]⟩
noncomputable def bits_Div64.c2q (a0 a1 a2 v10 v11 y5:Int) (o:Bool):SL:=(fun v=>⟨[(2,(.val T12 (ishl .u64 a2 (icv .u64 y5)))),(8,(.val T12 (icv .u64 y5))),(9,(.val T12 (ishr .u64 (ishl .u64 a2 (icv .u64 y5)) (32:Int)))),(10,(.val T12 (ibits .and .u64 (ishl .u64 a2 (icv .u64 y5)) (4294967295:Int)))),(11,(.val T12 (ibits .or .u64 (ishl .u64 a0 (icv .u64 y5)) (ishr .u64 a1 (isub .u64 (64:Int) (icv .u64 y5)))))),(13,(.val T12 (ishr .u64 (ishl .u64 a1 (icv .u64 y5)) (32:Int)))),(14,(.val T12 (ibits .and .u64 (ishl .u64 a1 (icv .u64 y5)) (4294967295:Int)))),(15,(.val T12 v10)),(16,(.val T12 v11)),(78,(.val T4 v))],[]⟩) o
noncomputable def bits_Div64.c2x (o:Bool):Ex:=(fun _=>.normal) o
noncomputable def bits_Div64.c2n (o:Bool):Nat:=(fun _=>0) o
theorem bits_Div64.c2_ok (k:Nat) (a0 a1 a2 v10 v11 y5:Int):Owp (bits_Div64.c2 k a1 a2 v10 v11 y5) fun o=>Triple PR (bits_Div64.cx k) (sub bits_Div64.code [1,1,1,1,1,1,1,1,1,1,1,1,1,1,0,0,0,0,0]) 0 (bits_Div64.c2p a0 a1 a2 v10 v11 y5) (bits_Div64.c2x o) (bits_Div64.c2n o) (bits_Div64.c2q a0 a1 a2 v10 v11 y5 o):=by
 unfold bits_Div64.c2; exact
  oF (fun e12 =>
  oS (tW (bits_Div64.cok k) hmix [tT,tT,tT,tT,tT,tT,tT,tT,tT] [] [] (via (finP (aI (aI (aI (aI (aI (aI (aI (aI (aI tv0 e12) e12) e12) e12) e12) e12) e12) e12) e12) .normal [] (bits_Div64.c2q a0 a1 a2 v10 v11 y5 true)) (by kernel_rfl)))) (fun e12 =>
  oS (tW (bits_Div64.cok k) hmix [fF,fF,fF,fF,fF,fF,fF,fF,fF] [] [] (via (finP (aI (aI (aI (aI (aI (aI (aI (aI (aI tv0 e12) e12) e12) e12) e12) e12) e12) e12) e12) .normal [] (bits_Div64.c2q a0 a1 a2 v10 v11 y5 (igt (imul .u64 v10 (ibits .and .u64 (ishl .u64 a2 (icv .u64 y5)) (4294967295:Int))) (iadd .u64 (imul .u64 (4294967296:Int) v11) (ishr .u64 (ishl .u64 a1 (icv .u64 y5)) (32:Int)))))) (by kernel_rfl))))
noncomputable def bits_Div64.c1p (a0 a1 a2 y5 v10 v11:Int):SL:=⟨[(2,(.val T12 (ishl .u64 a2 (icv .u64 y5)))),(8,(.val T12 (icv .u64 y5))),(9,(.val T12 (ishr .u64 (ishl .u64 a2 (icv .u64 y5)) (32:Int)))),(10,(.val T12 (ibits .and .u64 (ishl .u64 a2 (icv .u64 y5)) (4294967295:Int)))),(11,(.val T12 (ibits .or .u64 (ishl .u64 a0 (icv .u64 y5)) (ishr .u64 a1 (isub .u64 (64:Int) (icv .u64 y5)))))),(13,(.val T12 (ishr .u64 (ishl .u64 a1 (icv .u64 y5)) (32:Int)))),(14,(.val T12 (ibits .and .u64 (ishl .u64 a1 (icv .u64 y5)) (4294967295:Int)))),(15,(.val T12 v10)),(16,(.val T12 v11))],[]⟩
noncomputable def bits_Div64.c1q (a0 a1 a2 y5 o:Int):SL:=(fun v=>⟨[(2,(.val T12 (ishl .u64 a2 (icv .u64 y5)))),(8,(.val T12 (icv .u64 y5))),(9,(.val T12 (ishr .u64 (ishl .u64 a2 (icv .u64 y5)) (32:Int)))),(10,(.val T12 (ibits .and .u64 (ishl .u64 a2 (icv .u64 y5)) (4294967295:Int)))),(11,(.val T12 (ibits .or .u64 (ishl .u64 a0 (icv .u64 y5)) (ishr .u64 a1 (isub .u64 (64:Int) (icv .u64 y5)))))),(13,(.val T12 (ishr .u64 (ishl .u64 a1 (icv .u64 y5)) (32:Int)))),(14,(.val T12 (ibits .and .u64 (ishl .u64 a1 (icv .u64 y5)) (4294967295:Int)))),(15,(.val T12 v))],[]⟩) o
noncomputable def bits_Div64.c1x (o:Int):Ex:=(fun _=>(.exit 0)) o
noncomputable def bits_Div64.c1n (o:Int):Nat:=(fun _=>0) o
theorem bits_Div64.c1_ok (k:Nat) (a0 a1 a2 y5:Int):∀ (n:Nat) (v10 v11:Int),Owp (bits_Div64.c1 k a1 a2 y5 n v10 v11) fun o=>LTriple PR (bits_Div64.cx k) (sub bits_Div64.code [1,1,1,1,1,1,1,1,1,1,1,1,1,1,0,0,0]) 0 (bits_Div64.c1p a0 a1 a2 y5 v10 v11) (bits_Div64.c1x o) (bits_Div64.c1n o) (bits_Div64.c1q a0 a1 a2 y5 o)
 | 0,_,_=>fun _ h=>nomatch h
 | n+1,v10,v11=>Owp.of (bits_Div64.c1.eq_2 ..) (
  oB fun o13 e14 =>
  oF (fun e15 =>
  oF (fun e16 =>
  oS (loop_exit (bits_Div64.cok k) hmix [.cutR 17 ⟨[],[],(bits_Div64.c2p a0 a1 a2 v10 v11 y5),0,.normal,(bits_Div64.c2q a0 a1 a2 v10 v11 y5 o13),0⟩,tT,tT] [] [] (exne 0) (via (cutP tv0 [] (bits_Div64.c2p a0 a1 a2 v10 v11 y5) (((bits_Div64.c2_ok k a0 a1 a2 v10 v11 y5).ap e14)) (finP (aI (aI tv0 e15) e16) (.exit 0) [] (bits_Div64.c1q a0 a1 a2 y5 (isub .u64 v10 (1:Int))))) (by kernel_rfl)))) (fun e16 =>
  fun y hy=>loop_back (bits_Div64.cok k) hmix 0 (bits_Div64.c1p a0 a1 a2 y5 (isub .u64 v10 (1:Int)) (iadd .u64 v11 (ishr .u64 (ishl .u64 a2 (icv .u64 y5)) (32:Int)))) [.cutR 17 ⟨[],[],(bits_Div64.c2p a0 a1 a2 v10 v11 y5),0,.normal,(bits_Div64.c2q a0 a1 a2 v10 v11 y5 o13),0⟩,tT,fF] [] [] (via (cutP tv0 [] (bits_Div64.c2p a0 a1 a2 v10 v11 y5) (((bits_Div64.c2_ok k a0 a1 a2 v10 v11 y5).ap e14)) (finP (aI (aI tv0 e15) e16) .normal [] (bits_Div64.c1p a0 a1 a2 y5 (isub .u64 v10 (1:Int)) (iadd .u64 v11 (ishr .u64 (ishl .u64 a2 (icv .u64 y5)) (32:Int)))))) (by kernel_rfl)) ((bits_Div64.c1_ok k a0 a1 a2 y5 n (isub .u64 v10 (1:Int)) (iadd .u64 v11 (ishr .u64 (ishl .u64 a2 (icv .u64 y5)) (32:Int)))).ap hy))) (fun e15 =>
  oS (loop_exit (bits_Div64.cok k) hmix [.cutR 17 ⟨[],[],(bits_Div64.c2p a0 a1 a2 v10 v11 y5),0,.normal,(bits_Div64.c2q a0 a1 a2 v10 v11 y5 o13),0⟩,fF] [] [] (exne 0) (via (cutP tv0 [] (bits_Div64.c2p a0 a1 a2 v10 v11 y5) (((bits_Div64.c2_ok k a0 a1 a2 v10 v11 y5).ap e14)) (finP (aI tv0 e15) (.exit 0) [] (bits_Div64.c1q a0 a1 a2 y5 v10))) (by kernel_rfl)))))
noncomputable def bits_Div64.c4p (a0 a1 a2 o17 v19 v20 y5:Int):SL:=⟨[(2,(.val T12 (ishl .u64 a2 (icv .u64 y5)))),(8,(.val T12 (icv .u64 y5))),(9,(.val T12 (ishr .u64 (ishl .u64 a2 (icv .u64 y5)) (32:Int)))),(10,(.val T12 (ibits .and .u64 (ishl .u64 a2 (icv .u64 y5)) (4294967295:Int)))),(14,(.val T12 (ibits .and .u64 (ishl .u64 a1 (icv .u64 y5)) (4294967295:Int)))),(15,(.val T12 o17)),(16,(.val T12 v19)),(17,(.val T12 (isub .u64 (iadd .u64 (imul .u64 (ibits .or .u64 (ishl .u64 a0 (icv .u64 y5)) (ishr .u64 a1 (isub .u64 (64:Int) (icv .u64 y5)))) (4294967296:Int)) (ishr .u64 (ishl .u64 a1 (icv .u64 y5)) (32:Int))) (imul .u64 o17 (ishl .u64 a2 (icv .u64 y5)))))),(18,(.val T12 v20))],[]⟩
noncomputable def bits_Div64.c4q (a0 a1 a2 o17 v19 v20 y5:Int) (o:Bool):SL:=(fun v=>⟨[(2,(.val T12 (ishl .u64 a2 (icv .u64 y5)))),(8,(.val T12 (icv .u64 y5))),(9,(.val T12 (ishr .u64 (ishl .u64 a2 (icv .u64 y5)) (32:Int)))),(10,(.val T12 (ibits .and .u64 (ishl .u64 a2 (icv .u64 y5)) (4294967295:Int)))),(14,(.val T12 (ibits .and .u64 (ishl .u64 a1 (icv .u64 y5)) (4294967295:Int)))),(15,(.val T12 o17)),(16,(.val T12 v19)),(17,(.val T12 (isub .u64 (iadd .u64 (imul .u64 (ibits .or .u64 (ishl .u64 a0 (icv .u64 y5)) (ishr .u64 a1 (isub .u64 (64:Int) (icv .u64 y5)))) (4294967296:Int)) (ishr .u64 (ishl .u64 a1 (icv .u64 y5)) (32:Int))) (imul .u64 o17 (ishl .u64 a2 (icv .u64 y5)))))),(18,(.val T12 v20)),(113,(.val T4 v))],[]⟩) o
noncomputable def bits_Div64.c4x (o:Bool):Ex:=(fun _=>.normal) o
noncomputable def bits_Div64.c4n (o:Bool):Nat:=(fun _=>0) o
theorem bits_Div64.c4_ok (k:Nat) (a0 a1 a2 o17 v19 v20 y5:Int):Owp (bits_Div64.c4 k a1 a2 v19 v20 y5) fun o=>Triple PR (bits_Div64.cx k) (sub bits_Div64.code [1,1,1,1,1,1,1,1,1,1,1,1,1,1,1,1,1,1,0,0,0,0,0]) 0 (bits_Div64.c4p a0 a1 a2 o17 v19 v20 y5) (bits_Div64.c4x o) (bits_Div64.c4n o) (bits_Div64.c4q a0 a1 a2 o17 v19 v20 y5 o):=by
 unfold bits_Div64.c4; exact
  oF (fun e21 =>
  oS (tW (bits_Div64.cok k) hmix [tT,tT,tT,tT,tT,tT,tT,tT,tT] [] [] (via (finP (aI (aI (aI (aI (aI (aI (aI (aI (aI tv0 e21) e21) e21) e21) e21) e21) e21) e21) e21) .normal [] (bits_Div64.c4q a0 a1 a2 o17 v19 v20 y5 true)) (by kernel_rfl)))) (fun e21 =>
  oS (tW (bits_Div64.cok k) hmix [fF,fF,fF,fF,fF,fF,fF,fF,fF] [] [] (via (finP (aI (aI (aI (aI (aI (aI (aI (aI (aI tv0 e21) e21) e21) e21) e21) e21) e21) e21) e21) .normal [] (bits_Div64.c4q a0 a1 a2 o17 v19 v20 y5 (igt (imul .u64 v20 (ibits .and .u64 (ishl .u64 a2 (icv .u64 y5)) (4294967295:Int))) (iadd .u64 (imul .u64 (4294967296:Int) v19) (ibits .and .u64 (ishl .u64 a1 (icv .u64 y5)) (4294967295:Int)))))) (by kernel_rfl))))
noncomputable def bits_Div64.c3p (a0 a1 a2 o17 y5 v19 v20:Int):SL:=⟨[(2,(.val T12 (ishl .u64 a2 (icv .u64 y5)))),(8,(.val T12 (icv .u64 y5))),(9,(.val T12 (ishr .u64 (ishl .u64 a2 (icv .u64 y5)) (32:Int)))),(10,(.val T12 (ibits .and .u64 (ishl .u64 a2 (icv .u64 y5)) (4294967295:Int)))),(14,(.val T12 (ibits .and .u64 (ishl .u64 a1 (icv .u64 y5)) (4294967295:Int)))),(15,(.val T12 o17)),(16,(.val T12 v19)),(17,(.val T12 (isub .u64 (iadd .u64 (imul .u64 (ibits .or .u64 (ishl .u64 a0 (icv .u64 y5)) (ishr .u64 a1 (isub .u64 (64:Int) (icv .u64 y5)))) (4294967296:Int)) (ishr .u64 (ishl .u64 a1 (icv .u64 y5)) (32:Int))) (imul .u64 o17 (ishl .u64 a2 (icv .u64 y5)))))),(18,(.val T12 v20))],[]⟩
noncomputable def bits_Div64.c3q (a0 a1 a2 o17 y5 o:Int):SL:=(fun v=>⟨[(2,(.val T12 (ishl .u64 a2 (icv .u64 y5)))),(8,(.val T12 (icv .u64 y5))),(14,(.val T12 (ibits .and .u64 (ishl .u64 a1 (icv .u64 y5)) (4294967295:Int)))),(15,(.val T12 o17)),(17,(.val T12 (isub .u64 (iadd .u64 (imul .u64 (ibits .or .u64 (ishl .u64 a0 (icv .u64 y5)) (ishr .u64 a1 (isub .u64 (64:Int) (icv .u64 y5)))) (4294967296:Int)) (ishr .u64 (ishl .u64 a1 (icv .u64 y5)) (32:Int))) (imul .u64 o17 (ishl .u64 a2 (icv .u64 y5)))))),(18,(.val T12 v))],[]⟩) o
noncomputable def bits_Div64.c3x (o:Int):Ex:=(fun _=>(.exit 2)) o
noncomputable def bits_Div64.c3n (o:Int):Nat:=(fun _=>0) o
theorem bits_Div64.c3_ok (k:Nat) (a0 a1 a2 o17 y5:Int):∀ (n:Nat) (v19 v20:Int),Owp (bits_Div64.c3 k a1 a2 y5 n v19 v20) fun o=>LTriple PR (bits_Div64.cx k) (sub bits_Div64.code [1,1,1,1,1,1,1,1,1,1,1,1,1,1,1,1,1,1,0,0,0]) 0 (bits_Div64.c3p a0 a1 a2 o17 y5 v19 v20) (bits_Div64.c3x o) (bits_Div64.c3n o) (bits_Div64.c3q a0 a1 a2 o17 y5 o)
 | 0,_,_=>fun _ h=>nomatch h
 | n+1,v19,v20=>Owp.of (bits_Div64.c3.eq_2 ..) (
  oB fun o22 e23 =>
  oF (fun e24 =>
  oF (fun e25 =>
  oS (loop_exit (bits_Div64.cok k) hmix [.cutR 24 ⟨[],[],(bits_Div64.c4p a0 a1 a2 o17 v19 v20 y5),0,.normal,(bits_Div64.c4q a0 a1 a2 o17 v19 v20 y5 o22),0⟩,tT,tT] [] [] (exne 2) (via (cutP tv0 [] (bits_Div64.c4p a0 a1 a2 o17 v19 v20 y5) (((bits_Div64.c4_ok k a0 a1 a2 o17 v19 v20 y5).ap e23)) (finP (aI (aI tv0 e24) e25) (.exit 2) [] (bits_Div64.c3q a0 a1 a2 o17 y5 (isub .u64 v20 (1:Int))))) (by kernel_rfl)))) (fun e25 =>
  fun y hy=>loop_back (bits_Div64.cok k) hmix 0 (bits_Div64.c3p a0 a1 a2 o17 y5 (iadd .u64 v19 (ishr .u64 (ishl .u64 a2 (icv .u64 y5)) (32:Int))) (isub .u64 v20 (1:Int))) [.cutR 24 ⟨[],[],(bits_Div64.c4p a0 a1 a2 o17 v19 v20 y5),0,.normal,(bits_Div64.c4q a0 a1 a2 o17 v19 v20 y5 o22),0⟩,tT,fF] [] [] (via (cutP tv0 [] (bits_Div64.c4p a0 a1 a2 o17 v19 v20 y5) (((bits_Div64.c4_ok k a0 a1 a2 o17 v19 v20 y5).ap e23)) (finP (aI (aI tv0 e24) e25) .normal [] (bits_Div64.c3p a0 a1 a2 o17 y5 (iadd .u64 v19 (ishr .u64 (ishl .u64 a2 (icv .u64 y5)) (32:Int))) (isub .u64 v20 (1:Int))))) (by kernel_rfl)) ((bits_Div64.c3_ok k a0 a1 a2 o17 y5 n (iadd .u64 v19 (ishr .u64 (ishl .u64 a2 (icv .u64 y5)) (32:Int))) (isub .u64 v20 (1:Int))).ap hy))) (fun e24 =>
  oS (loop_exit (bits_Div64.cok k) hmix [.cutR 24 ⟨[],[],(bits_Div64.c4p a0 a1 a2 o17 v19 v20 y5),0,.normal,(bits_Div64.c4q a0 a1 a2 o17 v19 v20 y5 o22),0⟩,fF] [] [] (exne 2) (via (cutP tv0 [] (bits_Div64.c4p a0 a1 a2 o17 v19 v20 y5) (((bits_Div64.c4_ok k a0 a1 a2 o17 v19 v20 y5).ap e23)) (finP (aI tv0 e24) (.exit 2) [] (bits_Div64.c3q a0 a1 a2 o17 y5 v20))) (by kernel_rfl)))))
theorem bits_Div64.way (k:Nat) (a0 a1 a2:Int):Owp (bits_Div64 k a0 a1 a2) fun y=>∃ w c0,exec PR (bits_Div64.cx k) bits_Div64.code 0 (entry (.pair T12 (.pair T12 (.pair T12 .unit))) (a0,a1,a2,())).st w (Ret (bits_Div64.cx k) Tryz.f118 c0 (.more (.dp T12) (.one (.dp T12))) y):=by
 unfold bits_Div64; exact
  oF (fun e1 =>
  Owp.none) (fun e1 =>
  oF (fun e2 =>
  Owp.none) (fun e2 =>
  oF (fun e3 =>
  oR fun h4 =>
  oS (⟨[fF,fF,tT],[],via (retP (aI (aI (aI (aI (aI tv0 e1) e2) e3) h4) h4) (.more (.dp T12) (.one (.dp T12))) (((iquo .u64 a1 a2),(irem a1 a2)):(Int × Int))) (by kernel_rfl)⟩)) (fun e3 =>
  oB fun y5 e6 =>
  oR fun h7 =>
  oR fun h8 =>
  oR fun h9 =>
  oB fun o17 e18 =>
  oB fun o26 e27 =>
  oS (⟨[fF,fF,fF,rS T2 y5,.cut ⟨[],[],(bits_Div64.c1p a0 a1 a2 y5 (iquo .u64 (ibits .or .u64 (ishl .u64 a0 (icv .u64 y5)) (ishr .u64 a1 (isub .u64 (64:Int) (icv .u64 y5)))) (ishr .u64 (ishl .u64 a2 (icv .u64 y5)) (32:Int))) (isub .u64 (ibits .or .u64 (ishl .u64 a0 (icv .u64 y5)) (ishr .u64 a1 (isub .u64 (64:Int) (icv .u64 y5)))) (imul .u64 (iquo .u64 (ibits .or .u64 (ishl .u64 a0 (icv .u64 y5)) (ishr .u64 a1 (isub .u64 (64:Int) (icv .u64 y5)))) (ishr .u64 (ishl .u64 a2 (icv .u64 y5)) (32:Int))) (ishr .u64 (ishl .u64 a2 (icv .u64 y5)) (32:Int))))),0,(.exit 0),(bits_Div64.c1q a0 a1 a2 y5 o17),0⟩,.cut ⟨[],[],(bits_Div64.c3p a0 a1 a2 o17 y5 (isub .u64 (isub .u64 (iadd .u64 (imul .u64 (ibits .or .u64 (ishl .u64 a0 (icv .u64 y5)) (ishr .u64 a1 (isub .u64 (64:Int) (icv .u64 y5)))) (4294967296:Int)) (ishr .u64 (ishl .u64 a1 (icv .u64 y5)) (32:Int))) (imul .u64 o17 (ishl .u64 a2 (icv .u64 y5)))) (imul .u64 (iquo .u64 (isub .u64 (iadd .u64 (imul .u64 (ibits .or .u64 (ishl .u64 a0 (icv .u64 y5)) (ishr .u64 a1 (isub .u64 (64:Int) (icv .u64 y5)))) (4294967296:Int)) (ishr .u64 (ishl .u64 a1 (icv .u64 y5)) (32:Int))) (imul .u64 o17 (ishl .u64 a2 (icv .u64 y5)))) (ishr .u64 (ishl .u64 a2 (icv .u64 y5)) (32:Int))) (ishr .u64 (ishl .u64 a2 (icv .u64 y5)) (32:Int)))) (iquo .u64 (isub .u64 (iadd .u64 (imul .u64 (ibits .or .u64 (ishl .u64 a0 (icv .u64 y5)) (ishr .u64 a1 (isub .u64 (64:Int) (icv .u64 y5)))) (4294967296:Int)) (ishr .u64 (ishl .u64 a1 (icv .u64 y5)) (32:Int))) (imul .u64 o17 (ishl .u64 a2 (icv .u64 y5)))) (ishr .u64 (ishl .u64 a2 (icv .u64 y5)) (32:Int)))),0,(.exit 2),(bits_Div64.c3q a0 a1 a2 o17 y5 o26),0⟩],[],via (cutP (aI (aI (aI (aI (aI (aI (aI (aI (aI (aI (aI tv0 e1) e2) e3) e6) h7) (by decide:ng (32:Int))) h7) h8) h7) (by decide:ng (32:Int))) h9) [] (bits_Div64.c1p a0 a1 a2 y5 (iquo .u64 (ibits .or .u64 (ishl .u64 a0 (icv .u64 y5)) (ishr .u64 a1 (isub .u64 (64:Int) (icv .u64 y5)))) (ishr .u64 (ishl .u64 a2 (icv .u64 y5)) (32:Int))) (isub .u64 (ibits .or .u64 (ishl .u64 a0 (icv .u64 y5)) (ishr .u64 a1 (isub .u64 (64:Int) (icv .u64 y5)))) (imul .u64 (iquo .u64 (ibits .or .u64 (ishl .u64 a0 (icv .u64 y5)) (ishr .u64 a1 (isub .u64 (64:Int) (icv .u64 y5)))) (ishr .u64 (ishl .u64 a2 (icv .u64 y5)) (32:Int))) (ishr .u64 (ishl .u64 a2 (icv .u64 y5)) (32:Int))))) (((bits_Div64.c1_ok k a0 a1 a2 y5 k (iquo .u64 (ibits .or .u64 (ishl .u64 a0 (icv .u64 y5)) (ishr .u64 a1 (isub .u64 (64:Int) (icv .u64 y5)))) (ishr .u64 (ishl .u64 a2 (icv .u64 y5)) (32:Int))) (isub .u64 (ibits .or .u64 (ishl .u64 a0 (icv .u64 y5)) (ishr .u64 a1 (isub .u64 (64:Int) (icv .u64 y5)))) (imul .u64 (iquo .u64 (ibits .or .u64 (ishl .u64 a0 (icv .u64 y5)) (ishr .u64 a1 (isub .u64 (64:Int) (icv .u64 y5)))) (ishr .u64 (ishl .u64 a2 (icv .u64 y5)) (32:Int))) (ishr .u64 (ishl .u64 a2 (icv .u64 y5)) (32:Int))))).ap e18).triple) (cutP (aI tv0 h9) [] (bits_Div64.c3p a0 a1 a2 o17 y5 (isub .u64 (isub .u64 (iadd .u64 (imul .u64 (ibits .or .u64 (ishl .u64 a0 (icv .u64 y5)) (ishr .u64 a1 (isub .u64 (64:Int) (icv .u64 y5)))) (4294967296:Int)) (ishr .u64 (ishl .u64 a1 (icv .u64 y5)) (32:Int))) (imul .u64 o17 (ishl .u64 a2 (icv .u64 y5)))) (imul .u64 (iquo .u64 (isub .u64 (iadd .u64 (imul .u64 (ibits .or .u64 (ishl .u64 a0 (icv .u64 y5)) (ishr .u64 a1 (isub .u64 (64:Int) (icv .u64 y5)))) (4294967296:Int)) (ishr .u64 (ishl .u64 a1 (icv .u64 y5)) (32:Int))) (imul .u64 o17 (ishl .u64 a2 (icv .u64 y5)))) (ishr .u64 (ishl .u64 a2 (icv .u64 y5)) (32:Int))) (ishr .u64 (ishl .u64 a2 (icv .u64 y5)) (32:Int)))) (iquo .u64 (isub .u64 (iadd .u64 (imul .u64 (ibits .or .u64 (ishl .u64 a0 (icv .u64 y5)) (ishr .u64 a1 (isub .u64 (64:Int) (icv .u64 y5)))) (4294967296:Int)) (ishr .u64 (ishl .u64 a1 (icv .u64 y5)) (32:Int))) (imul .u64 o17 (ishl .u64 a2 (icv .u64 y5)))) (ishr .u64 (ishl .u64 a2 (icv .u64 y5)) (32:Int)))) (((bits_Div64.c3_ok k a0 a1 a2 o17 y5 k (isub .u64 (isub .u64 (iadd .u64 (imul .u64 (ibits .or .u64 (ishl .u64 a0 (icv .u64 y5)) (ishr .u64 a1 (isub .u64 (64:Int) (icv .u64 y5)))) (4294967296:Int)) (ishr .u64 (ishl .u64 a1 (icv .u64 y5)) (32:Int))) (imul .u64 o17 (ishl .u64 a2 (icv .u64 y5)))) (imul .u64 (iquo .u64 (isub .u64 (iadd .u64 (imul .u64 (ibits .or .u64 (ishl .u64 a0 (icv .u64 y5)) (ishr .u64 a1 (isub .u64 (64:Int) (icv .u64 y5)))) (4294967296:Int)) (ishr .u64 (ishl .u64 a1 (icv .u64 y5)) (32:Int))) (imul .u64 o17 (ishl .u64 a2 (icv .u64 y5)))) (ishr .u64 (ishl .u64 a2 (icv .u64 y5)) (32:Int))) (ishr .u64 (ishl .u64 a2 (icv .u64 y5)) (32:Int)))) (iquo .u64 (isub .u64 (iadd .u64 (imul .u64 (ibits .or .u64 (ishl .u64 a0 (icv .u64 y5)) (ishr .u64 a1 (isub .u64 (64:Int) (icv .u64 y5)))) (4294967296:Int)) (ishr .u64 (ishl .u64 a1 (icv .u64 y5)) (32:Int))) (imul .u64 o17 (ishl .u64 a2 (icv .u64 y5)))) (ishr .u64 (ishl .u64 a2 (icv .u64 y5)) (32:Int)))).ap e27).triple) (retP (aI tv0 h7) (.more (.dp T12) (.one (.dp T12))) (((iadd .u64 (imul .u64 o17 (4294967296:Int)) o26),(ishr .u64 (isub .u64 (iadd .u64 (imul .u64 (isub .u64 (iadd .u64 (imul .u64 (ibits .or .u64 (ishl .u64 a0 (icv .u64 y5)) (ishr .u64 a1 (isub .u64 (64:Int) (icv .u64 y5)))) (4294967296:Int)) (ishr .u64 (ishl .u64 a1 (icv .u64 y5)) (32:Int))) (imul .u64 o17 (ishl .u64 a2 (icv .u64 y5)))) (4294967296:Int)) (ibits .and .u64 (ishl .u64 a1 (icv .u64 y5)) (4294967295:Int))) (imul .u64 o26 (ishl .u64 a2 (icv .u64 y5)))) (icv .u64 y5))):(Int × Int))))) (by kernel_rfl)⟩))))
theorem bits_Div64.ok (k:Nat):FnOk PR 118 (bits_Div64.sp k) :=
 fn_ok (bits_Div64.cok k) hmix Tryz.func118 (code:=bits_Div64.code) (by kernel_rfl) (by kernel_rfl) (by kernel_rfl) rfl rfl (by kernel_rfl) (by kernel_rfl) (by kernel_rfl) (fun x=>Nat.le_of_ble_eq_true (by kernel_rfl)) fun x y hy=>(bits_Div64.way k x.1 x.2.1 x.2.2.1).ap hy
noncomputable def poly_Wide_Over.code:Code:=Func.cd Tryz.f68
def poly_Wide_Over.c1 (k:Nat) (a0:V115):Option (V115) :=
 bif' (ilt a0.1 0)
 (bnd (poly_Wide_Minus k (0,0,()) a0) fun y3 =>
  some y3)
 (some a0)
def poly_Wide_Over.c2 (k:Nat) (a0:V115) (a1:Int):Option ((Bool × Int)) :=
 bif' (ilt a1 0)
 (some ((!(ilt a0.1 0)),(ineg .u64 (icv .u64 a1))))
 (some ((ilt a0.1 0),(icv .u64 a1)))
def poly_Wide_Over.c3 (k:Nat) (o8:(Bool × Int)) (y11:(Int × Int)):Option (Bool) :=
 bif' (igt y11.2 (isub .u64 o8.2 y11.2))
 (some true)
 (bif' (ieq y11.2 (isub .u64 o8.2 y11.2))
  (some (!o8.1))
  (some false))
def poly_Wide_Over.c4 (k:Nat) (o15:Bool) (y11:(Int × Int)):Option (Unit ⊕ Int) :=
 bif' o15
 (bif' (ieq (iadd .u64 y11.1 1) 0)
  (some (.inl ()))
  (some (.inr (iadd .u64 y11.1 1))))
 (some (.inr y11.1))
def poly_Wide_Over.c5 (k:Nat) (o8:(Bool × Int)) (y23:Int):Option (Bool) :=
 bif' o8.1
 (some (ile y23 9223372036854775808))
 (some false)
def poly_Wide_Over.c6 (k:Nat) (o8:(Bool × Int)) (y23:Int):Option (Bool) :=
 bif' o8.1
 (some false)
 (some (ilt y23 9223372036854775808))
def poly_Wide_Over (k:Nat) (a0:V115) (a1:Int):Option (Int × Int) :=
 bif' (ieq a1 0)
 (some (0,17))
 (bnd (poly_Wide_Over.c1 k a0) fun o5 =>
  bnd (poly_Wide_Over.c2 k a0 a1) fun o8 =>
  bif' (ige (icv .u64 o5.1) o8.2)
  (some (0,2))
  (bnd (bits_Div64 k (icv .u64 o5.1) o5.2.1 o8.2) fun y11 =>
  bnd (poly_Wide_Over.c3 k o8 y11) fun o15 =>
  bnd (poly_Wide_Over.c4 k o15 y11) fun o19 =>
  two o19 (fun y21 =>
  some (0,2)) (fun y23 =>
  bnd (poly_Wide_Over.c5 k o8 y23) fun o26 =>
  bif' o26
  (some ((icv .i64 (ineg .u64 y23)),0))
  (bnd (poly_Wide_Over.c6 k o8 y23) fun o30 =>
  bif' o30
  (some ((icv .i64 y23),0))
  (some (0,2))))))
noncomputable def poly_Wide_Over.sp (k:Nat):Go.Sx.Spec:=⟨(.pair T115 (.pair T2 .unit)),(.more (.dp T2) (.one (.dp T2))),fun x=>poly_Wide_Over k x.1 x.2.1,false⟩
noncomputable def poly_Wide_Over.cx (k:Nat):Go.Sx.Ctx:=⟨tys,[(117,poly_Wide_Minus.sp k),(118,bits_Div64.sp k)],eqs,82,0,[],false⟩
theorem poly_Wide_Over.cok (k:Nat):CtxOk PR (poly_Wide_Over.cx k):=ctx_ok tysOk eqsOk (fC (poly_Wide_Minus.ok k) (fC (bits_Div64.ok k) FnsOk.nil)) HsOk.nil
noncomputable def poly_Wide_Over.c1p (a0:V115) (a1:Int):SL:=⟨[(1,(.val T2 a1)),(2,(.val .ptr ⟨0,0,(0:Int),0,0⟩)),(6,(.val T4 (ilt a0.1 (0:Int)))),(17,(.val T4 (ilt a0.1 (0:Int))))],[(0,.cells T115 a0)]⟩
noncomputable def poly_Wide_Over.c1q (a0:V115) (a1:Int) (o:V115):SL:=(fun v=>⟨[(1,(.val T2 a1)),(2,(.val .ptr ⟨0,0,(0:Int),0,0⟩)),(6,(.val T4 (ilt a0.1 (0:Int))))],[(0,.cells T115 v)]⟩) o
noncomputable def poly_Wide_Over.c1x (o:V115):Ex:=(fun _=>.normal) o
noncomputable def poly_Wide_Over.c1n (o:V115):Nat:=(fun _=>1) o
theorem poly_Wide_Over.c1_ok (k:Nat) (a0:V115) (a1:Int):Owp (poly_Wide_Over.c1 k a0) fun o=>Triple PR (poly_Wide_Over.cx k) (sub poly_Wide_Over.code [1,1,1,0,1]) 1 (poly_Wide_Over.c1p a0 a1) (poly_Wide_Over.c1x o) (poly_Wide_Over.c1n o) (poly_Wide_Over.c1q a0 a1 o):=by
 unfold poly_Wide_Over.c1; exact
  oF (fun e2 =>
  oB fun y3 e4 =>
  oS (tW (poly_Wide_Over.cok k) hmix [tT,rS T115 y3] [] [(0,0)] (via (finP (aI (aI tv0 e2) e4) .normal [(0,0)] (poly_Wide_Over.c1q a0 a1 y3)) (by kernel_rfl)))) (fun e2 =>
  oS (tW (poly_Wide_Over.cok k) hmix [fF] [] [(0,0)] (via (finP (aI tv0 e2) .normal [(0,0)] (poly_Wide_Over.c1q a0 a1 a0)) (by kernel_rfl))))
noncomputable def poly_Wide_Over.c2p (a0:V115) (a1:Int) (o5:V115):SL:=⟨[(2,(.val .ptr ⟨0,0,(0:Int),0,0⟩)),(6,(.val T4 (ilt a0.1 (0:Int)))),(7,(.val T12 (icv .u64 a1))),(24,(.val T4 (ilt a1 (0:Int))))],[(0,.cells T115 o5)]⟩
noncomputable def poly_Wide_Over.c2q (o5:V115) (o:(Bool × Int)):SL:=(fun v=>⟨[(2,(.val .ptr ⟨0,0,(0:Int),0,0⟩)),(6,(.val T4 v.1)),(7,(.val T12 v.2))],[(0,.cells T115 o5)]⟩) o
noncomputable def poly_Wide_Over.c2x (o:(Bool × Int)):Ex:=(fun _=>.normal) o
noncomputable def poly_Wide_Over.c2n (o:(Bool × Int)):Nat:=(fun _=>1) o
theorem poly_Wide_Over.c2_ok (k:Nat) (a0:V115) (a1:Int) (o5:V115):Owp (poly_Wide_Over.c2 k a0 a1) fun o=>Triple PR (poly_Wide_Over.cx k) (sub poly_Wide_Over.code [1,1,1,1,1,0,1]) 1 (poly_Wide_Over.c2p a0 a1 o5) (poly_Wide_Over.c2x o) (poly_Wide_Over.c2n o) (poly_Wide_Over.c2q o5 o):=by
 unfold poly_Wide_Over.c2; exact
  oF (fun e7 =>
  oS (tW (poly_Wide_Over.cok k) hmix [tT] [] [(0,0)] (via (finP (aI tv0 e7) .normal [(0,0)] (poly_Wide_Over.c2q o5 ((!(ilt a0.1 (0:Int))),(ineg .u64 (icv .u64 a1))))) (by kernel_rfl)))) (fun e7 =>
  oS (tW (poly_Wide_Over.cok k) hmix [fF] [] [(0,0)] (via (finP (aI tv0 e7) .normal [(0,0)] (poly_Wide_Over.c2q o5 ((ilt a0.1 (0:Int)),(icv .u64 a1)))) (by kernel_rfl))))
noncomputable def poly_Wide_Over.c3p (o8:(Bool × Int)) (y11:(Int × Int)):SL:=⟨[(6,(.val T4 o8.1)),(7,(.val T12 o8.2)),(9,(.val T12 y11.1)),(10,(.val T12 y11.2))],[]⟩
noncomputable def poly_Wide_Over.c3q (o8:(Bool × Int)) (y11:(Int × Int)) (o:Bool):SL:=(fun v=>⟨[(6,(.val T4 o8.1)),(9,(.val T12 y11.1)),(11,(.val T4 v))],[]⟩) o
noncomputable def poly_Wide_Over.c3x (o:Bool):Ex:=(fun _=>.normal) o
noncomputable def poly_Wide_Over.c3n (o:Bool):Nat:=(fun _=>0) o
theorem poly_Wide_Over.c3_ok (k:Nat) (o8:(Bool × Int)) (y11:(Int × Int)):Owp (poly_Wide_Over.c3 k o8 y11) fun o=>Triple PR (poly_Wide_Over.cx k) (sub poly_Wide_Over.code [1,1,1,1,1,1,1,1,1,0]) 0 (poly_Wide_Over.c3p o8 y11) (poly_Wide_Over.c3x o) (poly_Wide_Over.c3n o) (poly_Wide_Over.c3q o8 y11 o):=by
 unfold poly_Wide_Over.c3; exact
  oF (fun e13 =>
  oS (tW (poly_Wide_Over.cok k) hmix [tT,tT,tT,tT,tT,tT,tT,tT,tT,tT,tT] [] [] (via (finP (aI (aI (aI (aI (aI (aI (aI (aI tv0 e13) e13) e13) e13) e13) e13) e13) e13) .normal [] (poly_Wide_Over.c3q o8 y11 true)) (by kernel_rfl)))) (fun e13 =>
  oF (fun e14 =>
  oS (tW (poly_Wide_Over.cok k) hmix [fF,fF,fF,fF,fF,fF,tT,tT,fF,tT,fF] [] [] (via (finP (aI (aI (aI (aI (aI (aI (aI (aI (aI (aI tv0 e13) e13) e13) e13) e13) e13) e14) e14) (aI e13 e14)) e13) .normal [] (poly_Wide_Over.c3q o8 y11 (!o8.1))) (by kernel_rfl)))) (fun e14 =>
  oS (tW (poly_Wide_Over.cok k) hmix [fF,fF,fF,fF,fF,fF,fF,fF,fF,fF,fF] [] [] (via (finP (aI (aI (aI (aI (aI (aI (aI (aI (aI (aI tv0 e13) e13) e13) e13) e13) e13) e14) e14) (aI e13 e14)) e13) .normal [] (poly_Wide_Over.c3q o8 y11 false)) (by kernel_rfl)))))
noncomputable def poly_Wide_Over.c4p (o8:(Bool × Int)) (o15:Bool) (y11:(Int × Int)):SL:=⟨[(6,(.val T4 o8.1)),(9,(.val T12 y11.1)),(59,(.val T4 o15))],[]⟩
noncomputable def poly_Wide_Over.c4q (o8:(Bool × Int)) (o:Unit ⊕ Int):SL:=(fun o=>two o (fun v=>⟨[(4,(.val T2 (0:Int))),(5,(.val T2 (2:Int)))],[]⟩) (fun v=>⟨[(6,(.val T4 o8.1)),(9,(.val T12 v))],[]⟩)) o
noncomputable def poly_Wide_Over.c4x (o:Unit ⊕ Int):Ex:=(fun o=>two o (fun _=>.ret) (fun _=>.normal)) o
noncomputable def poly_Wide_Over.c4n (o:Unit ⊕ Int):Nat:=(fun o=>two o (fun _=>0) (fun _=>0)) o
theorem poly_Wide_Over.c4_ok (k:Nat) (o8:(Bool × Int)) (o15:Bool) (y11:(Int × Int)):Owp (poly_Wide_Over.c4 k o15 y11) fun o=>Triple PR (poly_Wide_Over.cx k) (sub poly_Wide_Over.code [1,1,1,1,1,1,1,1,1,1,0,1]) 0 (poly_Wide_Over.c4p o8 o15 y11) (poly_Wide_Over.c4x o) (poly_Wide_Over.c4n o) (poly_Wide_Over.c4q o8 o):=by
 unfold poly_Wide_Over.c4; exact
  oF (fun e17 =>
  oF (fun e18 =>
  oS (tW (poly_Wide_Over.cok k) hmix [tT,tT] [] [] (via (finP (aI (aI tv0 e17) e18) .ret [] (poly_Wide_Over.c4q o8 (.inl ()))) (by kernel_rfl)))) (fun e18 =>
  oS (tW (poly_Wide_Over.cok k) hmix [tT,fF] [] [] (via (finP (aI (aI tv0 e17) e18) .normal [] (poly_Wide_Over.c4q o8 (.inr (iadd .u64 y11.1 (1:Int))))) (by kernel_rfl))))) (fun e17 =>
  oS (tW (poly_Wide_Over.cok k) hmix [fF] [] [] (via (finP (aI tv0 e17) .normal [] (poly_Wide_Over.c4q o8 (.inr y11.1))) (by kernel_rfl))))
noncomputable def poly_Wide_Over.c5p (o8:(Bool × Int)) (y23:Int):SL:=⟨[(6,(.val T4 o8.1)),(9,(.val T12 y23))],[]⟩
noncomputable def poly_Wide_Over.c5q (o8:(Bool × Int)) (y23:Int) (o:Bool):SL:=(fun v=>⟨[(6,(.val T4 o8.1)),(9,(.val T12 y23)),(64,(.val T4 v))],[]⟩) o
noncomputable def poly_Wide_Over.c5x (o:Bool):Ex:=(fun _=>.normal) o
noncomputable def poly_Wide_Over.c5n (o:Bool):Nat:=(fun _=>0) o
theorem poly_Wide_Over.c5_ok (k:Nat) (o8:(Bool × Int)) (y23:Int):Owp (poly_Wide_Over.c5 k o8 y23) fun o=>Triple PR (poly_Wide_Over.cx k) (sub poly_Wide_Over.code [1,1,1,1,1,1,1,1,1,1,1,0,0,0]) 0 (poly_Wide_Over.c5p o8 y23) (poly_Wide_Over.c5x o) (poly_Wide_Over.c5n o) (poly_Wide_Over.c5q o8 y23 o):=by
 unfold poly_Wide_Over.c5; exact
  oF (fun e25 =>
  oS (tW (poly_Wide_Over.cok k) hmix [tT,tT,tT] [] [] (via (finP (aI (aI (aI tv0 e25) e25) e25) .normal [] (poly_Wide_Over.c5q o8 y23 (ile y23 (9223372036854775808:Int)))) (by kernel_rfl)))) (fun e25 =>
  oS (tW (poly_Wide_Over.cok k) hmix [fF,fF,fF] [] [] (via (finP (aI (aI (aI tv0 e25) e25) e25) .normal [] (poly_Wide_Over.c5q o8 y23 false)) (by kernel_rfl))))
noncomputable def poly_Wide_Over.c6p (o8:(Bool × Int)) (y23:Int):SL:=⟨[(6,(.val T4 o8.1)),(9,(.val T12 y23))],[]⟩
noncomputable def poly_Wide_Over.c6q (y23:Int) (o:Bool):SL:=(fun v=>⟨[(9,(.val T12 y23)),(73,(.val T4 v))],[]⟩) o
noncomputable def poly_Wide_Over.c6x (o:Bool):Ex:=(fun _=>.normal) o
noncomputable def poly_Wide_Over.c6n (o:Bool):Nat:=(fun _=>0) o
theorem poly_Wide_Over.c6_ok (k:Nat) (o8:(Bool × Int)) (y23:Int):Owp (poly_Wide_Over.c6 k o8 y23) fun o=>Triple PR (poly_Wide_Over.cx k) (sub poly_Wide_Over.code [1,1,1,1,1,1,1,1,1,1,1,0,0,1,1,0]) 0 (poly_Wide_Over.c6p o8 y23) (poly_Wide_Over.c6x o) (poly_Wide_Over.c6n o) (poly_Wide_Over.c6q y23 o):=by
 unfold poly_Wide_Over.c6; exact
  oF (fun e29 =>
  oS (tW (poly_Wide_Over.cok k) hmix [fF,fF,fF] [] [] (via (finP (aI (aI (aI tv0 (congrArg not e29)) (congrArg not e29)) (congrArg not e29)) .normal [] (poly_Wide_Over.c6q y23 false)) (by kernel_rfl)))) (fun e29 =>
  oS (tW (poly_Wide_Over.cok k) hmix [tT,tT,tT] [] [] (via (finP (aI (aI (aI tv0 (congrArg not e29)) (congrArg not e29)) (congrArg not e29)) .normal [] (poly_Wide_Over.c6q y23 (ilt y23 (9223372036854775808:Int)))) (by kernel_rfl))))
theorem poly_Wide_Over.way (k:Nat) (a0:V115) (a1:Int):Owp (poly_Wide_Over k a0 a1) fun y=>∃ w c0,exec PR (poly_Wide_Over.cx k) poly_Wide_Over.code 0 (entry (.pair T115 (.pair T2 .unit)) (a0,a1,())).st w (Ret (poly_Wide_Over.cx k) Tryz.f68 c0 (.more (.dp T2) (.one (.dp T2))) y):=by
 unfold poly_Wide_Over; exact
  oF (fun e1 =>
  oS (⟨[tT],[],via (retP (aI tv0 e1) (.more (.dp T2) (.one (.dp T2))) (((0:Int),(17:Int)):(Int × Int))) (by kernel_rfl)⟩)) (fun e1 =>
  oB fun o5 e6 =>
  oB fun o8 e9 =>
  oF (fun e10 =>
  oS (⟨[fF,.cut ⟨[],[(0,0)],(poly_Wide_Over.c1p a0 a1),1,.normal,(poly_Wide_Over.c1q a0 a1 o5),1⟩,.cut ⟨[],[(0,0)],(poly_Wide_Over.c2p a0 a1 o5),1,.normal,(poly_Wide_Over.c2q o5 o8),1⟩,tT],[],via (cutP (aI tv0 e1) [(0,0)] (poly_Wide_Over.c1p a0 a1) (((poly_Wide_Over.c1_ok k a0 a1).ap e6)) (cutP tv0 [(0,0)] (poly_Wide_Over.c2p a0 a1 o5) (((poly_Wide_Over.c2_ok k a0 a1 o5).ap e9)) (retP (aI tv0 e10) (.more (.dp T2) (.one (.dp T2))) (((0:Int),(2:Int)):(Int × Int))))) (by kernel_rfl)⟩)) (fun e10 =>
  oB fun y11 e12 =>
  oB fun o15 e16 =>
  oB fun o19 e20 =>
  Owp.two (fun y21 e22 =>
  oS (⟨[fF,.cut ⟨[],[(0,0)],(poly_Wide_Over.c1p a0 a1),1,.normal,(poly_Wide_Over.c1q a0 a1 o5),1⟩,.cut ⟨[],[(0,0)],(poly_Wide_Over.c2p a0 a1 o5),1,.normal,(poly_Wide_Over.c2q o5 o8),1⟩,fF,.res (.more (.dp T12) (.one (.dp T12))) y11,.cutR 13 ⟨[],[],(poly_Wide_Over.c3p o8 y11),0,.normal,(poly_Wide_Over.c3q o8 y11 o15),0⟩,.cut ⟨[],[],(poly_Wide_Over.c4p o8 o15 y11),0,.ret,(poly_Wide_Over.c4q o8 (.inl ())),0⟩],[],via (cutP (aI tv0 e1) [(0,0)] (poly_Wide_Over.c1p a0 a1) (((poly_Wide_Over.c1_ok k a0 a1).ap e6)) (cutP tv0 [(0,0)] (poly_Wide_Over.c2p a0 a1 o5) (((poly_Wide_Over.c2_ok k a0 a1 o5).ap e9)) (cutP (aI (aI tv0 e10) e12) [] (poly_Wide_Over.c3p o8 y11) (((poly_Wide_Over.c3_ok k o8 y11).ap e16)) (cutP tv0 [] (poly_Wide_Over.c4p o8 o15 y11) (((poly_Wide_Over.c4_ok k o8 o15 y11).ap (e20.trans (congrArg some e22)))) (retP tv0 (.more (.dp T2) (.one (.dp T2))) (((0:Int),(2:Int)):(Int × Int))))))) (by kernel_rfl)⟩)) (fun y23 e24 =>
  oB fun o26 e27 =>
  oF (fun e28 =>
  oS (⟨[fF,.cut ⟨[],[(0,0)],(poly_Wide_Over.c1p a0 a1),1,.normal,(poly_Wide_Over.c1q a0 a1 o5),1⟩,.cut ⟨[],[(0,0)],(poly_Wide_Over.c2p a0 a1 o5),1,.normal,(poly_Wide_Over.c2q o5 o8),1⟩,fF,.res (.more (.dp T12) (.one (.dp T12))) y11,.cutR 13 ⟨[],[],(poly_Wide_Over.c3p o8 y11),0,.normal,(poly_Wide_Over.c3q o8 y11 o15),0⟩,.cut ⟨[],[],(poly_Wide_Over.c4p o8 o15 y11),0,.normal,(poly_Wide_Over.c4q o8 (.inr y23)),0⟩,.cutR 18 ⟨[],[],(poly_Wide_Over.c5p o8 y23),0,.normal,(poly_Wide_Over.c5q o8 y23 o26),0⟩,tT],[],via (cutP (aI tv0 e1) [(0,0)] (poly_Wide_Over.c1p a0 a1) (((poly_Wide_Over.c1_ok k a0 a1).ap e6)) (cutP tv0 [(0,0)] (poly_Wide_Over.c2p a0 a1 o5) (((poly_Wide_Over.c2_ok k a0 a1 o5).ap e9)) (cutP (aI (aI tv0 e10) e12) [] (poly_Wide_Over.c3p o8 y11) (((poly_Wide_Over.c3_ok k o8 y11).ap e16)) (cutP tv0 [] (poly_Wide_Over.c4p o8 o15 y11) (((poly_Wide_Over.c4_ok k o8 o15 y11).ap (e20.trans (congrArg some e24)))) (cutP tv0 [] (poly_Wide_Over.c5p o8 y23) (((poly_Wide_Over.c5_ok k o8 y23).ap e27)) (retP (aI tv0 e28) (.more (.dp T2) (.one (.dp T2))) (((icv .i64 (ineg .u64 y23)),(0:Int)):(Int × Int)))))))) (by kernel_rfl)⟩)) (fun e28 =>
  oB fun o30 e31 =>
  oF (fun e32 =>
  oS (⟨[fF,.cut ⟨[],[(0,0)],(poly_Wide_Over.c1p a0 a1),1,.normal,(poly_Wide_Over.c1q a0 a1 o5),1⟩,.cut ⟨[],[(0,0)],(poly_Wide_Over.c2p a0 a1 o5),1,.normal,(poly_Wide_Over.c2q o5 o8),1⟩,fF,.res (.more (.dp T12) (.one (.dp T12))) y11,.cutR 13 ⟨[],[],(poly_Wide_Over.c3p o8 y11),0,.normal,(poly_Wide_Over.c3q o8 y11 o15),0⟩,.cut ⟨[],[],(poly_Wide_Over.c4p o8 o15 y11),0,.normal,(poly_Wide_Over.c4q o8 (.inr y23)),0⟩,.cutR 18 ⟨[],[],(poly_Wide_Over.c5p o8 y23),0,.normal,(poly_Wide_Over.c5q o8 y23 o26),0⟩,fF,.cutR 20 ⟨[],[],(poly_Wide_Over.c6p o8 y23),0,.normal,(poly_Wide_Over.c6q y23 o30),0⟩,tT],[],via (cutP (aI tv0 e1) [(0,0)] (poly_Wide_Over.c1p a0 a1) (((poly_Wide_Over.c1_ok k a0 a1).ap e6)) (cutP tv0 [(0,0)] (poly_Wide_Over.c2p a0 a1 o5) (((poly_Wide_Over.c2_ok k a0 a1 o5).ap e9)) (cutP (aI (aI tv0 e10) e12) [] (poly_Wide_Over.c3p o8 y11) (((poly_Wide_Over.c3_ok k o8 y11).ap e16)) (cutP tv0 [] (poly_Wide_Over.c4p o8 o15 y11) (((poly_Wide_Over.c4_ok k o8 o15 y11).ap (e20.trans (congrArg some e24)))) (cutP tv0 [] (poly_Wide_Over.c5p o8 y23) (((poly_Wide_Over.c5_ok k o8 y23).ap e27)) (cutP (aI tv0 e28) [] (poly_Wide_Over.c6p o8 y23) (((poly_Wide_Over.c6_ok k o8 y23).ap e31)) (retP (aI tv0 e32) (.more (.dp T2) (.one (.dp T2))) (((icv .i64 y23),(0:Int)):(Int × Int))))))))) (by kernel_rfl)⟩)) (fun e32 =>
  oS (⟨[fF,.cut ⟨[],[(0,0)],(poly_Wide_Over.c1p a0 a1),1,.normal,(poly_Wide_Over.c1q a0 a1 o5),1⟩,.cut ⟨[],[(0,0)],(poly_Wide_Over.c2p a0 a1 o5),1,.normal,(poly_Wide_Over.c2q o5 o8),1⟩,fF,.res (.more (.dp T12) (.one (.dp T12))) y11,.cutR 13 ⟨[],[],(poly_Wide_Over.c3p o8 y11),0,.normal,(poly_Wide_Over.c3q o8 y11 o15),0⟩,.cut ⟨[],[],(poly_Wide_Over.c4p o8 o15 y11),0,.normal,(poly_Wide_Over.c4q o8 (.inr y23)),0⟩,.cutR 18 ⟨[],[],(poly_Wide_Over.c5p o8 y23),0,.normal,(poly_Wide_Over.c5q o8 y23 o26),0⟩,fF,.cutR 20 ⟨[],[],(poly_Wide_Over.c6p o8 y23),0,.normal,(poly_Wide_Over.c6q y23 o30),0⟩,fF],[],via (cutP (aI tv0 e1) [(0,0)] (poly_Wide_Over.c1p a0 a1) (((poly_Wide_Over.c1_ok k a0 a1).ap e6)) (cutP tv0 [(0,0)] (poly_Wide_Over.c2p a0 a1 o5) (((poly_Wide_Over.c2_ok k a0 a1 o5).ap e9)) (cutP (aI (aI tv0 e10) e12) [] (poly_Wide_Over.c3p o8 y11) (((poly_Wide_Over.c3_ok k o8 y11).ap e16)) (cutP tv0 [] (poly_Wide_Over.c4p o8 o15 y11) (((poly_Wide_Over.c4_ok k o8 o15 y11).ap (e20.trans (congrArg some e24)))) (cutP tv0 [] (poly_Wide_Over.c5p o8 y23) (((poly_Wide_Over.c5_ok k o8 y23).ap e27)) (cutP (aI tv0 e28) [] (poly_Wide_Over.c6p o8 y23) (((poly_Wide_Over.c6_ok k o8 y23).ap e31)) (retP (aI tv0 e32) (.more (.dp T2) (.one (.dp T2))) (((0:Int),(2:Int)):(Int × Int))))))))) (by kernel_rfl)⟩))))))
theorem poly_Wide_Over.ok (k:Nat):FnOk PR 68 (poly_Wide_Over.sp k) :=
 fn_ok (poly_Wide_Over.cok k) hmix Tryz.func68 (code:=poly_Wide_Over.code) (by kernel_rfl) (by kernel_rfl) (by kernel_rfl) rfl rfl (by kernel_rfl) (by kernel_rfl) (by kernel_rfl) (fun x=>Nat.le_of_ble_eq_true (by kernel_rfl)) fun x y hy=>(poly_Wide_Over.way k x.1 x.2.1).ap hy
noncomputable def slices_IndexFunc.code:Code:=Func.cd Tryz.f184
def slices_IndexFunc.c1 (k:Nat) (a0:(List V26)) (a1:((V26 × Unit)→Option Bool)):Nat→Int→Option (Int ⊕ Unit)
 | 0,_=>none
 | n+1,v1 =>
  bif' (ilt v1 (len a0))
  (req (inL v1 a0) <|bnd (a1 ((el Z26 a0 v1),())) fun y4 =>
  bif' y4
  (some (.inl v1))
  (slices_IndexFunc.c1 k a0 a1 n (iadd .i64 v1 1)))
  (some (.inr ()))
def slices_IndexFunc (k:Nat) (a0:(List V26)) (a1:((V26 × Unit)→Option Bool)):Option Int :=
 bnd (slices_IndexFunc.c1 k a0 a1 k 0) fun o7 =>
 two o7 (fun y9 =>
 some y9) (fun y11 =>
 some (-1))
noncomputable def slices_IndexFunc.sp (k:Nat):Go.Sx.Spec:=⟨(.pair T56 (.pair (.fn (.pair T26 .unit) T4) .unit)),(.one (.dp T2)),fun x=>slices_IndexFunc k x.1 x.2.1,false⟩
noncomputable def slices_IndexFunc.cx (k:Nat):Go.Sx.Ctx:=⟨tys,[],eqs,19,0,[],false⟩
theorem slices_IndexFunc.cok (k:Nat):CtxOk PR (slices_IndexFunc.cx k):=ctx_ok tysOk eqsOk FnsOk.nil HsOk.nil
noncomputable def slices_IndexFunc.c1p (a0:(List V26)) (a1:((V26 × Unit)→Option Bool)) (v1:Int):SL:=⟨[(0,(.val T56 a0)),(1,(.val (.fn (.pair T26 .unit) T4) a1)),(7,(.val T2 (len a0))),(8,(.val T2 v1))],[]⟩
noncomputable def slices_IndexFunc.c1q (o:Int ⊕ Unit):SL:=(fun o=>two o (fun v=>⟨[(4,(.val T2 v))],[]⟩) (fun v=>⟨[],[]⟩)) o
noncomputable def slices_IndexFunc.c1x (o:Int ⊕ Unit):Ex:=(fun o=>two o (fun _=>.ret) (fun _=>(.exit 0))) o
noncomputable def slices_IndexFunc.c1n (o:Int ⊕ Unit):Nat:=(fun o=>two o (fun _=>0) (fun _=>0)) o
theorem slices_IndexFunc.c1_ok (k:Nat) (a0:(List V26)) (a1:((V26 × Unit)→Option Bool)):∀ (n:Nat) (v1:Int),Owp (slices_IndexFunc.c1 k a0 a1 n v1) fun o=>LTriple PR (slices_IndexFunc.cx k) (sub slices_IndexFunc.code [1,0,1,0,0]) 0 (slices_IndexFunc.c1p a0 a1 v1) (slices_IndexFunc.c1x o) (slices_IndexFunc.c1n o) (slices_IndexFunc.c1q o)
 | 0,_=>fun _ h=>nomatch h
 | n+1,v1=>Owp.of (slices_IndexFunc.c1.eq_2 ..) (
  oF (fun e2 =>
  oR fun h3 =>
  oB fun y4 e5 =>
  oF (fun e6 =>
  oS (loop_exit (slices_IndexFunc.cok k) hmix [tT,rS T4 y4,tT] [] [] exne_ret (via (finP (aI (aI (aI (aI tv0 e2) h3) e5) e6) .ret [] (slices_IndexFunc.c1q (.inl v1))) (by kernel_rfl)))) (fun e6 =>
  fun y hy=>loop_back (slices_IndexFunc.cok k) hmix 0 (slices_IndexFunc.c1p a0 a1 (iadd .i64 v1 (1:Int))) [tT,rS T4 y4,fF] [] [] (via (finP (aI (aI (aI (aI tv0 e2) h3) e5) e6) .normal [] (slices_IndexFunc.c1p a0 a1 (iadd .i64 v1 (1:Int)))) (by kernel_rfl)) ((slices_IndexFunc.c1_ok k a0 a1 n (iadd .i64 v1 (1:Int))).ap hy))) (fun e2 =>
  oS (loop_exit (slices_IndexFunc.cok k) hmix [fF] [] [] (exne 0) (via (finP (aI tv0 e2) (.exit 0) [] (slices_IndexFunc.c1q (.inr ()))) (by kernel_rfl)))))
theorem slices_IndexFunc.way (k:Nat) (a0:(List V26)) (a1:((V26 × Unit)→Option Bool)):Owp (slices_IndexFunc k a0 a1) fun y=>∃ w c0,exec PR (slices_IndexFunc.cx k) slices_IndexFunc.code 0 (entry (.pair T56 (.pair (.fn (.pair T26 .unit) T4) .unit)) (a0,a1,())).st w (Ret (slices_IndexFunc.cx k) Tryz.f184 c0 (.one (.dp T2)) y):=by
 unfold slices_IndexFunc; exact
  oB fun o7 e8 =>
  Owp.two (fun y9 e10 =>
  oS (⟨[.cut ⟨[],[],(slices_IndexFunc.c1p a0 a1 (0:Int)),0,.ret,(slices_IndexFunc.c1q (.inl y9)),0⟩],[],via (cutP tv0 [] (slices_IndexFunc.c1p a0 a1 (0:Int)) (((slices_IndexFunc.c1_ok k a0 a1 k (0:Int)).ap (e8.trans (congrArg some e10))).triple) (retP tv0 (.one (.dp T2)) (y9:Int))) (by kernel_rfl)⟩)) (fun y11 e12 =>
  oS (⟨[.cut ⟨[],[],(slices_IndexFunc.c1p a0 a1 (0:Int)),0,(.exit 0),(slices_IndexFunc.c1q (.inr ())),0⟩],[],via (cutP tv0 [] (slices_IndexFunc.c1p a0 a1 (0:Int)) (((slices_IndexFunc.c1_ok k a0 a1 k (0:Int)).ap (e8.trans (congrArg some e12))).triple) (retP tv0 (.one (.dp T2)) ((-1:Int):Int))) (by kernel_rfl)⟩))
theorem slices_IndexFunc.ok (k:Nat):FnOk PR 184 (slices_IndexFunc.sp k) :=
 fn_ok (slices_IndexFunc.cok k) hmix Tryz.func184 (code:=slices_IndexFunc.code) (by kernel_rfl) (by kernel_rfl) (by kernel_rfl) rfl rfl (by kernel_rfl) (by kernel_rfl) (by kernel_rfl) (fun x=>Nat.le_of_ble_eq_true (by kernel_rfl)) fun x y hy=>(slices_IndexFunc.way k x.1 x.2.1).ap hy
noncomputable def slices_ContainsFunc.code:Code:=Func.cd Tryz.f134
def slices_ContainsFunc (k:Nat) (a0:(List V26)) (a1:((V26 × Unit)→Option Bool)):Option Bool :=
 bnd (slices_IndexFunc k a0 a1) fun y1 =>
 some (ige y1 0)
noncomputable def slices_ContainsFunc.sp (k:Nat):Go.Sx.Spec:=⟨(.pair T56 (.pair (.fn (.pair T26 .unit) T4) .unit)),(.one (.dp T4)),fun x=>slices_ContainsFunc k x.1 x.2.1,false⟩
noncomputable def slices_ContainsFunc.cx (k:Nat):Go.Sx.Ctx:=⟨tys,[(184,slices_IndexFunc.sp k)],eqs,9,0,[],false⟩
theorem slices_ContainsFunc.cok (k:Nat):CtxOk PR (slices_ContainsFunc.cx k):=ctx_ok tysOk eqsOk (fC (slices_IndexFunc.ok k) FnsOk.nil) HsOk.nil
theorem slices_ContainsFunc.way (k:Nat) (a0:(List V26)) (a1:((V26 × Unit)→Option Bool)):Owp (slices_ContainsFunc k a0 a1) fun y=>∃ w c0,exec PR (slices_ContainsFunc.cx k) slices_ContainsFunc.code 0 (entry (.pair T56 (.pair (.fn (.pair T26 .unit) T4) .unit)) (a0,a1,())).st w (Ret (slices_ContainsFunc.cx k) Tryz.f134 c0 (.one (.dp T4)) y):=by
 unfold slices_ContainsFunc; exact
  oB fun y1 e2 =>
  oS (⟨[rS T2 y1],[],via (retP (aI tv0 e2) (.one (.dp T4)) ((ige y1 (0:Int)):Bool)) (by kernel_rfl)⟩)
theorem slices_ContainsFunc.ok (k:Nat):FnOk PR 134 (slices_ContainsFunc.sp k) :=
 fn_ok (slices_ContainsFunc.cok k) hmix Tryz.func134 (code:=slices_ContainsFunc.code) (by kernel_rfl) (by kernel_rfl) (by kernel_rfl) rfl rfl (by kernel_rfl) (by kernel_rfl) (by kernel_rfl) (fun x=>Nat.le_of_ble_eq_true (by kernel_rfl)) fun x y hy=>(slices_ContainsFunc.way k x.1 x.2.1).ap hy
noncomputable def poly_within.code:Code:=Func.cd Tryz.f162
def poly_within (k:Nat) (a0:V26):Option Bool :=
 bif' (ige a0.1 (-65536000))
 (bif' (ile a0.1 65536000)
  (bif' (ige a0.2.1 (-65536000))
  (some (ile a0.2.1 65536000))
  (some false))
  (some false))
 (some false)
noncomputable def poly_within.sp (k:Nat):Go.Sx.Spec:=⟨(.pair T26 .unit),(.one (.dp T4)),fun x=>poly_within k x.1,false⟩
noncomputable def poly_within.cx (k:Nat):Go.Sx.Ctx:=⟨tys,[],eqs,21,0,[],false⟩
theorem poly_within.cok (k:Nat):CtxOk PR (poly_within.cx k):=ctx_ok tysOk eqsOk FnsOk.nil HsOk.nil
theorem poly_within.way (k:Nat) (a0:V26):Owp (poly_within k a0) fun y=>∃ w c0,exec PR (poly_within.cx k) poly_within.code 0 (entry (.pair T26 .unit) (a0,())).st w (Ret (poly_within.cx k) Tryz.f162 c0 (.one (.dp T4)) y):=by
 unfold poly_within; exact
  oF (fun e1 =>
  oF (fun e2 =>
  oF (fun e3 =>
  oS (⟨[tT,tT,tT,tT,tT,tT,tT,tT,tT,tT,tT,tT],[],via (retP (aI (aI (aI (aI (aI (aI (aI (aI (aI (aI (aI (aI tv0 e1) e1) e1) e1) e2) e2) e2) e2) e3) e3) e3) e3) (.one (.dp T4)) ((ile a0.2.1 (65536000:Int)):Bool)) (by kernel_rfl)⟩)) (fun e3 =>
  oS (⟨[tT,tT,tT,tT,tT,tT,tT,tT,fF,fF,fF,fF],[],via (retP (aI (aI (aI (aI (aI (aI (aI (aI (aI (aI (aI (aI tv0 e1) e1) e1) e1) e2) e2) e2) e2) e3) e3) e3) e3) (.one (.dp T4)) (false:Bool)) (by kernel_rfl)⟩))) (fun e2 =>
  oS (⟨[tT,tT,tT,tT,fF,fF,fF,fF,fF,fF,fF,fF],[],via (retP (aI (aI (aI (aI (aI (aI (aI (aI (aI (aI (aI (aI tv0 e1) e1) e1) e1) e2) e2) e2) e2) ff) ff) ff) ff) (.one (.dp T4)) (false:Bool)) (by kernel_rfl)⟩))) (fun e1 =>
  oS (⟨[fF,fF,fF,fF,fF,fF,fF,fF,fF,fF,fF,fF],[],via (retP (aI (aI (aI (aI (aI (aI (aI (aI (aI (aI (aI (aI tv0 e1) e1) e1) e1) ff) ff) ff) ff) ff) ff) ff) ff) (.one (.dp T4)) (false:Bool)) (by kernel_rfl)⟩))
theorem poly_within.ok (k:Nat):FnOk PR 162 (poly_within.sp k) :=
 fn_ok (poly_within.cok k) hmix Tryz.func162 (code:=poly_within.code) (by kernel_rfl) (by kernel_rfl) (by kernel_rfl) rfl rfl (by kernel_rfl) (by kernel_rfl) (by kernel_rfl) (fun x=>Nat.le_of_ble_eq_true (by kernel_rfl)) fun x y hy=>(poly_within.way k x.1).ap hy
noncomputable def poly_Check_1.code:Code:=Func.cd Tryz.f161
def poly_Check_1 (k:Nat) (a0:V26):Option Bool :=
 bnd (poly_within k a0) fun y1 =>
 some (!y1)
noncomputable def poly_Check_1.sp (k:Nat):Go.Sx.Spec:=⟨(.pair T26 .unit),(.one (.dp T4)),fun x=>poly_Check_1 k x.1,false⟩
noncomputable def poly_Check_1.cx (k:Nat):Go.Sx.Ctx:=⟨tys,[(162,poly_within.sp k)],eqs,6,0,[],false⟩
theorem poly_Check_1.cok (k:Nat):CtxOk PR (poly_Check_1.cx k):=ctx_ok tysOk eqsOk (fC (poly_within.ok k) FnsOk.nil) HsOk.nil
theorem poly_Check_1.way (k:Nat) (a0:V26):Owp (poly_Check_1 k a0) fun y=>∃ w c0,exec PR (poly_Check_1.cx k) poly_Check_1.code 0 (entry (.pair T26 .unit) (a0,())).st w (Ret (poly_Check_1.cx k) Tryz.f161 c0 (.one (.dp T4)) y):=by
 unfold poly_Check_1; exact
  oB fun y1 e2 =>
  oS (⟨[rS T4 y1],[],via (retP (aI tv0 e2) (.one (.dp T4)) ((!y1):Bool)) (by kernel_rfl)⟩)
theorem poly_Check_1.ok (k:Nat):FnOk PR 161 (poly_Check_1.sp k) :=
 fn_ok (poly_Check_1.cok k) hmix Tryz.func161 (code:=poly_Check_1.code) (by kernel_rfl) (by kernel_rfl) (by kernel_rfl) rfl rfl (by kernel_rfl) (by kernel_rfl) (by kernel_rfl) (fun x=>Nat.le_of_ble_eq_true (by kernel_rfl)) fun x y hy=>(poly_Check_1.way k x.1).ap hy
noncomputable def poly_side.code:Code:=Func.cd Tryz.f163
def poly_side (k:Nat) (a0 a1 a2:V26):Option Int :=
 some (isub .i64 (imul .i64 (isub .i64 a1.1 a0.1) (isub .i64 a2.2.1 a0.2.1)) (imul .i64 (isub .i64 a1.2.1 a0.2.1) (isub .i64 a2.1 a0.1)))
noncomputable def poly_side.sp (k:Nat):Go.Sx.Spec:=⟨(.pair T26 T74),(.one (.dp T2)),fun x=>poly_side k x.1 x.2.1 x.2.2.1,false⟩
noncomputable def poly_side.cx (k:Nat):Go.Sx.Ctx:=⟨tys,[],eqs,30,0,[],false⟩
theorem poly_side.cok (k:Nat):CtxOk PR (poly_side.cx k):=ctx_ok tysOk eqsOk FnsOk.nil HsOk.nil
theorem poly_side.way (k:Nat) (a0 a1 a2:V26):Owp (poly_side k a0 a1 a2) fun y=>∃ w c0,exec PR (poly_side.cx k) poly_side.code 0 (entry (.pair T26 T74) (a0,a1,a2,())).st w (Ret (poly_side.cx k) Tryz.f163 c0 (.one (.dp T2)) y):=by
 unfold poly_side; exact
  oS (⟨[],[],via (retP tv0 (.one (.dp T2)) ((isub .i64 (imul .i64 (isub .i64 a1.1 a0.1) (isub .i64 a2.2.1 a0.2.1)) (imul .i64 (isub .i64 a1.2.1 a0.2.1) (isub .i64 a2.1 a0.1))):Int)) (by kernel_rfl)⟩)
theorem poly_side.ok (k:Nat):FnOk PR 163 (poly_side.sp k) :=
 fn_ok (poly_side.cok k) hmix Tryz.func163 (code:=poly_side.code) (by kernel_rfl) (by kernel_rfl) (by kernel_rfl) rfl rfl (by kernel_rfl) (by kernel_rfl) (by kernel_rfl) (fun x=>Nat.le_of_ble_eq_true (by kernel_rfl)) fun x y hy=>(poly_side.way k x.1 x.2.1 x.2.2.1).ap hy
noncomputable def poly_Check.code:Code:=Func.cd Tryz.f121
def poly_Check.c3 (k:Nat) (a0:(List V26)) (v6 v11:Int):Option (Bool) :=
 bif' (ine v11 v6)
 (req (nz (len a0)) <|bif' (ine v11 (irem (iadd .i64 v6 1) (len a0)))
  (bnd (poly_side k (el Z26 a0 v6) (el Z26 a0 (irem (iadd .i64 v6 1) (len a0))) (el Z26 a0 v11)) fun y17 =>
  some (ile y17 0))
  (some false))
 (some false)
def poly_Check.c2 (k:Nat) (a0:(List V26)) (v6:Int):Nat→Int→Option (Unit ⊕ Unit)
 | 0,_=>none
 | n+1,v11 =>
  bif' (ilt v11 (len a0))
  (req (inL v11 a0) <|bnd (poly_Check.c3 k a0 v6 v11) fun o19 =>
  bif' o19
  (some (.inl ()))
  (poly_Check.c2 k a0 v6 n (iadd .i64 v11 1)))
  (some (.inr ()))
def poly_Check.c1 (k:Nat) (a0:(List V26)):Nat→Int→Option (Unit ⊕ Unit)
 | 0,_=>none
 | n+1,v6 =>
  bif' (ilt v6 (len a0))
  (req (inL v6 a0) <|req (nz (len a0)) <|req (inL (irem (iadd .i64 v6 1) (len a0)) a0) <|bnd (poly_Check.c2 k a0 v6 k 0) fun o22 =>
  two o22 (fun y24 =>
  some (.inl ())) (fun y26 =>
  poly_Check.c1 k a0 n (iadd .i64 v6 1)))
  (some (.inr ()))
def poly_Check (k:Nat) (a0:(List V26)):Option Int :=
 bif' (igt (len a0) 8)
 (some 2)
 (bif' (ilt (len a0) 3)
  (some 3)
  (bnd (slices_ContainsFunc k a0 (fun x:(V26 × Unit)=>poly_Check_1 k (x.1))) fun y3 =>
  bif' y3
  (some 1)
  (bnd (poly_Check.c1 k a0 k 0) fun o28 =>
  two o28 (fun y30 =>
  some 3) (fun y32 =>
  some 0))))
noncomputable def poly_Check.sp (k:Nat):Go.Sx.Spec:=⟨(.pair T56 .unit),(.one (.dp T2)),fun x=>poly_Check k x.1,false⟩
noncomputable def poly_Check.cx (k:Nat):Go.Sx.Ctx:=⟨tys,[(134,slices_ContainsFunc.sp k),(161,poly_Check_1.sp k),(163,poly_side.sp k)],eqs,59,0,[],false⟩
theorem poly_Check.cok (k:Nat):CtxOk PR (poly_Check.cx k):=ctx_ok tysOk eqsOk (fC (slices_ContainsFunc.ok k) (fC (poly_Check_1.ok k) (fC (poly_side.ok k) FnsOk.nil))) HsOk.nil
noncomputable def poly_Check.c3p (a0:(List V26)) (v6 v11:Int):SL:=⟨[(0,(.val T56 a0)),(3,(.val T2 v6)),(4,(.val .ptr ⟨0,0,(0:Int),0,0⟩)),(5,(.val .ptr ⟨1,0,(0:Int),0,0⟩)),(6,(.val T2 v11)),(7,(.val .ptr ⟨2,0,(0:Int),0,0⟩)),(16,(.val T56 a0)),(17,(.val T2 (len a0))),(18,(.val T2 v6)),(31,(.val T56 a0)),(32,(.val T2 (len a0))),(33,(.val T2 v11))],[(0,.cells T26 (el Z26 a0 v6)),(1,.cells T26 (el Z26 a0 (irem (iadd .i64 v6 (1:Int)) (len a0)))),(2,.cells T26 (el Z26 a0 v11))]⟩
noncomputable def poly_Check.c3q (a0:(List V26)) (v6 v11:Int) (o:Bool):SL:=(fun v=>⟨[(0,(.val T56 a0)),(3,(.val T2 v6)),(4,(.val .ptr ⟨0,0,(0:Int),0,0⟩)),(5,(.val .ptr ⟨1,0,(0:Int),0,0⟩)),(16,(.val T56 a0)),(17,(.val T2 (len a0))),(18,(.val T2 v6)),(31,(.val T56 a0)),(32,(.val T2 (len a0))),(33,(.val T2 v11)),(56,(.val T4 v))],[(0,.cells T26 (el Z26 a0 v6)),(1,.cells T26 (el Z26 a0 (irem (iadd .i64 v6 (1:Int)) (len a0))))]⟩) o
noncomputable def poly_Check.c3x (o:Bool):Ex:=(fun _=>.normal) o
noncomputable def poly_Check.c3n (o:Bool):Nat:=(fun _=>2) o
theorem poly_Check.c3_ok (k:Nat) (a0:(List V26)) (v6 v11:Int):Owp (poly_Check.c3 k a0 v6 v11) fun o=>Triple PR (poly_Check.cx k) (sub poly_Check.code [1,1,1,1,0,1,0,0,1,1,0,0,1,1,1,0,0,1,1,0,0,1,0]) 3 (poly_Check.c3p a0 v6 v11) (poly_Check.c3x o) (poly_Check.c3n o) (poly_Check.c3q a0 v6 v11 o):=by
 unfold poly_Check.c3; exact
  oF (fun e14 =>
  oR fun h15 =>
  oF (fun e16 =>
  oB fun y17 e18 =>
  oS (tW (poly_Check.cok k) hmix [tT,tT,tT,tT,tT,tT,tT,tT,tT,tT,tT,tT,rS T2 y17,tT,tT] [] [(0,0),(1,1)] (via (finP (aI (aI (aI (aI (aI (aI (aI (aI (aI (aI (aI (aI (aI (aI tv0 e14) e14) e14) e14) e14) (aI e14 h15)) e14) e14) e16) e16) e16) (aI e16 e18)) e16) e16) .normal [(0,0),(1,1)] (poly_Check.c3q a0 v6 v11 (ile y17 (0:Int)))) (by kernel_rfl)))) (fun e16 =>
  oS (tW (poly_Check.cok k) hmix [tT,tT,tT,tT,tT,tT,tT,tT,fF,fF,fF,fF,tT,fF,fF] [] [(0,0),(1,1)] (via (finP (aI (aI (aI (aI (aI (aI (aI (aI (aI (aI (aI (aI (aI (aI tv0 e14) e14) e14) e14) e14) (aI e14 h15)) e14) e14) e16) e16) e16) e16) e16) e16) .normal [(0,0),(1,1)] (poly_Check.c3q a0 v6 v11 false)) (by kernel_rfl))))) (fun e14 =>
  oS (tW (poly_Check.cok k) hmix [fF,fF,fF,fF,fF,fF,fF,fF,fF,fF,fF,fF,tT,fF,fF] [] [(0,0),(1,1)] (via (finP (aI (aI (aI (aI (aI (aI (aI (aI (aI (aI (aI (aI (aI (aI tv0 e14) e14) e14) e14) e14) e14) e14) e14) ff) ff) ff) ff) ff) ff) .normal [(0,0),(1,1)] (poly_Check.c3q a0 v6 v11 false)) (by kernel_rfl))))
noncomputable def poly_Check.c2p (a0:(List V26)) (v6 v11:Int):SL:=⟨[(0,(.val T56 a0)),(3,(.val T2 v6)),(4,(.val .ptr ⟨0,0,(0:Int),0,0⟩)),(5,(.val .ptr ⟨1,0,(0:Int),0,0⟩)),(16,(.val T56 a0)),(17,(.val T2 (len a0))),(18,(.val T2 v6)),(31,(.val T56 a0)),(32,(.val T2 (len a0))),(33,(.val T2 v11))],[(0,.cells T26 (el Z26 a0 v6)),(1,.cells T26 (el Z26 a0 (irem (iadd .i64 v6 (1:Int)) (len a0))))]⟩
noncomputable def poly_Check.c2q (a0:(List V26)) (v6:Int) (o:Unit ⊕ Unit):SL:=(fun o=>two o (fun v=>⟨[(2,(.val T2 (3:Int)))],[]⟩) (fun v=>⟨[(0,(.val T56 a0)),(16,(.val T56 a0)),(17,(.val T2 (len a0))),(18,(.val T2 v6))],[]⟩)) o
noncomputable def poly_Check.c2x (o:Unit ⊕ Unit):Ex:=(fun o=>two o (fun _=>.ret) (fun _=>(.exit 2))) o
noncomputable def poly_Check.c2n (o:Unit ⊕ Unit):Nat:=(fun o=>two o (fun _=>0) (fun _=>0)) o
theorem poly_Check.c2_ok (k:Nat) (a0:(List V26)) (v6:Int):∀ (n:Nat) (v11:Int),Owp (poly_Check.c2 k a0 v6 n v11) fun o=>LTriple PR (poly_Check.cx k) (sub poly_Check.code [1,1,1,1,0,1,0,0,1,1,0,0,1,1,1,0,0]) 2 (poly_Check.c2p a0 v6 v11) (poly_Check.c2x o) (poly_Check.c2n o) (poly_Check.c2q a0 v6 o)
 | 0,_=>fun _ h=>nomatch h
 | n+1,v11=>Owp.of (poly_Check.c2.eq_2 ..) (
  oF (fun e12 =>
  oR fun h13 =>
  oB fun o19 e20 =>
  oF (fun e21 =>
  oS (loop_exit (poly_Check.cok k) hmix [tT,.cutR 14 ⟨[],[(0,0),(1,1),(2,6)],(poly_Check.c3p a0 v6 v11),3,.normal,(poly_Check.c3q a0 v6 v11 o19),2⟩,tT] [] [] exne_ret (via (cutP (aI (aI tv0 e12) h13) [(0,0),(1,1),(2,6)] (poly_Check.c3p a0 v6 v11) (((poly_Check.c3_ok k a0 v6 v11).ap e20)) (finP (aI tv0 e21) .ret [] (poly_Check.c2q a0 v6 (.inl ())))) (by kernel_rfl)))) (fun e21 =>
  fun y hy=>loop_back (poly_Check.cok k) hmix 2 (poly_Check.c2p a0 v6 (iadd .i64 v11 (1:Int))) [tT,.cutR 14 ⟨[],[(0,0),(1,1),(2,6)],(poly_Check.c3p a0 v6 v11),3,.normal,(poly_Check.c3q a0 v6 v11 o19),2⟩,fF] [] [(0,0),(1,1)] (via (cutP (aI (aI tv0 e12) h13) [(0,0),(1,1),(2,6)] (poly_Check.c3p a0 v6 v11) (((poly_Check.c3_ok k a0 v6 v11).ap e20)) (finP (aI tv0 e21) .normal [(0,0),(1,1)] (poly_Check.c2p a0 v6 (iadd .i64 v11 (1:Int))))) (by kernel_rfl)) ((poly_Check.c2_ok k a0 v6 n (iadd .i64 v11 (1:Int))).ap hy))) (fun e12 =>
  oS (loop_exit (poly_Check.cok k) hmix [fF] [] [] (exne 2) (via (finP (aI tv0 e12) (.exit 2) [] (poly_Check.c2q a0 v6 (.inr ()))) (by kernel_rfl)))))
noncomputable def poly_Check.c1p (a0:(List V26)) (v6:Int):SL:=⟨[(0,(.val T56 a0)),(16,(.val T56 a0)),(17,(.val T2 (len a0))),(18,(.val T2 v6))],[]⟩
noncomputable def poly_Check.c1q (o:Unit ⊕ Unit):SL:=(fun o=>two o (fun v=>⟨[(2,(.val T2 (3:Int)))],[]⟩) (fun v=>⟨[],[]⟩)) o
noncomputable def poly_Check.c1x (o:Unit ⊕ Unit):Ex:=(fun o=>two o (fun _=>.ret) (fun _=>(.exit 0))) o
noncomputable def poly_Check.c1n (o:Unit ⊕ Unit):Nat:=(fun o=>two o (fun _=>0) (fun _=>0)) o
theorem poly_Check.c1_ok (k:Nat) (a0:(List V26)):∀ (n:Nat) (v6:Int),Owp (poly_Check.c1 k a0 n v6) fun o=>LTriple PR (poly_Check.cx k) (sub poly_Check.code [1,1,1,1,0,1,0,0]) 0 (poly_Check.c1p a0 v6) (poly_Check.c1x o) (poly_Check.c1n o) (poly_Check.c1q o)
 | 0,_=>fun _ h=>nomatch h
 | n+1,v6=>Owp.of (poly_Check.c1.eq_2 ..) (
  oF (fun e7 =>
  oR fun h8 =>
  oR fun h9 =>
  oR fun h10 =>
  oB fun o22 e23 =>
  Owp.two (fun y24 e25 =>
  oS (loop_exit (poly_Check.cok k) hmix [tT,.cut ⟨[],[(0,4),(1,15)],(poly_Check.c2p a0 v6 (0:Int)),2,.ret,(poly_Check.c2q a0 v6 (.inl ())),0⟩] [] [] exne_ret (via (cutP (aI (aI (aI (aI tv0 e7) h8) h9) h10) [(0,4),(1,15)] (poly_Check.c2p a0 v6 (0:Int)) (((poly_Check.c2_ok k a0 v6 k (0:Int)).ap (e23.trans (congrArg some e25))).triple) (finP tv0 .ret [] (poly_Check.c1q (.inl ())))) (by kernel_rfl)))) (fun y26 e27 =>
  fun y hy=>loop_back (poly_Check.cok k) hmix 0 (poly_Check.c1p a0 (iadd .i64 v6 (1:Int))) [tT,.cut ⟨[],[(0,4),(1,15)],(poly_Check.c2p a0 v6 (0:Int)),2,(.exit 2),(poly_Check.c2q a0 v6 (.inr ())),0⟩] [] [] (via (cutP (aI (aI (aI (aI tv0 e7) h8) h9) h10) [(0,4),(1,15)] (poly_Check.c2p a0 v6 (0:Int)) (((poly_Check.c2_ok k a0 v6 k (0:Int)).ap (e23.trans (congrArg some e27))).triple) (finP tv0 .normal [] (poly_Check.c1p a0 (iadd .i64 v6 (1:Int))))) (by kernel_rfl)) ((poly_Check.c1_ok k a0 n (iadd .i64 v6 (1:Int))).ap hy))) (fun e7 =>
  oS (loop_exit (poly_Check.cok k) hmix [fF] [] [] (exne 0) (via (finP (aI tv0 e7) (.exit 0) [] (poly_Check.c1q (.inr ()))) (by kernel_rfl)))))
theorem poly_Check.way (k:Nat) (a0:(List V26)):Owp (poly_Check k a0) fun y=>∃ w c0,exec PR (poly_Check.cx k) poly_Check.code 0 (entry (.pair T56 .unit) (a0,())).st w (Ret (poly_Check.cx k) Tryz.f121 c0 (.one (.dp T2)) y):=by
 unfold poly_Check; exact
  oF (fun e1 =>
  oS (⟨[tT],[],via (retP (aI tv0 e1) (.one (.dp T2)) ((2:Int):Int)) (by kernel_rfl)⟩)) (fun e1 =>
  oF (fun e2 =>
  oS (⟨[fF,tT],[],via (retP (aI (aI tv0 e1) e2) (.one (.dp T2)) ((3:Int):Int)) (by kernel_rfl)⟩)) (fun e2 =>
  oB fun y3 e4 =>
  oF (fun e5 =>
  oS (⟨[fF,fF,rS T4 y3,tT],[],via (retP (aI (aI (aI (aI tv0 e1) e2) e4) e5) (.one (.dp T2)) ((1:Int):Int)) (by kernel_rfl)⟩)) (fun e5 =>
  oB fun o28 e29 =>
  Owp.two (fun y30 e31 =>
  oS (⟨[fF,fF,rS T4 y3,fF,.cut ⟨[],[],(poly_Check.c1p a0 (0:Int)),0,.ret,(poly_Check.c1q (.inl ())),0⟩],[],via (cutP (aI (aI (aI (aI tv0 e1) e2) e4) e5) [] (poly_Check.c1p a0 (0:Int)) (((poly_Check.c1_ok k a0 k (0:Int)).ap (e29.trans (congrArg some e31))).triple) (retP tv0 (.one (.dp T2)) ((3:Int):Int))) (by kernel_rfl)⟩)) (fun y32 e33 =>
  oS (⟨[fF,fF,rS T4 y3,fF,.cut ⟨[],[],(poly_Check.c1p a0 (0:Int)),0,(.exit 0),(poly_Check.c1q (.inr ())),0⟩],[],via (cutP (aI (aI (aI (aI tv0 e1) e2) e4) e5) [] (poly_Check.c1p a0 (0:Int)) (((poly_Check.c1_ok k a0 k (0:Int)).ap (e29.trans (congrArg some e33))).triple) (retP tv0 (.one (.dp T2)) ((0:Int):Int))) (by kernel_rfl)⟩)))))
theorem poly_Check.ok (k:Nat):FnOk PR 121 (poly_Check.sp k) :=
 fn_ok (poly_Check.cok k) hmix Tryz.func121 (code:=poly_Check.code) (by kernel_rfl) (by kernel_rfl) (by kernel_rfl) rfl rfl (by kernel_rfl) (by kernel_rfl) (by kernel_rfl) (fun x=>Nat.le_of_ble_eq_true (by kernel_rfl)) fun x y hy=>(poly_Check.way k x.1).ap hy
theorem bits_Add64.ok (k:Nat):FnOk PR 191 (bits_Add64.sp k):=add64_ok Tryz.func191 (by kernel_rfl) (by kernel_rfl) (by kernel_rfl) (by kernel_rfl) k
noncomputable def poly_Wide_Plus.code:Code:=Func.cd Tryz.f164
def poly_Wide_Plus (k:Nat) (a0 a1:V115):Option V115 :=
 bnd (bits_Add64 k a0.2.1 a1.2.1 0) fun y1 =>
 some ((iadd .i64 (iadd .i64 a0.1 a1.1) (icv .i64 y1.2)),y1.1,())
noncomputable def poly_Wide_Plus.sp (k:Nat):Go.Sx.Spec:=⟨(.pair T115 (.pair T115 .unit)),(.one (.dp T115)),fun x=>poly_Wide_Plus k x.1 x.2.1,false⟩
noncomputable def poly_Wide_Plus.cx (k:Nat):Go.Sx.Ctx:=⟨tys,[(191,bits_Add64.sp k)],eqs,25,0,[],false⟩
theorem poly_Wide_Plus.cok (k:Nat):CtxOk PR (poly_Wide_Plus.cx k):=ctx_ok tysOk eqsOk (fC (bits_Add64.ok k) FnsOk.nil) HsOk.nil
theorem poly_Wide_Plus.way (k:Nat) (a0 a1:V115):Owp (poly_Wide_Plus k a0 a1) fun y=>∃ w c0,exec PR (poly_Wide_Plus.cx k) poly_Wide_Plus.code 0 (entry (.pair T115 (.pair T115 .unit)) (a0,a1,())).st w (Ret (poly_Wide_Plus.cx k) Tryz.f164 c0 (.one (.dp T115)) y):=by
 unfold poly_Wide_Plus; exact
  oB fun y1 e2 =>
  oS (⟨[.res (.more (.dp T12) (.one (.dp T12))) y1],[],via (retP (aI tv0 e2) (.one (.dp T115)) (((iadd .i64 (iadd .i64 a0.1 a1.1) (icv .i64 y1.2)),y1.1,()):V115)) (by kernel_rfl)⟩)
theorem poly_Wide_Plus.ok (k:Nat):FnOk PR 164 (poly_Wide_Plus.sp k) :=
 fn_ok (poly_Wide_Plus.cok k) hmix Tryz.func164 (code:=poly_Wide_Plus.code) (by kernel_rfl) (by kernel_rfl) (by kernel_rfl) rfl rfl (by kernel_rfl) (by kernel_rfl) (by kernel_rfl) (fun x=>Nat.le_of_ble_eq_true (by kernel_rfl)) fun x y hy=>(poly_Wide_Plus.way k x.1 x.2.1).ap hy
noncomputable def poly_Dot.code:Code:=Func.cd Tryz.f122
def poly_Dot (k:Nat) (a0 a1:V26):Option V115 :=
 bnd (poly_Times k a0.1 a1.1) fun y1 =>
 bnd (poly_Times k a0.2.1 a1.2.1) fun y3 =>
 bnd (poly_Wide_Plus k y1 y3) fun y5 =>
 some y5
noncomputable def poly_Dot.sp (k:Nat):Go.Sx.Spec:=⟨T74,(.one (.dp T115)),fun x=>poly_Dot k x.1 x.2.1,false⟩
noncomputable def poly_Dot.cx (k:Nat):Go.Sx.Ctx:=⟨tys,[(67,poly_Times.sp k),(164,poly_Wide_Plus.sp k)],eqs,16,0,[],false⟩
theorem poly_Dot.cok (k:Nat):CtxOk PR (poly_Dot.cx k):=ctx_ok tysOk eqsOk (fC (poly_Times.ok k) (fC (poly_Wide_Plus.ok k) FnsOk.nil)) HsOk.nil
theorem poly_Dot.way (k:Nat) (a0 a1:V26):Owp (poly_Dot k a0 a1) fun y=>∃ w c0,exec PR (poly_Dot.cx k) poly_Dot.code 0 (entry T74 (a0,a1,())).st w (Ret (poly_Dot.cx k) Tryz.f122 c0 (.one (.dp T115)) y):=by
 unfold poly_Dot; exact
  oB fun y1 e2 =>
  oB fun y3 e4 =>
  oB fun y5 e6 =>
  oS (⟨[rS T115 y1,rS T115 y3,rS T115 y5],[],via (retP (aI (aI (aI tv0 e2) e4) e6) (.one (.dp T115)) (y5:V115)) (by kernel_rfl)⟩)
theorem poly_Dot.ok (k:Nat):FnOk PR 122 (poly_Dot.sp k) :=
 fn_ok (poly_Dot.cok k) hmix Tryz.func122 (code:=poly_Dot.code) (by kernel_rfl) (by kernel_rfl) (by kernel_rfl) rfl rfl (by kernel_rfl) (by kernel_rfl) (by kernel_rfl) (fun x=>Nat.le_of_ble_eq_true (by kernel_rfl)) fun x y hy=>(poly_Dot.way k x.1 x.2.1).ap hy
end Go.Proofs.T1
