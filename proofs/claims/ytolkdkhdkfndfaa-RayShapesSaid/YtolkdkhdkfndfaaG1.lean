import Derived.Test.YtolkdkhdkfndfaaG0
namespace Go.Proofs.T1
open Go Go.Sx Go.Proofs
set_option maxRecDepth 100000
set_option linter.unusedVariables false
noncomputable def slices_IndexFunc.code:Code:=Func.cd Try.f99
def slices_IndexFunc.c1 (k:Nat) (a0:(List V27)) (a1:((V27 × Unit) → Option Bool)):Nat → Int → Option (Int ⊕ Unit)
  | 0,_=>none
  | n+1,v1 =>
   bif' (ilt v1 (len a0))
   (req (inL v1 a0) <|
   bnd (a1 ((el Z27 a0 v1),())) fun y4 =>
   bif' y4
   (some (.inl v1))
   (slices_IndexFunc.c1 k a0 a1 n (iadd .i64 v1 1)))
   (some (.inr ()))
def slices_IndexFunc (k:Nat) (a0:(List V27)) (a1:((V27 × Unit) → Option Bool)):Option Int :=
  bnd (slices_IndexFunc.c1 k a0 a1 k 0) fun o7 =>
  two o7 (fun y9 =>
  some y9) (fun y11 =>
  some (-1))
noncomputable def slices_IndexFunc.sp (k:Nat):Go.Sx.Spec:=⟨(.pair T22 (.pair (.fn (.pair T27 .unit) T4) .unit)),(.one (.dp T2)),fun x=>slices_IndexFunc k x.1 x.2.1,false⟩
noncomputable def slices_IndexFunc.cx (k:Nat):Go.Sx.Ctx:=⟨tys,[],eqs,19,0,[],false⟩
theorem slices_IndexFunc.cok (k:Nat):CtxOk PR (slices_IndexFunc.cx k):=ctx_ok tysOk eqsOk FnsOk.nil HsOk.nil
noncomputable def slices_IndexFunc.c1p (a0:(List V27)) (a1:((V27 × Unit) → Option Bool)) (v1:Int):SL:=⟨[(0,(.val T22 a0)),(1,(.val (.fn (.pair T27 .unit) T4) a1)),(7,(.val T2 (len a0))),(8,(.val T2 v1))],[]⟩
noncomputable def slices_IndexFunc.c1q (o:Int ⊕ Unit):SL:=(fun o=>two o (fun v=>⟨[(4,(.val T2 v))],[]⟩) (fun v=>⟨[],[]⟩)) o
noncomputable def slices_IndexFunc.c1x (o:Int ⊕ Unit):Ex:=(fun o=>two o (fun _=>.ret) (fun _=>(.exit 0))) o
noncomputable def slices_IndexFunc.c1n (o:Int ⊕ Unit):Nat:=(fun o=>two o (fun _=>0) (fun _=>0)) o
theorem slices_IndexFunc.c1_ok (k:Nat) (a0:(List V27)) (a1:((V27 × Unit) → Option Bool)):∀ (n:Nat) (v1:Int),Owp (slices_IndexFunc.c1 k a0 a1 n v1) fun o=>LTriple PR (slices_IndexFunc.cx k) (sub slices_IndexFunc.code [1,0,1,0,0]) 0 (slices_IndexFunc.c1p a0 a1 v1) (slices_IndexFunc.c1x o) (slices_IndexFunc.c1n o) (slices_IndexFunc.c1q o)
  | 0,_=>fun _ h=>nomatch h
  | n+1,v1=>Owp.of (slices_IndexFunc.c1.eq_2 ..) (
   Owp.bif (fun e2 =>
   Owp.req fun h3 =>
   Owp.bnd fun y4 e5 =>
   Owp.bif (fun e6 =>
   Owp.some (loop_exit (slices_IndexFunc.cok k) hmix [tT,rS T4 y4,tT] [] [] exne_ret (via (finP (aI (aI (aI (aI trivial e2) h3) e5) e6) .ret [] (slices_IndexFunc.c1q (.inl v1))) (by kernel_rfl)))) (fun e6 =>
   fun y hy=>loop_back (slices_IndexFunc.cok k) hmix 0 (slices_IndexFunc.c1p a0 a1 (iadd .i64 v1 (1:Int))) [tT,rS T4 y4,fF] [] [] (via (finP (aI (aI (aI (aI trivial e2) h3) e5) e6) .normal [] (slices_IndexFunc.c1p a0 a1 (iadd .i64 v1 (1:Int)))) (by kernel_rfl)) ((slices_IndexFunc.c1_ok k a0 a1 n (iadd .i64 v1 (1:Int))).ap hy))) (fun e2 =>
   Owp.some (loop_exit (slices_IndexFunc.cok k) hmix [fF] [] [] (exne 0) (via (finP (aI trivial e2) (.exit 0) [] (slices_IndexFunc.c1q (.inr ()))) (by kernel_rfl)))))
theorem slices_IndexFunc.way (k:Nat) (a0:(List V27)) (a1:((V27 × Unit) → Option Bool)):Owp (slices_IndexFunc k a0 a1) fun y=>∃ w c0,exec PR (slices_IndexFunc.cx k) slices_IndexFunc.code 0 (entry (.pair T22 (.pair (.fn (.pair T27 .unit) T4) .unit)) (a0,a1,())).st w (Ret (slices_IndexFunc.cx k) Try.f99 c0 (.one (.dp T2)) y):=by
  unfold slices_IndexFunc; exact
   Owp.bnd fun o7 e8 =>
   Owp.two (fun y9 e10 =>
   Owp.some (⟨[.cut ⟨[],[],(slices_IndexFunc.c1p a0 a1 (0:Int)),0,.ret,(slices_IndexFunc.c1q (.inl y9)),0⟩],[],via (cutP trivial [] (slices_IndexFunc.c1p a0 a1 (0:Int)) (((slices_IndexFunc.c1_ok k a0 a1 k (0:Int)).ap (e8.trans (congrArg some e10))).triple) (retP trivial (.one (.dp T2)) (y9:Int))) (by kernel_rfl)⟩)) (fun y11 e12 =>
   Owp.some (⟨[.cut ⟨[],[],(slices_IndexFunc.c1p a0 a1 (0:Int)),0,(.exit 0),(slices_IndexFunc.c1q (.inr ())),0⟩],[],via (cutP trivial [] (slices_IndexFunc.c1p a0 a1 (0:Int)) (((slices_IndexFunc.c1_ok k a0 a1 k (0:Int)).ap (e8.trans (congrArg some e12))).triple) (retP trivial (.one (.dp T2)) ((-1:Int):Int))) (by kernel_rfl)⟩))
theorem slices_IndexFunc.ok (k:Nat):FnOk PR 99 (slices_IndexFunc.sp k) :=
  fn_ok (slices_IndexFunc.cok k) hmix Try.func99 (code:=slices_IndexFunc.code) (by kernel_rfl) (by kernel_rfl) (by kernel_rfl) rfl rfl (by kernel_rfl) (by kernel_rfl) (by kernel_rfl) (fun x=>Nat.le_of_ble_eq_true (by kernel_rfl)) fun x y hy=>(slices_IndexFunc.way k x.1 x.2.1).ap hy
noncomputable def slices_ContainsFunc.code:Code:=Func.cd Try.f23
def slices_ContainsFunc (k:Nat) (a0:(List V27)) (a1:((V27 × Unit) → Option Bool)):Option Bool :=
  bnd (slices_IndexFunc k a0 a1) fun y1 =>
  some (ige y1 0)
noncomputable def slices_ContainsFunc.sp (k:Nat):Go.Sx.Spec:=⟨(.pair T22 (.pair (.fn (.pair T27 .unit) T4) .unit)),(.one (.dp T4)),fun x=>slices_ContainsFunc k x.1 x.2.1,false⟩
noncomputable def slices_ContainsFunc.cx (k:Nat):Go.Sx.Ctx:=⟨tys,[(99,slices_IndexFunc.sp k)],eqs,9,0,[],false⟩
theorem slices_ContainsFunc.cok (k:Nat):CtxOk PR (slices_ContainsFunc.cx k):=ctx_ok tysOk eqsOk (FnsOk.cons (slices_IndexFunc.ok k) FnsOk.nil) HsOk.nil
theorem slices_ContainsFunc.way (k:Nat) (a0:(List V27)) (a1:((V27 × Unit) → Option Bool)):Owp (slices_ContainsFunc k a0 a1) fun y=>∃ w c0,exec PR (slices_ContainsFunc.cx k) slices_ContainsFunc.code 0 (entry (.pair T22 (.pair (.fn (.pair T27 .unit) T4) .unit)) (a0,a1,())).st w (Ret (slices_ContainsFunc.cx k) Try.f23 c0 (.one (.dp T4)) y):=by
  unfold slices_ContainsFunc; exact
   Owp.bnd fun y1 e2 =>
   Owp.some (⟨[rS T2 y1],[],via (retP (aI trivial e2) (.one (.dp T4)) ((ige y1 (0:Int)):Bool)) (by kernel_rfl)⟩)
theorem slices_ContainsFunc.ok (k:Nat):FnOk PR 23 (slices_ContainsFunc.sp k) :=
  fn_ok (slices_ContainsFunc.cok k) hmix Try.func23 (code:=slices_ContainsFunc.code) (by kernel_rfl) (by kernel_rfl) (by kernel_rfl) rfl rfl (by kernel_rfl) (by kernel_rfl) (by kernel_rfl) (fun x=>Nat.le_of_ble_eq_true (by kernel_rfl)) fun x y hy=>(slices_ContainsFunc.way k x.1 x.2.1).ap hy
noncomputable def poly_within.code:Code:=Func.cd Try.f86
def poly_within (k:Nat) (a0:V27):Option Bool :=
  bif' (ige a0.1 (-65536000))
  (bif' (ile a0.1 65536000)
   (bif' (ige a0.2.1 (-65536000))
   (some (ile a0.2.1 65536000))
   (some false))
   (some false))
  (some false)
noncomputable def poly_within.sp (k:Nat):Go.Sx.Spec:=⟨(.pair T27 .unit),(.one (.dp T4)),fun x=>poly_within k x.1,false⟩
noncomputable def poly_within.cx (k:Nat):Go.Sx.Ctx:=⟨tys,[],eqs,21,0,[],false⟩
theorem poly_within.cok (k:Nat):CtxOk PR (poly_within.cx k):=ctx_ok tysOk eqsOk FnsOk.nil HsOk.nil
theorem poly_within.way (k:Nat) (a0:V27):Owp (poly_within k a0) fun y=>∃ w c0,exec PR (poly_within.cx k) poly_within.code 0 (entry (.pair T27 .unit) (a0,())).st w (Ret (poly_within.cx k) Try.f86 c0 (.one (.dp T4)) y):=by
  unfold poly_within; exact
   Owp.bif (fun e1 =>
   Owp.bif (fun e2 =>
   Owp.bif (fun e3 =>
   Owp.some (⟨[tT,tT,tT,tT,tT,tT,tT,tT,tT,tT,tT,tT],[],via (retP (aI (aI (aI (aI (aI (aI (aI (aI (aI (aI (aI (aI trivial e1) e1) e1) e1) e2) e2) e2) e2) e3) e3) e3) e3) (.one (.dp T4)) ((ile a0.2.1 (65536000:Int)):Bool)) (by kernel_rfl)⟩)) (fun e3 =>
   Owp.some (⟨[tT,tT,tT,tT,tT,tT,tT,tT,fF,fF,fF,fF],[],via (retP (aI (aI (aI (aI (aI (aI (aI (aI (aI (aI (aI (aI trivial e1) e1) e1) e1) e2) e2) e2) e2) e3) e3) e3) e3) (.one (.dp T4)) (false:Bool)) (by kernel_rfl)⟩))) (fun e2 =>
   Owp.some (⟨[tT,tT,tT,tT,fF,fF,fF,fF,fF,fF,fF,fF],[],via (retP (aI (aI (aI (aI (aI (aI (aI (aI (aI (aI (aI (aI trivial e1) e1) e1) e1) e2) e2) e2) e2) ff) ff) ff) ff) (.one (.dp T4)) (false:Bool)) (by kernel_rfl)⟩))) (fun e1 =>
   Owp.some (⟨[fF,fF,fF,fF,fF,fF,fF,fF,fF,fF,fF,fF],[],via (retP (aI (aI (aI (aI (aI (aI (aI (aI (aI (aI (aI (aI trivial e1) e1) e1) e1) ff) ff) ff) ff) ff) ff) ff) ff) (.one (.dp T4)) (false:Bool)) (by kernel_rfl)⟩))
theorem poly_within.ok (k:Nat):FnOk PR 86 (poly_within.sp k) :=
  fn_ok (poly_within.cok k) hmix Try.func86 (code:=poly_within.code) (by kernel_rfl) (by kernel_rfl) (by kernel_rfl) rfl rfl (by kernel_rfl) (by kernel_rfl) (by kernel_rfl) (fun x=>Nat.le_of_ble_eq_true (by kernel_rfl)) fun x y hy=>(poly_within.way k x.1).ap hy
noncomputable def bits_Len64.code:Code:=Func.cd Try.f164
def bits_Len64.c1 (k:Nat) (a0:Int):Option ((Int × Int)) :=
  bif' (ige a0 4294967296)
  (some ((ishr .u64 a0 32),32))
  (some (a0,0))
def bits_Len64.c2 (k:Nat) (o2:(Int × Int)):Option ((Int × Int)) :=
  bif' (ige o2.1 65536)
  (some ((ishr .u64 o2.1 16),(iadd .i64 o2.2 16)))
  (some (o2.1,o2.2))
def bits_Len64.c3 (k:Nat) (o5:(Int × Int)):Option ((Int × Int)) :=
  bif' (ige o5.1 256)
  (some ((ishr .u64 o5.1 8),(iadd .i64 o5.2 8)))
  (some (o5.1,o5.2))
def bits_Len64 (k:Nat) (a0:Int):Option Int :=
  bnd (bits_Len64.c1 k a0) fun o2 =>
  bnd (bits_Len64.c2 k o2) fun o5 =>
  bnd (bits_Len64.c3 k o5) fun o8 =>
  req (inR (icv .u8 o8.1) 256) <|
  some (iadd .i64 o8.2 (icv .i64 (strAt str0 (icv .u8 o8.1))))
noncomputable def bits_Len64.sp (k:Nat):Go.Sx.Spec:=⟨(.pair T12 .unit),(.one (.dp T2)),fun x=>bits_Len64 k x.1,false⟩
noncomputable def bits_Len64.cx (k:Nat):Go.Sx.Ctx:=⟨tys,[],eqs,25,0,[],false⟩
theorem bits_Len64.cok (k:Nat):CtxOk PR (bits_Len64.cx k):=ctx_ok tysOk eqsOk FnsOk.nil HsOk.nil
noncomputable def bits_Len64.c1p (a0:Int):SL:=⟨[(0,(.val T12 a0)),(2,(.val T2 (0:Int))),(4,(.val T4 (ige a0 (4294967296:Int))))],[]⟩
noncomputable def bits_Len64.c1q (o:(Int × Int)):SL:=(fun v=>⟨[(0,(.val T12 v.1)),(2,(.val T2 v.2))],[]⟩) o
noncomputable def bits_Len64.c1x (o:(Int × Int)):Ex:=(fun _=>.normal) o
noncomputable def bits_Len64.c1n (o:(Int × Int)):Nat:=(fun _=>0) o
theorem bits_Len64.c1_ok (k:Nat) (a0:Int):Owp (bits_Len64.c1 k a0) fun o=>Triple PR (bits_Len64.cx k) (sub bits_Len64.code [1,0,1]) 0 (bits_Len64.c1p a0) (bits_Len64.c1x o) (bits_Len64.c1n o) (bits_Len64.c1q o):=by
  unfold bits_Len64.c1; exact
   Owp.bif (fun e1 =>
   Owp.some (triple_way (bits_Len64.cok k) hmix [tT] [] [] (via (finP (aI (aI trivial e1) (by decide:ng (32:Int))) .normal [] (bits_Len64.c1q ((ishr .u64 a0 (32:Int)),(32:Int)))) (by kernel_rfl)))) (fun e1 =>
   Owp.some (triple_way (bits_Len64.cok k) hmix [fF] [] [] (via (finP (aI trivial e1) .normal [] (bits_Len64.c1q (a0,(0:Int)))) (by kernel_rfl))))
noncomputable def bits_Len64.c2p (o2:(Int × Int)):SL:=⟨[(0,(.val T12 o2.1)),(2,(.val T2 o2.2)),(8,(.val T4 (ige o2.1 (65536:Int))))],[]⟩
noncomputable def bits_Len64.c2q (o:(Int × Int)):SL:=(fun v=>⟨[(0,(.val T12 v.1)),(2,(.val T2 v.2))],[]⟩) o
noncomputable def bits_Len64.c2x (o:(Int × Int)):Ex:=(fun _=>.normal) o
noncomputable def bits_Len64.c2n (o:(Int × Int)):Nat:=(fun _=>0) o
theorem bits_Len64.c2_ok (k:Nat) (o2:(Int × Int)):Owp (bits_Len64.c2 k o2) fun o=>Triple PR (bits_Len64.cx k) (sub bits_Len64.code [1,1,0,1]) 0 (bits_Len64.c2p o2) (bits_Len64.c2x o) (bits_Len64.c2n o) (bits_Len64.c2q o):=by
  unfold bits_Len64.c2; exact
   Owp.bif (fun e4 =>
   Owp.some (triple_way (bits_Len64.cok k) hmix [tT] [] [] (via (finP (aI (aI trivial e4) (by decide:ng (16:Int))) .normal [] (bits_Len64.c2q ((ishr .u64 o2.1 (16:Int)),(iadd .i64 o2.2 (16:Int))))) (by kernel_rfl)))) (fun e4 =>
   Owp.some (triple_way (bits_Len64.cok k) hmix [fF] [] [] (via (finP (aI trivial e4) .normal [] (bits_Len64.c2q (o2.1,o2.2))) (by kernel_rfl))))
noncomputable def bits_Len64.c3p (o5:(Int × Int)):SL:=⟨[(0,(.val T12 o5.1)),(2,(.val T2 o5.2)),(14,(.val T4 (ige o5.1 (256:Int))))],[]⟩
noncomputable def bits_Len64.c3q (o:(Int × Int)):SL:=(fun v=>⟨[(0,(.val T12 v.1)),(2,(.val T2 v.2))],[]⟩) o
noncomputable def bits_Len64.c3x (o:(Int × Int)):Ex:=(fun _=>.normal) o
noncomputable def bits_Len64.c3n (o:(Int × Int)):Nat:=(fun _=>0) o
theorem bits_Len64.c3_ok (k:Nat) (o5:(Int × Int)):Owp (bits_Len64.c3 k o5) fun o=>Triple PR (bits_Len64.cx k) (sub bits_Len64.code [1,1,1,0,1]) 0 (bits_Len64.c3p o5) (bits_Len64.c3x o) (bits_Len64.c3n o) (bits_Len64.c3q o):=by
  unfold bits_Len64.c3; exact
   Owp.bif (fun e7 =>
   Owp.some (triple_way (bits_Len64.cok k) hmix [tT] [] [] (via (finP (aI (aI trivial e7) (by decide:ng (8:Int))) .normal [] (bits_Len64.c3q ((ishr .u64 o5.1 (8:Int)),(iadd .i64 o5.2 (8:Int))))) (by kernel_rfl)))) (fun e7 =>
   Owp.some (triple_way (bits_Len64.cok k) hmix [fF] [] [] (via (finP (aI trivial e7) .normal [] (bits_Len64.c3q (o5.1,o5.2))) (by kernel_rfl))))
theorem bits_Len64.way (k:Nat) (a0:Int):Owp (bits_Len64 k a0) fun y=>∃ w c0,exec PR (bits_Len64.cx k) bits_Len64.code 0 (entry (.pair T12 .unit) (a0,())).st w (Ret (bits_Len64.cx k) Try.f164 c0 (.one (.dp T2)) y):=by
  unfold bits_Len64; exact
   Owp.bnd fun o2 e3 =>
   Owp.bnd fun o5 e6 =>
   Owp.bnd fun o8 e9 =>
   Owp.req fun h10 =>
   Owp.some (⟨[.cut ⟨[],[],(bits_Len64.c1p a0),0,.normal,(bits_Len64.c1q o2),0⟩,.cut ⟨[],[],(bits_Len64.c2p o2),0,.normal,(bits_Len64.c2q o5),0⟩,.cut ⟨[],[],(bits_Len64.c3p o5),0,.normal,(bits_Len64.c3q o8),0⟩],[],via (cutP trivial [] (bits_Len64.c1p a0) (((bits_Len64.c1_ok k a0).ap e3)) (cutP trivial [] (bits_Len64.c2p o2) (((bits_Len64.c2_ok k o2).ap e6)) (cutP trivial [] (bits_Len64.c3p o5) (((bits_Len64.c3_ok k o5).ap e9)) (retP (aI trivial h10) (.one (.dp T2)) ((iadd .i64 o8.2 (icv .i64 (strAt str0 (icv .u8 o8.1)))):Int))))) (by kernel_rfl)⟩)
theorem bits_Len64.ok (k:Nat):FnOk PR 164 (bits_Len64.sp k) :=
  fn_ok (bits_Len64.cok k) hmix Try.func164 (code:=bits_Len64.code) (by kernel_rfl) (by kernel_rfl) (by kernel_rfl) rfl rfl (by kernel_rfl) (by kernel_rfl) (by kernel_rfl) (fun x=>Nat.le_of_ble_eq_true (by kernel_rfl)) fun x y hy=>(bits_Len64.way k x.1).ap hy
noncomputable def poly_Check_1.code:Code:=Func.cd Try.f98
def poly_Check_1 (k:Nat) (a0:V27):Option Bool :=
  bnd (poly_within k a0) fun y1 =>
  some (!y1)
noncomputable def poly_Check_1.sp (k:Nat):Go.Sx.Spec:=⟨(.pair T27 .unit),(.one (.dp T4)),fun x=>poly_Check_1 k x.1,false⟩
noncomputable def poly_Check_1.cx (k:Nat):Go.Sx.Ctx:=⟨tys,[(86,poly_within.sp k)],eqs,6,0,[],false⟩
theorem poly_Check_1.cok (k:Nat):CtxOk PR (poly_Check_1.cx k):=ctx_ok tysOk eqsOk (FnsOk.cons (poly_within.ok k) FnsOk.nil) HsOk.nil
theorem poly_Check_1.way (k:Nat) (a0:V27):Owp (poly_Check_1 k a0) fun y=>∃ w c0,exec PR (poly_Check_1.cx k) poly_Check_1.code 0 (entry (.pair T27 .unit) (a0,())).st w (Ret (poly_Check_1.cx k) Try.f98 c0 (.one (.dp T4)) y):=by
  unfold poly_Check_1; exact
   Owp.bnd fun y1 e2 =>
   Owp.some (⟨[rS T4 y1],[],via (retP (aI trivial e2) (.one (.dp T4)) ((!y1):Bool)) (by kernel_rfl)⟩)
theorem poly_Check_1.ok (k:Nat):FnOk PR 98 (poly_Check_1.sp k) :=
  fn_ok (poly_Check_1.cok k) hmix Try.func98 (code:=poly_Check_1.code) (by kernel_rfl) (by kernel_rfl) (by kernel_rfl) rfl rfl (by kernel_rfl) (by kernel_rfl) (by kernel_rfl) (fun x=>Nat.le_of_ble_eq_true (by kernel_rfl)) fun x y hy=>(poly_Check_1.way k x.1).ap hy
noncomputable def poly_side.code:Code:=Func.cd Try.f91
def poly_side (k:Nat) (a0 a1 a2:V27):Option Int :=
  some (isub .i64 (imul .i64 (isub .i64 a1.1 a0.1) (isub .i64 a2.2.1 a0.2.1)) (imul .i64 (isub .i64 a1.2.1 a0.2.1) (isub .i64 a2.1 a0.1)))
noncomputable def poly_side.sp (k:Nat):Go.Sx.Spec:=⟨(.pair T27 T41),(.one (.dp T2)),fun x=>poly_side k x.1 x.2.1 x.2.2.1,false⟩
noncomputable def poly_side.cx (k:Nat):Go.Sx.Ctx:=⟨tys,[],eqs,30,0,[],false⟩
theorem poly_side.cok (k:Nat):CtxOk PR (poly_side.cx k):=ctx_ok tysOk eqsOk FnsOk.nil HsOk.nil
theorem poly_side.way (k:Nat) (a0 a1 a2:V27):Owp (poly_side k a0 a1 a2) fun y=>∃ w c0,exec PR (poly_side.cx k) poly_side.code 0 (entry (.pair T27 T41) (a0,a1,a2,())).st w (Ret (poly_side.cx k) Try.f91 c0 (.one (.dp T2)) y):=by
  unfold poly_side; exact
   Owp.some (⟨[],[],via (retP trivial (.one (.dp T2)) ((isub .i64 (imul .i64 (isub .i64 a1.1 a0.1) (isub .i64 a2.2.1 a0.2.1)) (imul .i64 (isub .i64 a1.2.1 a0.2.1) (isub .i64 a2.1 a0.1))):Int)) (by kernel_rfl)⟩)
theorem poly_side.ok (k:Nat):FnOk PR 91 (poly_side.sp k) :=
  fn_ok (poly_side.cok k) hmix Try.func91 (code:=poly_side.code) (by kernel_rfl) (by kernel_rfl) (by kernel_rfl) rfl rfl (by kernel_rfl) (by kernel_rfl) (by kernel_rfl) (fun x=>Nat.le_of_ble_eq_true (by kernel_rfl)) fun x y hy=>(poly_side.way k x.1 x.2.1 x.2.2.1).ap hy
noncomputable def poly_Check.code:Code:=Func.cd Try.f22
def poly_Check.c3 (k:Nat) (a0:(List V27)) (v6 v11:Int):Option (Bool) :=
  bif' (ine v11 v6)
  (req (nz (len a0)) <|
   bif' (ine v11 (irem (iadd .i64 v6 1) (len a0)))
   (bnd (poly_side k (el Z27 a0 v6) (el Z27 a0 (irem (iadd .i64 v6 1) (len a0))) (el Z27 a0 v11)) fun y17 =>
   some (ile y17 0))
   (some false))
  (some false)
def poly_Check.c2 (k:Nat) (a0:(List V27)) (v6:Int):Nat → Int → Option (Unit ⊕ Unit)
  | 0,_=>none
  | n+1,v11 =>
   bif' (ilt v11 (len a0))
   (req (inL v11 a0) <|
   bnd (poly_Check.c3 k a0 v6 v11) fun o19 =>
   bif' o19
   (some (.inl ()))
   (poly_Check.c2 k a0 v6 n (iadd .i64 v11 1)))
   (some (.inr ()))
def poly_Check.c1 (k:Nat) (a0:(List V27)):Nat → Int → Option (Unit ⊕ Unit)
  | 0,_=>none
  | n+1,v6 =>
   bif' (ilt v6 (len a0))
   (req (inL v6 a0) <|
   req (nz (len a0)) <|
   req (inL (irem (iadd .i64 v6 1) (len a0)) a0) <|
   bnd (poly_Check.c2 k a0 v6 k 0) fun o22 =>
   two o22 (fun y24 =>
   some (.inl ())) (fun y26 =>
   poly_Check.c1 k a0 n (iadd .i64 v6 1)))
   (some (.inr ()))
def poly_Check (k:Nat) (a0:(List V27)):Option Int :=
  bif' (igt (len a0) 8)
  (some 2)
  (bif' (ilt (len a0) 3)
   (some 3)
   (bnd (slices_ContainsFunc k a0 (fun x:(V27 × Unit)=>poly_Check_1 k (x.1))) fun y3 =>
   bif' y3
   (some 1)
   (bnd (poly_Check.c1 k a0 k 0) fun o28 =>
   two o28 (fun y30 =>
   some 3) (fun y32 =>
   some 0))))
noncomputable def poly_Check.sp (k:Nat):Go.Sx.Spec:=⟨(.pair T22 .unit),(.one (.dp T2)),fun x=>poly_Check k x.1,false⟩
noncomputable def poly_Check.cx (k:Nat):Go.Sx.Ctx:=⟨tys,[(23,slices_ContainsFunc.sp k),(98,poly_Check_1.sp k),(91,poly_side.sp k)],eqs,59,0,[],false⟩
theorem poly_Check.cok (k:Nat):CtxOk PR (poly_Check.cx k):=ctx_ok tysOk eqsOk (FnsOk.cons (slices_ContainsFunc.ok k) (FnsOk.cons (poly_Check_1.ok k) (FnsOk.cons (poly_side.ok k) FnsOk.nil))) HsOk.nil
noncomputable def poly_Check.c3p (a0:(List V27)) (v6 v11:Int):SL:=⟨[(0,(.val T22 a0)),(3,(.val T2 v6)),(4,(.val .ptr ⟨0,0,(0:Int),0,0⟩)),(5,(.val .ptr ⟨1,0,(0:Int),0,0⟩)),(6,(.val T2 v11)),(7,(.val .ptr ⟨2,0,(0:Int),0,0⟩)),(16,(.val T22 a0)),(17,(.val T2 (len a0))),(18,(.val T2 v6)),(31,(.val T22 a0)),(32,(.val T2 (len a0))),(33,(.val T2 v11))],[(0,.cells T27 (el Z27 a0 v6)),(1,.cells T27 (el Z27 a0 (irem (iadd .i64 v6 (1:Int)) (len a0)))),(2,.cells T27 (el Z27 a0 v11))]⟩
noncomputable def poly_Check.c3q (a0:(List V27)) (v6 v11:Int) (o:Bool):SL:=(fun v=>⟨[(0,(.val T22 a0)),(3,(.val T2 v6)),(4,(.val .ptr ⟨0,0,(0:Int),0,0⟩)),(5,(.val .ptr ⟨1,0,(0:Int),0,0⟩)),(16,(.val T22 a0)),(17,(.val T2 (len a0))),(18,(.val T2 v6)),(31,(.val T22 a0)),(32,(.val T2 (len a0))),(33,(.val T2 v11)),(56,(.val T4 v))],[(0,.cells T27 (el Z27 a0 v6)),(1,.cells T27 (el Z27 a0 (irem (iadd .i64 v6 (1:Int)) (len a0))))]⟩) o
noncomputable def poly_Check.c3x (o:Bool):Ex:=(fun _=>.normal) o
noncomputable def poly_Check.c3n (o:Bool):Nat:=(fun _=>2) o
theorem poly_Check.c3_ok (k:Nat) (a0:(List V27)) (v6 v11:Int):Owp (poly_Check.c3 k a0 v6 v11) fun o=>Triple PR (poly_Check.cx k) (sub poly_Check.code [1,1,1,1,0,1,0,0,1,1,0,0,1,1,1,0,0,1,1,0,0,1,0]) 3 (poly_Check.c3p a0 v6 v11) (poly_Check.c3x o) (poly_Check.c3n o) (poly_Check.c3q a0 v6 v11 o):=by
  unfold poly_Check.c3; exact
   Owp.bif (fun e14 =>
   Owp.req fun h15 =>
   Owp.bif (fun e16 =>
   Owp.bnd fun y17 e18 =>
   Owp.some (triple_way (poly_Check.cok k) hmix [tT,tT,tT,tT,tT,tT,tT,tT,tT,tT,tT,tT,rS T2 y17,tT,tT] [] [(0,0),(1,1)] (via (finP (aI (aI (aI (aI (aI (aI (aI (aI (aI (aI (aI (aI (aI (aI trivial e14) e14) e14) e14) e14) (aI e14 h15)) e14) e14) e16) e16) e16) (aI e16 e18)) e16) e16) .normal [(0,0),(1,1)] (poly_Check.c3q a0 v6 v11 (ile y17 (0:Int)))) (by kernel_rfl)))) (fun e16 =>
   Owp.some (triple_way (poly_Check.cok k) hmix [tT,tT,tT,tT,tT,tT,tT,tT,fF,fF,fF,fF,tT,fF,fF] [] [(0,0),(1,1)] (via (finP (aI (aI (aI (aI (aI (aI (aI (aI (aI (aI (aI (aI (aI (aI trivial e14) e14) e14) e14) e14) (aI e14 h15)) e14) e14) e16) e16) e16) e16) e16) e16) .normal [(0,0),(1,1)] (poly_Check.c3q a0 v6 v11 false)) (by kernel_rfl))))) (fun e14 =>
   Owp.some (triple_way (poly_Check.cok k) hmix [fF,fF,fF,fF,fF,fF,fF,fF,fF,fF,fF,fF,tT,fF,fF] [] [(0,0),(1,1)] (via (finP (aI (aI (aI (aI (aI (aI (aI (aI (aI (aI (aI (aI (aI (aI trivial e14) e14) e14) e14) e14) e14) e14) e14) ff) ff) ff) ff) ff) ff) .normal [(0,0),(1,1)] (poly_Check.c3q a0 v6 v11 false)) (by kernel_rfl))))
noncomputable def poly_Check.c2p (a0:(List V27)) (v6 v11:Int):SL:=⟨[(0,(.val T22 a0)),(3,(.val T2 v6)),(4,(.val .ptr ⟨0,0,(0:Int),0,0⟩)),(5,(.val .ptr ⟨1,0,(0:Int),0,0⟩)),(16,(.val T22 a0)),(17,(.val T2 (len a0))),(18,(.val T2 v6)),(31,(.val T22 a0)),(32,(.val T2 (len a0))),(33,(.val T2 v11))],[(0,.cells T27 (el Z27 a0 v6)),(1,.cells T27 (el Z27 a0 (irem (iadd .i64 v6 (1:Int)) (len a0))))]⟩
noncomputable def poly_Check.c2q (a0:(List V27)) (v6:Int) (o:Unit ⊕ Unit):SL:=(fun o=>two o (fun v=>⟨[(2,(.val T2 (3:Int)))],[]⟩) (fun v=>⟨[(0,(.val T22 a0)),(16,(.val T22 a0)),(17,(.val T2 (len a0))),(18,(.val T2 v6))],[]⟩)) o
noncomputable def poly_Check.c2x (o:Unit ⊕ Unit):Ex:=(fun o=>two o (fun _=>.ret) (fun _=>(.exit 2))) o
noncomputable def poly_Check.c2n (o:Unit ⊕ Unit):Nat:=(fun o=>two o (fun _=>0) (fun _=>0)) o
theorem poly_Check.c2_ok (k:Nat) (a0:(List V27)) (v6:Int):∀ (n:Nat) (v11:Int),Owp (poly_Check.c2 k a0 v6 n v11) fun o=>LTriple PR (poly_Check.cx k) (sub poly_Check.code [1,1,1,1,0,1,0,0,1,1,0,0,1,1,1,0,0]) 2 (poly_Check.c2p a0 v6 v11) (poly_Check.c2x o) (poly_Check.c2n o) (poly_Check.c2q a0 v6 o)
  | 0,_=>fun _ h=>nomatch h
  | n+1,v11=>Owp.of (poly_Check.c2.eq_2 ..) (
   Owp.bif (fun e12 =>
   Owp.req fun h13 =>
   Owp.bnd fun o19 e20 =>
   Owp.bif (fun e21 =>
   Owp.some (loop_exit (poly_Check.cok k) hmix [tT,.cutR 14 ⟨[],[(0,0),(1,1),(2,6)],(poly_Check.c3p a0 v6 v11),3,.normal,(poly_Check.c3q a0 v6 v11 o19),2⟩,tT] [] [] exne_ret (via (cutP (aI (aI trivial e12) h13) [(0,0),(1,1),(2,6)] (poly_Check.c3p a0 v6 v11) (((poly_Check.c3_ok k a0 v6 v11).ap e20)) (finP (aI trivial e21) .ret [] (poly_Check.c2q a0 v6 (.inl ())))) (by kernel_rfl)))) (fun e21 =>
   fun y hy=>loop_back (poly_Check.cok k) hmix 2 (poly_Check.c2p a0 v6 (iadd .i64 v11 (1:Int))) [tT,.cutR 14 ⟨[],[(0,0),(1,1),(2,6)],(poly_Check.c3p a0 v6 v11),3,.normal,(poly_Check.c3q a0 v6 v11 o19),2⟩,fF] [] [(0,0),(1,1)] (via (cutP (aI (aI trivial e12) h13) [(0,0),(1,1),(2,6)] (poly_Check.c3p a0 v6 v11) (((poly_Check.c3_ok k a0 v6 v11).ap e20)) (finP (aI trivial e21) .normal [(0,0),(1,1)] (poly_Check.c2p a0 v6 (iadd .i64 v11 (1:Int))))) (by kernel_rfl)) ((poly_Check.c2_ok k a0 v6 n (iadd .i64 v11 (1:Int))).ap hy))) (fun e12 =>
   Owp.some (loop_exit (poly_Check.cok k) hmix [fF] [] [] (exne 2) (via (finP (aI trivial e12) (.exit 2) [] (poly_Check.c2q a0 v6 (.inr ()))) (by kernel_rfl)))))
noncomputable def poly_Check.c1p (a0:(List V27)) (v6:Int):SL:=⟨[(0,(.val T22 a0)),(16,(.val T22 a0)),(17,(.val T2 (len a0))),(18,(.val T2 v6))],[]⟩
noncomputable def poly_Check.c1q (o:Unit ⊕ Unit):SL:=(fun o=>two o (fun v=>⟨[(2,(.val T2 (3:Int)))],[]⟩) (fun v=>⟨[],[]⟩)) o
noncomputable def poly_Check.c1x (o:Unit ⊕ Unit):Ex:=(fun o=>two o (fun _=>.ret) (fun _=>(.exit 0))) o
noncomputable def poly_Check.c1n (o:Unit ⊕ Unit):Nat:=(fun o=>two o (fun _=>0) (fun _=>0)) o
theorem poly_Check.c1_ok (k:Nat) (a0:(List V27)):∀ (n:Nat) (v6:Int),Owp (poly_Check.c1 k a0 n v6) fun o=>LTriple PR (poly_Check.cx k) (sub poly_Check.code [1,1,1,1,0,1,0,0]) 0 (poly_Check.c1p a0 v6) (poly_Check.c1x o) (poly_Check.c1n o) (poly_Check.c1q o)
  | 0,_=>fun _ h=>nomatch h
  | n+1,v6=>Owp.of (poly_Check.c1.eq_2 ..) (
   Owp.bif (fun e7 =>
   Owp.req fun h8 =>
   Owp.req fun h9 =>
   Owp.req fun h10 =>
   Owp.bnd fun o22 e23 =>
   Owp.two (fun y24 e25 =>
   Owp.some (loop_exit (poly_Check.cok k) hmix [tT,.cut ⟨[],[(0,4),(1,15)],(poly_Check.c2p a0 v6 (0:Int)),2,.ret,(poly_Check.c2q a0 v6 (.inl ())),0⟩] [] [] exne_ret (via (cutP (aI (aI (aI (aI trivial e7) h8) h9) h10) [(0,4),(1,15)] (poly_Check.c2p a0 v6 (0:Int)) (((poly_Check.c2_ok k a0 v6 k (0:Int)).ap (e23.trans (congrArg some e25))).triple) (finP trivial .ret [] (poly_Check.c1q (.inl ())))) (by kernel_rfl)))) (fun y26 e27 =>
   fun y hy=>loop_back (poly_Check.cok k) hmix 0 (poly_Check.c1p a0 (iadd .i64 v6 (1:Int))) [tT,.cut ⟨[],[(0,4),(1,15)],(poly_Check.c2p a0 v6 (0:Int)),2,(.exit 2),(poly_Check.c2q a0 v6 (.inr ())),0⟩] [] [] (via (cutP (aI (aI (aI (aI trivial e7) h8) h9) h10) [(0,4),(1,15)] (poly_Check.c2p a0 v6 (0:Int)) (((poly_Check.c2_ok k a0 v6 k (0:Int)).ap (e23.trans (congrArg some e27))).triple) (finP trivial .normal [] (poly_Check.c1p a0 (iadd .i64 v6 (1:Int))))) (by kernel_rfl)) ((poly_Check.c1_ok k a0 n (iadd .i64 v6 (1:Int))).ap hy))) (fun e7 =>
   Owp.some (loop_exit (poly_Check.cok k) hmix [fF] [] [] (exne 0) (via (finP (aI trivial e7) (.exit 0) [] (poly_Check.c1q (.inr ()))) (by kernel_rfl)))))
theorem poly_Check.way (k:Nat) (a0:(List V27)):Owp (poly_Check k a0) fun y=>∃ w c0,exec PR (poly_Check.cx k) poly_Check.code 0 (entry (.pair T22 .unit) (a0,())).st w (Ret (poly_Check.cx k) Try.f22 c0 (.one (.dp T2)) y):=by
  unfold poly_Check; exact
   Owp.bif (fun e1 =>
   Owp.some (⟨[tT],[],via (retP (aI trivial e1) (.one (.dp T2)) ((2:Int):Int)) (by kernel_rfl)⟩)) (fun e1 =>
   Owp.bif (fun e2 =>
   Owp.some (⟨[fF,tT],[],via (retP (aI (aI trivial e1) e2) (.one (.dp T2)) ((3:Int):Int)) (by kernel_rfl)⟩)) (fun e2 =>
   Owp.bnd fun y3 e4 =>
   Owp.bif (fun e5 =>
   Owp.some (⟨[fF,fF,rS T4 y3,tT],[],via (retP (aI (aI (aI (aI trivial e1) e2) e4) e5) (.one (.dp T2)) ((1:Int):Int)) (by kernel_rfl)⟩)) (fun e5 =>
   Owp.bnd fun o28 e29 =>
   Owp.two (fun y30 e31 =>
   Owp.some (⟨[fF,fF,rS T4 y3,fF,.cut ⟨[],[],(poly_Check.c1p a0 (0:Int)),0,.ret,(poly_Check.c1q (.inl ())),0⟩],[],via (cutP (aI (aI (aI (aI trivial e1) e2) e4) e5) [] (poly_Check.c1p a0 (0:Int)) (((poly_Check.c1_ok k a0 k (0:Int)).ap (e29.trans (congrArg some e31))).triple) (retP trivial (.one (.dp T2)) ((3:Int):Int))) (by kernel_rfl)⟩)) (fun y32 e33 =>
   Owp.some (⟨[fF,fF,rS T4 y3,fF,.cut ⟨[],[],(poly_Check.c1p a0 (0:Int)),0,(.exit 0),(poly_Check.c1q (.inr ())),0⟩],[],via (cutP (aI (aI (aI (aI trivial e1) e2) e4) e5) [] (poly_Check.c1p a0 (0:Int)) (((poly_Check.c1_ok k a0 k (0:Int)).ap (e29.trans (congrArg some e33))).triple) (retP trivial (.one (.dp T2)) ((0:Int):Int))) (by kernel_rfl)⟩)))))
theorem poly_Check.ok (k:Nat):FnOk PR 22 (poly_Check.sp k) :=
  fn_ok (poly_Check.cok k) hmix Try.func22 (code:=poly_Check.code) (by kernel_rfl) (by kernel_rfl) (by kernel_rfl) rfl rfl (by kernel_rfl) (by kernel_rfl) (by kernel_rfl) (fun x=>Nat.le_of_ble_eq_true (by kernel_rfl)) fun x y hy=>(poly_Check.way k x.1).ap hy
noncomputable def poly_Has.code:Code:=Func.cd Try.f21
def poly_Has.c1 (k:Nat) (a0:(List V27)) (a1:V27):Option (Bool) :=
  bnd (poly_Check k a0) fun y1 =>
  bif' (ine y1 0)
  (some true)
  (bnd (poly_within k a1) fun y4 =>
   some (!y4))
def poly_Has.c2 (k:Nat) (a0:(List V27)) (a1:V27):Nat → Int → Option (Unit ⊕ Unit)
  | 0,_=>none
  | n+1,v9 =>
   bif' (ilt v9 (len a0))
   (req (inL v9 a0) <|
   req (nz (len a0)) <|
   req (inL (irem (iadd .i64 v9 1) (len a0)) a0) <|
   bnd (poly_side k (el Z27 a0 v9) (el Z27 a0 (irem (iadd .i64 v9 1) (len a0))) a1) fun y14 =>
   bif' (ilt y14 0)
   (some (.inl ()))
   (poly_Has.c2 k a0 a1 n (iadd .i64 v9 1)))
   (some (.inr ()))
def poly_Has (k:Nat) (a0:(List V27)) (a1:V27):Option Bool :=
  bnd (poly_Has.c1 k a0 a1) fun o6 =>
  bif' o6
  (some false)
  (bnd (poly_Has.c2 k a0 a1 k 0) fun o17 =>
   two o17 (fun y19 =>
   some false) (fun y21 =>
   some true))
noncomputable def poly_Has.sp (k:Nat):Go.Sx.Spec:=⟨(.pair T22 (.pair T27 .unit)),(.one (.dp T4)),fun x=>poly_Has k x.1 x.2.1,false⟩
noncomputable def poly_Has.cx (k:Nat):Go.Sx.Ctx:=⟨tys,[(22,poly_Check.sp k),(86,poly_within.sp k),(91,poly_side.sp k)],eqs,35,0,[],false⟩
theorem poly_Has.cok (k:Nat):CtxOk PR (poly_Has.cx k):=ctx_ok tysOk eqsOk (FnsOk.cons (poly_Check.ok k) (FnsOk.cons (poly_within.ok k) (FnsOk.cons (poly_side.ok k) FnsOk.nil))) HsOk.nil
noncomputable def poly_Has.c1p (a0:(List V27)) (a1:V27):SL:=⟨[(0,(.val T22 a0)),(3,(.val .ptr ⟨0,0,(0:Int),0,0⟩))],[(0,.cells T27 a1)]⟩
noncomputable def poly_Has.c1q (a0:(List V27)) (a1:V27) (o:Bool):SL:=(fun v=>⟨[(0,(.val T22 a0)),(3,(.val .ptr ⟨0,0,(0:Int),0,0⟩)),(14,(.val T4 v))],[(0,.cells T27 a1)]⟩) o
noncomputable def poly_Has.c1x (o:Bool):Ex:=(fun _=>.normal) o
noncomputable def poly_Has.c1n (o:Bool):Nat:=(fun _=>1) o
theorem poly_Has.c1_ok (k:Nat) (a0:(List V27)) (a1:V27):Owp (poly_Has.c1 k a0 a1) fun o=>Triple PR (poly_Has.cx k) (sub poly_Has.code [1,0,0]) 1 (poly_Has.c1p a0 a1) (poly_Has.c1x o) (poly_Has.c1n o) (poly_Has.c1q a0 a1 o):=by
  unfold poly_Has.c1; exact
   Owp.bnd fun y1 e2 =>
   Owp.bif (fun e3 =>
   Owp.some (triple_way (poly_Has.cok k) hmix [rS T2 y1,tT,tT,tT,tT,tT] [] [(0,0)] (via (finP (aI (aI (aI (aI (aI trivial e2) e3) e3) e3) e3) .normal [(0,0)] (poly_Has.c1q a0 a1 true)) (by kernel_rfl)))) (fun e3 =>
   Owp.bnd fun y4 e5 =>
   Owp.some (triple_way (poly_Has.cok k) hmix [rS T2 y1,fF,fF,rS T4 y4,fF,fF] [] [(0,0)] (via (finP (aI (aI (aI (aI (aI trivial e2) e3) (aI e3 e5)) e3) e3) .normal [(0,0)] (poly_Has.c1q a0 a1 (!y4))) (by kernel_rfl))))
noncomputable def poly_Has.c2p (a0:(List V27)) (a1:V27) (v9:Int):SL:=⟨[(0,(.val T22 a0)),(3,(.val .ptr ⟨0,0,(0:Int),0,0⟩)),(15,(.val T22 a0)),(16,(.val T2 (len a0))),(17,(.val T2 v9))],[(0,.cells T27 a1)]⟩
noncomputable def poly_Has.c2q (o:Unit ⊕ Unit):SL:=(fun o=>two o (fun v=>⟨[(4,(.val T4 false))],[]⟩) (fun v=>⟨[],[]⟩)) o
noncomputable def poly_Has.c2x (o:Unit ⊕ Unit):Ex:=(fun o=>two o (fun _=>.ret) (fun _=>(.exit 0))) o
noncomputable def poly_Has.c2n (o:Unit ⊕ Unit):Nat:=(fun o=>two o (fun _=>0) (fun _=>0)) o
theorem poly_Has.c2_ok (k:Nat) (a0:(List V27)) (a1:V27):∀ (n:Nat) (v9:Int),Owp (poly_Has.c2 k a0 a1 n v9) fun o=>LTriple PR (poly_Has.cx k) (sub poly_Has.code [1,1,0,1,0,0]) 1 (poly_Has.c2p a0 a1 v9) (poly_Has.c2x o) (poly_Has.c2n o) (poly_Has.c2q o)
  | 0,_=>fun _ h=>nomatch h
  | n+1,v9=>Owp.of (poly_Has.c2.eq_2 ..) (
   Owp.bif (fun e10 =>
   Owp.req fun h11 =>
   Owp.req fun h12 =>
   Owp.req fun h13 =>
   Owp.bnd fun y14 e15 =>
   Owp.bif (fun e16 =>
   Owp.some (loop_exit (poly_Has.cok k) hmix [tT,rS T2 y14,tT] [] [] exne_ret (via (finP (aI (aI (aI (aI (aI (aI trivial e10) h11) h12) h13) e15) e16) .ret [] (poly_Has.c2q (.inl ()))) (by kernel_rfl)))) (fun e16 =>
   fun y hy=>loop_back (poly_Has.cok k) hmix 1 (poly_Has.c2p a0 a1 (iadd .i64 v9 (1:Int))) [tT,rS T2 y14,fF] [] [(0,0)] (via (finP (aI (aI (aI (aI (aI (aI trivial e10) h11) h12) h13) e15) e16) .normal [(0,0)] (poly_Has.c2p a0 a1 (iadd .i64 v9 (1:Int)))) (by kernel_rfl)) ((poly_Has.c2_ok k a0 a1 n (iadd .i64 v9 (1:Int))).ap hy))) (fun e10 =>
   Owp.some (loop_exit (poly_Has.cok k) hmix [fF] [] [] (exne 0) (via (finP (aI trivial e10) (.exit 0) [] (poly_Has.c2q (.inr ()))) (by kernel_rfl)))))
theorem poly_Has.way (k:Nat) (a0:(List V27)) (a1:V27):Owp (poly_Has k a0 a1) fun y=>∃ w c0,exec PR (poly_Has.cx k) poly_Has.code 0 (entry (.pair T22 (.pair T27 .unit)) (a0,a1,())).st w (Ret (poly_Has.cx k) Try.f21 c0 (.one (.dp T4)) y):=by
  unfold poly_Has; exact
   Owp.bnd fun o6 e7 =>
   Owp.bif (fun e8 =>
   Owp.some (⟨[.cutR 1 ⟨[],[(0,0)],(poly_Has.c1p a0 a1),1,.normal,(poly_Has.c1q a0 a1 o6),1⟩,tT],[],via (cutP trivial [(0,0)] (poly_Has.c1p a0 a1) (((poly_Has.c1_ok k a0 a1).ap e7)) (retP (aI trivial e8) (.one (.dp T4)) (false:Bool))) (by kernel_rfl)⟩)) (fun e8 =>
   Owp.bnd fun o17 e18 =>
   Owp.two (fun y19 e20 =>
   Owp.some (⟨[.cutR 1 ⟨[],[(0,0)],(poly_Has.c1p a0 a1),1,.normal,(poly_Has.c1q a0 a1 o6),1⟩,fF,.cut ⟨[],[(0,0)],(poly_Has.c2p a0 a1 (0:Int)),1,.ret,(poly_Has.c2q (.inl ())),0⟩],[],via (cutP trivial [(0,0)] (poly_Has.c1p a0 a1) (((poly_Has.c1_ok k a0 a1).ap e7)) (cutP (aI trivial e8) [(0,0)] (poly_Has.c2p a0 a1 (0:Int)) (((poly_Has.c2_ok k a0 a1 k (0:Int)).ap (e18.trans (congrArg some e20))).triple) (retP trivial (.one (.dp T4)) (false:Bool)))) (by kernel_rfl)⟩)) (fun y21 e22 =>
   Owp.some (⟨[.cutR 1 ⟨[],[(0,0)],(poly_Has.c1p a0 a1),1,.normal,(poly_Has.c1q a0 a1 o6),1⟩,fF,.cut ⟨[],[(0,0)],(poly_Has.c2p a0 a1 (0:Int)),1,(.exit 0),(poly_Has.c2q (.inr ())),0⟩],[],via (cutP trivial [(0,0)] (poly_Has.c1p a0 a1) (((poly_Has.c1_ok k a0 a1).ap e7)) (cutP (aI trivial e8) [(0,0)] (poly_Has.c2p a0 a1 (0:Int)) (((poly_Has.c2_ok k a0 a1 k (0:Int)).ap (e18.trans (congrArg some e22))).triple) (retP trivial (.one (.dp T4)) (true:Bool)))) (by kernel_rfl)⟩)))
theorem poly_Has.ok (k:Nat):FnOk PR 21 (poly_Has.sp k) :=
  fn_ok (poly_Has.cok k) hmix Try.func21 (code:=poly_Has.code) (by kernel_rfl) (by kernel_rfl) (by kernel_rfl) rfl rfl (by kernel_rfl) (by kernel_rfl) (by kernel_rfl) (fun x=>Nat.le_of_ble_eq_true (by kernel_rfl)) fun x y hy=>(poly_Has.way k x.1 x.2.1).ap hy
noncomputable def bits_Mul64.code:Code:=Func.cd Try.f186
def bits_Mul64 (k:Nat) (a0 a1:Int):Option (Int × Int) :=
  some ((iadd .u64 (iadd .u64 (imul .u64 (ishr .u64 a0 32) (ishr .u64 a1 32)) (ishr .u64 (iadd .u64 (imul .u64 (ishr .u64 a0 32) (ibits .and .u64 a1 4294967295)) (ishr .u64 (imul .u64 (ibits .and .u64 a0 4294967295) (ibits .and .u64 a1 4294967295)) 32)) 32)) (ishr .u64 (iadd .u64 (ibits .and .u64 (iadd .u64 (imul .u64 (ishr .u64 a0 32) (ibits .and .u64 a1 4294967295)) (ishr .u64 (imul .u64 (ibits .and .u64 a0 4294967295) (ibits .and .u64 a1 4294967295)) 32)) 4294967295) (imul .u64 (ibits .and .u64 a0 4294967295) (ishr .u64 a1 32))) 32)),(imul .u64 a0 a1))
noncomputable def bits_Mul64.sp (k:Nat):Go.Sx.Spec:=⟨(.pair T12 (.pair T12 .unit)),(.more (.dp T12) (.one (.dp T12))),fun x=>bits_Mul64 k x.1 x.2.1,false⟩
noncomputable def bits_Mul64.cx (k:Nat):Go.Sx.Ctx:=⟨tys,[],eqs,51,0,[],false⟩
theorem bits_Mul64.cok (k:Nat):CtxOk PR (bits_Mul64.cx k):=ctx_ok tysOk eqsOk FnsOk.nil HsOk.nil
theorem bits_Mul64.way (k:Nat) (a0 a1:Int):Owp (bits_Mul64 k a0 a1) fun y=>∃ w c0,exec PR (bits_Mul64.cx k) bits_Mul64.code 0 (entry (.pair T12 (.pair T12 .unit)) (a0,a1,())).st w (Ret (bits_Mul64.cx k) Try.f186 c0 (.more (.dp T12) (.one (.dp T12))) y):=by
  unfold bits_Mul64; exact
   Owp.some (⟨[],[],via (retP (aI (aI (aI (aI (aI trivial (by decide:ng (32:Int))) (by decide:ng (32:Int))) (by decide:ng (32:Int))) (by decide:ng (32:Int))) (by decide:ng (32:Int))) (.more (.dp T12) (.one (.dp T12))) (((iadd .u64 (iadd .u64 (imul .u64 (ishr .u64 a0 (32:Int)) (ishr .u64 a1 (32:Int))) (ishr .u64 (iadd .u64 (imul .u64 (ishr .u64 a0 (32:Int)) (ibits .and .u64 a1 (4294967295:Int))) (ishr .u64 (imul .u64 (ibits .and .u64 a0 (4294967295:Int)) (ibits .and .u64 a1 (4294967295:Int))) (32:Int))) (32:Int))) (ishr .u64 (iadd .u64 (ibits .and .u64 (iadd .u64 (imul .u64 (ishr .u64 a0 (32:Int)) (ibits .and .u64 a1 (4294967295:Int))) (ishr .u64 (imul .u64 (ibits .and .u64 a0 (4294967295:Int)) (ibits .and .u64 a1 (4294967295:Int))) (32:Int))) (4294967295:Int)) (imul .u64 (ibits .and .u64 a0 (4294967295:Int)) (ishr .u64 a1 (32:Int)))) (32:Int))),(imul .u64 a0 a1)):(Int × Int))) (by kernel_rfl)⟩)
theorem bits_Mul64.ok (k:Nat):FnOk PR 186 (bits_Mul64.sp k) :=
  fn_ok (bits_Mul64.cok k) hmix Try.func186 (code:=bits_Mul64.code) (by kernel_rfl) (by kernel_rfl) (by kernel_rfl) rfl rfl (by kernel_rfl) (by kernel_rfl) (by kernel_rfl) (fun x=>Nat.le_of_ble_eq_true (by kernel_rfl)) fun x y hy=>(bits_Mul64.way k x.1 x.2.1).ap hy
noncomputable def poly_Times.code:Code:=Func.cd Try.f208
def poly_Times.c1 (k:Nat) (a0 a1:Int) (y1:(Int × Int)):Option (Int) :=
  bif' (ilt a0 0)
  (some (isub .i64 (icv .i64 y1.1) a1))
  (some (icv .i64 y1.1))
def poly_Times.c2 (k:Nat) (a0 a1 o4:Int):Option (Int) :=
  bif' (ilt a1 0)
  (some (isub .i64 o4 a0))
  (some o4)
def poly_Times (k:Nat) (a0 a1:Int):Option V154 :=
  bnd (bits_Mul64 k (icv .u64 a0) (icv .u64 a1)) fun y1 =>
  bnd (poly_Times.c1 k a0 a1 y1) fun o4 =>
  bnd (poly_Times.c2 k a0 a1 o4) fun o7 =>
  some (o7,y1.2,())
noncomputable def poly_Times.sp (k:Nat):Go.Sx.Spec:=⟨T27,(.one (.dp T154)),fun x=>poly_Times k x.1 x.2.1,false⟩
noncomputable def poly_Times.cx (k:Nat):Go.Sx.Ctx:=⟨tys,[(186,bits_Mul64.sp k)],eqs,31,0,[],false⟩
theorem poly_Times.cok (k:Nat):CtxOk PR (poly_Times.cx k):=ctx_ok tysOk eqsOk (FnsOk.cons (bits_Mul64.ok k) FnsOk.nil) HsOk.nil
noncomputable def poly_Times.c1p (a0 a1:Int) (y1:(Int × Int)):SL:=⟨[(0,(.val T2 a0)),(1,(.val T2 a1)),(4,(.val .ptr ⟨0,0,(0:Int),0,0⟩)),(6,(.val T12 y1.2)),(7,(.val T2 (icv .i64 y1.1))),(19,(.val T4 (ilt a0 (0:Int))))],[(0,.cells T154 ((0:Int),(0:Int),()))]⟩
noncomputable def poly_Times.c1q (a0 a1:Int) (y1:(Int × Int)) (o:Int):SL:=(fun v=>⟨[(0,(.val T2 a0)),(1,(.val T2 a1)),(4,(.val .ptr ⟨0,0,(0:Int),0,0⟩)),(6,(.val T12 y1.2)),(7,(.val T2 v))],[(0,.cells T154 ((0:Int),(0:Int),()))]⟩) o
noncomputable def poly_Times.c1x (o:Int):Ex:=(fun _=>.normal) o
noncomputable def poly_Times.c1n (o:Int):Nat:=(fun _=>1) o
theorem poly_Times.c1_ok (k:Nat) (a0 a1:Int) (y1:(Int × Int)):Owp (poly_Times.c1 k a0 a1 y1) fun o=>Triple PR (poly_Times.cx k) (sub poly_Times.code [1,1,1,0,1]) 1 (poly_Times.c1p a0 a1 y1) (poly_Times.c1x o) (poly_Times.c1n o) (poly_Times.c1q a0 a1 y1 o):=by
  unfold poly_Times.c1; exact
   Owp.bif (fun e3 =>
   Owp.some (triple_way (poly_Times.cok k) hmix [tT] [] [(0,0)] (via (finP (aI trivial e3) .normal [(0,0)] (poly_Times.c1q a0 a1 y1 (isub .i64 (icv .i64 y1.1) a1))) (by kernel_rfl)))) (fun e3 =>
   Owp.some (triple_way (poly_Times.cok k) hmix [fF] [] [(0,0)] (via (finP (aI trivial e3) .normal [(0,0)] (poly_Times.c1q a0 a1 y1 (icv .i64 y1.1))) (by kernel_rfl))))
noncomputable def poly_Times.c2p (a0 a1 o4:Int) (y1:(Int × Int)):SL:=⟨[(0,(.val T2 a0)),(4,(.val .ptr ⟨0,0,(0:Int),0,0⟩)),(6,(.val T12 y1.2)),(7,(.val T2 o4)),(24,(.val T4 (ilt a1 (0:Int))))],[(0,.cells T154 ((0:Int),(0:Int),()))]⟩
noncomputable def poly_Times.c2q (y1:(Int × Int)) (o:Int):SL:=(fun v=>⟨[(4,(.val .ptr ⟨0,0,(0:Int),0,0⟩)),(6,(.val T12 y1.2)),(7,(.val T2 v))],[(0,.cells T154 ((0:Int),(0:Int),()))]⟩) o
noncomputable def poly_Times.c2x (o:Int):Ex:=(fun _=>.normal) o
noncomputable def poly_Times.c2n (o:Int):Nat:=(fun _=>1) o
theorem poly_Times.c2_ok (k:Nat) (a0 a1 o4:Int) (y1:(Int × Int)):Owp (poly_Times.c2 k a0 a1 o4) fun o=>Triple PR (poly_Times.cx k) (sub poly_Times.code [1,1,1,1,0,1]) 1 (poly_Times.c2p a0 a1 o4 y1) (poly_Times.c2x o) (poly_Times.c2n o) (poly_Times.c2q y1 o):=by
  unfold poly_Times.c2; exact
   Owp.bif (fun e6 =>
   Owp.some (triple_way (poly_Times.cok k) hmix [tT] [] [(0,0)] (via (finP (aI trivial e6) .normal [(0,0)] (poly_Times.c2q y1 (isub .i64 o4 a0))) (by kernel_rfl)))) (fun e6 =>
   Owp.some (triple_way (poly_Times.cok k) hmix [fF] [] [(0,0)] (via (finP (aI trivial e6) .normal [(0,0)] (poly_Times.c2q y1 o4)) (by kernel_rfl))))
theorem poly_Times.way (k:Nat) (a0 a1:Int):Owp (poly_Times k a0 a1) fun y=>∃ w c0,exec PR (poly_Times.cx k) poly_Times.code 0 (entry T27 (a0,a1,())).st w (Ret (poly_Times.cx k) Try.f208 c0 (.one (.dp T154)) y):=by
  unfold poly_Times; exact
   Owp.bnd fun y1 e2 =>
   Owp.bnd fun o4 e5 =>
   Owp.bnd fun o7 e8 =>
   Owp.some (⟨[.res (.more (.dp T12) (.one (.dp T12))) y1,.cut ⟨[],[(0,0)],(poly_Times.c1p a0 a1 y1),1,.normal,(poly_Times.c1q a0 a1 y1 o4),1⟩,.cut ⟨[],[(0,0)],(poly_Times.c2p a0 a1 o4 y1),1,.normal,(poly_Times.c2q y1 o7),1⟩],[],via (cutP (aI trivial e2) [(0,0)] (poly_Times.c1p a0 a1 y1) (((poly_Times.c1_ok k a0 a1 y1).ap e5)) (cutP trivial [(0,0)] (poly_Times.c2p a0 a1 o4 y1) (((poly_Times.c2_ok k a0 a1 o4 y1).ap e8)) (retP trivial (.one (.dp T154)) ((o7,y1.2,()):V154)))) (by kernel_rfl)⟩)
theorem poly_Times.ok (k:Nat):FnOk PR 208 (poly_Times.sp k) :=
  fn_ok (poly_Times.cok k) hmix Try.func208 (code:=poly_Times.code) (by kernel_rfl) (by kernel_rfl) (by kernel_rfl) rfl rfl (by kernel_rfl) (by kernel_rfl) (by kernel_rfl) (fun x=>Nat.le_of_ble_eq_true (by kernel_rfl)) fun x y hy=>(poly_Times.way k x.1 x.2.1).ap hy
noncomputable def poly_Wide_Cmp.code:Code:=Func.cd Try.f152
def poly_Wide_Cmp.c1 (k:Nat) (a0 a1:V154):Option (Bool) :=
  bif' (ilt a0.1 a1.1)
  (some true)
  (bif' (ieq a0.1 a1.1)
   (some (ilt a0.2.1 a1.2.1))
   (some false))
def poly_Wide_Cmp (k:Nat) (a0 a1:V154):Option Int :=
  bif' (Ty.eqb T154 a0 a1)
  (some 0)
  (bnd (poly_Wide_Cmp.c1 k a0 a1) fun o4 =>
   bif' o4
   (some (-1))
   (some 1))
noncomputable def poly_Wide_Cmp.sp (k:Nat):Go.Sx.Spec:=⟨(.pair T154 (.pair T154 .unit)),(.one (.dp T2)),fun x=>poly_Wide_Cmp k x.1 x.2.1,false⟩
noncomputable def poly_Wide_Cmp.cx (k:Nat):Go.Sx.Ctx:=⟨tys,[],eqs,29,0,[],false⟩
theorem poly_Wide_Cmp.cok (k:Nat):CtxOk PR (poly_Wide_Cmp.cx k):=ctx_ok tysOk eqsOk FnsOk.nil HsOk.nil
noncomputable def poly_Wide_Cmp.c1p (a0 a1:V154):SL:=⟨[(2,(.val .ptr ⟨0,0,(0:Int),0,0⟩)),(3,(.val .ptr ⟨1,0,(0:Int),0,0⟩))],[(0,.cells T154 a0),(1,.cells T154 a1)]⟩
noncomputable def poly_Wide_Cmp.c1q (o:Bool):SL:=(fun v=>⟨[(9,(.val T4 v))],[]⟩) o
noncomputable def poly_Wide_Cmp.c1x (o:Bool):Ex:=(fun _=>.normal) o
noncomputable def poly_Wide_Cmp.c1n (o:Bool):Nat:=(fun _=>0) o
theorem poly_Wide_Cmp.c1_ok (k:Nat) (a0 a1:V154):Owp (poly_Wide_Cmp.c1 k a0 a1) fun o=>Triple PR (poly_Wide_Cmp.cx k) (sub poly_Wide_Cmp.code [1,0,0,1,1,0]) 2 (poly_Wide_Cmp.c1p a0 a1) (poly_Wide_Cmp.c1x o) (poly_Wide_Cmp.c1n o) (poly_Wide_Cmp.c1q o):=by
  unfold poly_Wide_Cmp.c1; exact
   Owp.bif (fun e2 =>
   Owp.some (triple_way (poly_Wide_Cmp.cok k) hmix [tT,tT,tT,tT,tT,tT,tT,tT,tT,tT,tT,tT,tT,tT] [] [] (via (finP (aI (aI (aI (aI (aI (aI (aI (aI trivial e2) e2) e2) e2) e2) e2) e2) e2) .normal [] (poly_Wide_Cmp.c1q true)) (by kernel_rfl)))) (fun e2 =>
   Owp.bif (fun e3 =>
   Owp.some (triple_way (poly_Wide_Cmp.cok k) hmix [fF,fF,fF,fF,fF,fF,tT,tT,tT,tT,tT,fF,tT,fF] [] [] (via (finP (aI (aI (aI (aI (aI (aI (aI (aI (aI (aI (aI (aI (aI trivial e2) e2) e2) e2) e2) e2) e3) e3) e3) e3) e3) (aI e2 e3)) e2) .normal [] (poly_Wide_Cmp.c1q (ilt a0.2.1 a1.2.1))) (by kernel_rfl)))) (fun e3 =>
   Owp.some (triple_way (poly_Wide_Cmp.cok k) hmix [fF,fF,fF,fF,fF,fF,fF,fF,fF,fF,fF,fF,fF,fF] [] [] (via (finP (aI (aI (aI (aI (aI (aI (aI (aI (aI (aI (aI (aI (aI trivial e2) e2) e2) e2) e2) e2) e3) e3) e3) e3) e3) (aI e2 e3)) e2) .normal [] (poly_Wide_Cmp.c1q false)) (by kernel_rfl)))))
theorem poly_Wide_Cmp.way (k:Nat) (a0 a1:V154):Owp (poly_Wide_Cmp k a0 a1) fun y=>∃ w c0,exec PR (poly_Wide_Cmp.cx k) poly_Wide_Cmp.code 0 (entry (.pair T154 (.pair T154 .unit)) (a0,a1,())).st w (Ret (poly_Wide_Cmp.cx k) Try.f152 c0 (.one (.dp T2)) y):=by
  unfold poly_Wide_Cmp; exact
   Owp.bif (fun e1 =>
   Owp.some (⟨[tT],[],via (retP (aI trivial e1) (.one (.dp T2)) ((0:Int):Int)) (by kernel_rfl)⟩)) (fun e1 =>
   Owp.bnd fun o4 e5 =>
   Owp.bif (fun e6 =>
   Owp.some (⟨[fF,.cutR 3 ⟨[],[(0,0),(1,1)],(poly_Wide_Cmp.c1p a0 a1),2,.normal,(poly_Wide_Cmp.c1q o4),0⟩,tT],[],via (cutP (aI trivial e1) [(0,0),(1,1)] (poly_Wide_Cmp.c1p a0 a1) (((poly_Wide_Cmp.c1_ok k a0 a1).ap e5)) (retP (aI trivial e6) (.one (.dp T2)) ((-1:Int):Int))) (by kernel_rfl)⟩)) (fun e6 =>
   Owp.some (⟨[fF,.cutR 3 ⟨[],[(0,0),(1,1)],(poly_Wide_Cmp.c1p a0 a1),2,.normal,(poly_Wide_Cmp.c1q o4),0⟩,fF],[],via (cutP (aI trivial e1) [(0,0),(1,1)] (poly_Wide_Cmp.c1p a0 a1) (((poly_Wide_Cmp.c1_ok k a0 a1).ap e5)) (retP (aI trivial e6) (.one (.dp T2)) ((1:Int):Int))) (by kernel_rfl)⟩)))
theorem poly_Wide_Cmp.ok (k:Nat):FnOk PR 152 (poly_Wide_Cmp.sp k) :=
  fn_ok (poly_Wide_Cmp.cok k) hmix Try.func152 (code:=poly_Wide_Cmp.code) (by kernel_rfl) (by kernel_rfl) (by kernel_rfl) rfl rfl (by kernel_rfl) (by kernel_rfl) (by kernel_rfl) (fun x=>Nat.le_of_ble_eq_true (by kernel_rfl)) fun x y hy=>(poly_Wide_Cmp.way k x.1 x.2.1).ap hy
noncomputable def r2_Big_Below.code:Code:=Func.cd Try.f182
def r2_Big_Below (k:Nat) (a0:(List Int)):Option Bool :=
  some (ieq (ishr .u32 (el 0 a0 7) 15) 1)
noncomputable def r2_Big_Below.sp (k:Nat):Go.Sx.Spec:=⟨(.pair T141 .unit),(.one (.dp T4)),fun x=>r2_Big_Below k x.1,false⟩
noncomputable def r2_Big_Below.cx (k:Nat):Go.Sx.Ctx:=⟨tys,[],eqs,7,0,[],false⟩
theorem r2_Big_Below.cok (k:Nat):CtxOk PR (r2_Big_Below.cx k):=ctx_ok tysOk eqsOk FnsOk.nil HsOk.nil
theorem r2_Big_Below.way (k:Nat) (a0:(List Int)):Owp (r2_Big_Below k a0) fun y=>∃ w c0,exec PR (r2_Big_Below.cx k) r2_Big_Below.code 0 (entry (.pair T141 .unit) (a0,())).st w (Ret (r2_Big_Below.cx k) Try.f182 c0 (.one (.dp T4)) y):=by
  unfold r2_Big_Below; exact
   Owp.some (⟨[],[],via (retP (aI (aI (aI trivial (by decide:inR (7:Int) 8)) (by decide:inR (7:Int) 8)) (by decide:ng (15:Int))) (.one (.dp T4)) ((ieq (ishr .u32 (el (0:Int) a0 (7:Int)) (15:Int)) (1:Int)):Bool)) (by kernel_rfl)⟩)
theorem r2_Big_Below.ok (k:Nat):FnOk PR 182 (r2_Big_Below.sp k) :=
  fn_ok (r2_Big_Below.cok k) hmix Try.func182 (code:=r2_Big_Below.code) (by kernel_rfl) (by kernel_rfl) (by kernel_rfl) rfl rfl (by kernel_rfl) (by kernel_rfl) (by kernel_rfl) (fun x=>Nat.le_of_ble_eq_true (by kernel_rfl)) fun x y hy=>(r2_Big_Below.way k x.1).ap hy
noncomputable def r2_Big_Cmp.code:Code:=Func.cd Try.f136
def r2_Big_Cmp.c1 (k:Nat) (a0 a1:(List Int)):Nat → Int → Option (Int ⊕ Unit)
  | 0,_=>none
  | n+1,v6 =>
   bif' (ige v6 0)
   (req (inR v6 8) <|
   bif' (ine (el 0 a0 v6) (el 0 a1 v6))
   (bif' (ilt (el 0 a0 v6) (el 0 a1 v6))
   (some (.inl (-1)))
   (some (.inl 1)))
   (r2_Big_Cmp.c1 k a0 a1 n (isub .i64 v6 1)))
   (some (.inr ()))
def r2_Big_Cmp (k:Nat) (a0 a1:(List Int)):Option Int :=
  bnd (r2_Big_Below k a0) fun y1 =>
  bnd (r2_Big_Below k a1) fun y3 =>
  bif' (Ty.eqb T4 y1 y3)
  (bnd (r2_Big_Cmp.c1 k a0 a1 k 7) fun o11 =>
   two o11 (fun y13 =>
   some y13) (fun y15 =>
   some 0))
  (bnd (r2_Big_Below k a0) fun y17 =>
   bif' y17
   (some (-1))
   (some 1))
noncomputable def r2_Big_Cmp.sp (k:Nat):Go.Sx.Spec:=⟨(.pair T141 (.pair T141 .unit)),(.one (.dp T2)),fun x=>r2_Big_Cmp k x.1 x.2.1,false⟩
noncomputable def r2_Big_Cmp.cx (k:Nat):Go.Sx.Ctx:=⟨tys,[(182,r2_Big_Below.sp k)],eqs,31,0,[],false⟩
theorem r2_Big_Cmp.cok (k:Nat):CtxOk PR (r2_Big_Cmp.cx k):=ctx_ok tysOk eqsOk (FnsOk.cons (r2_Big_Below.ok k) FnsOk.nil) HsOk.nil
noncomputable def r2_Big_Cmp.c1p (a0 a1:(List Int)) (v6:Int):SL:=⟨[(2,(.val .ptr ⟨0,0,(0:Int),0,0⟩)),(3,(.val .ptr ⟨1,0,(0:Int),0,0⟩)),(5,(.val T2 v6))],[(0,.cells T141 a0),(1,.cells T141 a1)]⟩
noncomputable def r2_Big_Cmp.c1q (o:Int ⊕ Unit):SL:=(fun o=>two o (fun v=>⟨[(4,(.val T2 v))],[]⟩) (fun v=>⟨[],[]⟩)) o
noncomputable def r2_Big_Cmp.c1x (o:Int ⊕ Unit):Ex:=(fun o=>two o (fun _=>.ret) (fun _=>(.exit 0))) o
noncomputable def r2_Big_Cmp.c1n (o:Int ⊕ Unit):Nat:=(fun o=>two o (fun _=>0) (fun _=>0)) o
theorem r2_Big_Cmp.c1_ok (k:Nat) (a0 a1:(List Int)):∀ (n:Nat) (v6:Int),Owp (r2_Big_Cmp.c1 k a0 a1 n v6) fun o=>LTriple PR (r2_Big_Cmp.cx k) (sub r2_Big_Cmp.code [1,1,0,1,0,0]) 2 (r2_Big_Cmp.c1p a0 a1 v6) (r2_Big_Cmp.c1x o) (r2_Big_Cmp.c1n o) (r2_Big_Cmp.c1q o)
  | 0,_=>fun _ h=>nomatch h
  | n+1,v6=>Owp.of (r2_Big_Cmp.c1.eq_2 ..) (
   Owp.bif (fun e7 =>
   Owp.req fun h8 =>
   Owp.bif (fun e9 =>
   Owp.bif (fun e10 =>
   Owp.some (loop_exit (r2_Big_Cmp.cok k) hmix [tT,tT,tT] [] [] exne_ret (via (finP (aI (aI (aI (aI (aI (aI (aI (aI (aI (aI (aI trivial e7) h8) h8) h8) h8) e9) h8) h8) h8) h8) e10) .ret [] (r2_Big_Cmp.c1q (.inl (-1:Int)))) (by kernel_rfl)))) (fun e10 =>
   Owp.some (loop_exit (r2_Big_Cmp.cok k) hmix [tT,tT,fF] [] [] exne_ret (via (finP (aI (aI (aI (aI (aI (aI (aI (aI (aI (aI (aI trivial e7) h8) h8) h8) h8) e9) h8) h8) h8) h8) e10) .ret [] (r2_Big_Cmp.c1q (.inl (1:Int)))) (by kernel_rfl))))) (fun e9 =>
   fun y hy=>loop_back (r2_Big_Cmp.cok k) hmix 2 (r2_Big_Cmp.c1p a0 a1 (isub .i64 v6 (1:Int))) [tT,fF] [] [(0,0),(1,1)] (via (finP (aI (aI (aI (aI (aI (aI trivial e7) h8) h8) h8) h8) e9) .normal [(0,0),(1,1)] (r2_Big_Cmp.c1p a0 a1 (isub .i64 v6 (1:Int)))) (by kernel_rfl)) ((r2_Big_Cmp.c1_ok k a0 a1 n (isub .i64 v6 (1:Int))).ap hy))) (fun e7 =>
   Owp.some (loop_exit (r2_Big_Cmp.cok k) hmix [fF] [] [] (exne 0) (via (finP (aI trivial e7) (.exit 0) [] (r2_Big_Cmp.c1q (.inr ()))) (by kernel_rfl)))))
theorem r2_Big_Cmp.way (k:Nat) (a0 a1:(List Int)):Owp (r2_Big_Cmp k a0 a1) fun y=>∃ w c0,exec PR (r2_Big_Cmp.cx k) r2_Big_Cmp.code 0 (entry (.pair T141 (.pair T141 .unit)) (a0,a1,())).st w (Ret (r2_Big_Cmp.cx k) Try.f136 c0 (.one (.dp T2)) y):=by
  unfold r2_Big_Cmp; exact
   Owp.bnd fun y1 e2 =>
   Owp.bnd fun y3 e4 =>
   Owp.bif (fun e5 =>
   Owp.bnd fun o11 e12 =>
   Owp.two (fun y13 e14 =>
   Owp.some (⟨[rS T4 y1,rS T4 y3,fF,.cut ⟨[],[(0,0),(1,1)],(r2_Big_Cmp.c1p a0 a1 (7:Int)),2,.ret,(r2_Big_Cmp.c1q (.inl y13)),0⟩],[],via (cutP (aI (aI (aI trivial e2) e4) (congrArg not e5)) [(0,0),(1,1)] (r2_Big_Cmp.c1p a0 a1 (7:Int)) (((r2_Big_Cmp.c1_ok k a0 a1 k (7:Int)).ap (e12.trans (congrArg some e14))).triple) (retP trivial (.one (.dp T2)) (y13:Int))) (by kernel_rfl)⟩)) (fun y15 e16 =>
   Owp.some (⟨[rS T4 y1,rS T4 y3,fF,.cut ⟨[],[(0,0),(1,1)],(r2_Big_Cmp.c1p a0 a1 (7:Int)),2,(.exit 0),(r2_Big_Cmp.c1q (.inr ())),0⟩],[],via (cutP (aI (aI (aI trivial e2) e4) (congrArg not e5)) [(0,0),(1,1)] (r2_Big_Cmp.c1p a0 a1 (7:Int)) (((r2_Big_Cmp.c1_ok k a0 a1 k (7:Int)).ap (e12.trans (congrArg some e16))).triple) (retP trivial (.one (.dp T2)) ((0:Int):Int))) (by kernel_rfl)⟩))) (fun e5 =>
   Owp.bnd fun y17 e18 =>
   Owp.bif (fun e19 =>
   Owp.some (⟨[rS T4 y1,rS T4 y3,tT,rS T4 y17,tT],[],via (retP (aI (aI (aI (aI (aI trivial e2) e4) (congrArg not e5)) e18) e19) (.one (.dp T2)) ((-1:Int):Int)) (by kernel_rfl)⟩)) (fun e19 =>
   Owp.some (⟨[rS T4 y1,rS T4 y3,tT,rS T4 y17,fF],[],via (retP (aI (aI (aI (aI (aI trivial e2) e4) (congrArg not e5)) e18) e19) (.one (.dp T2)) ((1:Int):Int)) (by kernel_rfl)⟩)))
theorem r2_Big_Cmp.ok (k:Nat):FnOk PR 136 (r2_Big_Cmp.sp k) :=
  fn_ok (r2_Big_Cmp.cok k) hmix Try.func136 (code:=r2_Big_Cmp.code) (by kernel_rfl) (by kernel_rfl) (by kernel_rfl) rfl rfl (by kernel_rfl) (by kernel_rfl) (by kernel_rfl) (fun x=>Nat.le_of_ble_eq_true (by kernel_rfl)) fun x y hy=>(r2_Big_Cmp.way k x.1 x.2.1).ap hy
noncomputable def r2_Big_Mul.code:Code:=Func.cd Try.f180
def r2_Big_Mul.c2 (k:Nat) (a0 a1:(List Int)) (v1:Int):Nat → Int → Int → (List Int) → Option ((List Int))
  | 0,_,_,_=>none
  | n+1,v4,v5,v6 =>
   bif' (ilt (iadd .i64 v1 v5) 8)
   (req (inR v1 8) <|
   req (inR v5 8) <|
   req (inR (iadd .i64 v1 v5) 8) <|
   r2_Big_Mul.c2 k a0 a1 v1 n (ishr .u64 (iadd .u64 v4 (iadd .u64 (imul .u64 (icv .u64 (el 0 a0 v1)) (icv .u64 (el 0 a1 v5))) (icv .u64 (el 0 v6 (iadd .i64 v1 v5))))) 16) (iadd .i64 v5 1) (st v6 (iadd .i64 v1 v5) (icv .u32 (ibits .and .u64 (iadd .u64 v4 (iadd .u64 (imul .u64 (icv .u64 (el 0 a0 v1)) (icv .u64 (el 0 a1 v5))) (icv .u64 (el 0 v6 (iadd .i64 v1 v5))))) 65535))))
   (some v6)
def r2_Big_Mul.c1 (k:Nat) (a0 a1:(List Int)):Nat → Int → (List Int) → Option ((List Int))
  | 0,_,_=>none
  | n+1,v1,v2 =>
   bif' (ilt v1 8)
   (bnd (r2_Big_Mul.c2 k a0 a1 v1 k 0 0 v2) fun o11 =>
   r2_Big_Mul.c1 k a0 a1 n (iadd .i64 v1 1) o11)
   (some v2)
def r2_Big_Mul (k:Nat) (a0 a1:(List Int)):Option (List Int) :=
  bnd (r2_Big_Mul.c1 k a0 a1 k 0 (List.replicate 8 0)) fun o13 =>
  some o13
noncomputable def r2_Big_Mul.sp (k:Nat):Go.Sx.Spec:=⟨(.pair T141 (.pair T141 .unit)),(.one (.dp T141)),fun x=>r2_Big_Mul k x.1 x.2.1,false⟩
noncomputable def r2_Big_Mul.cx (k:Nat):Go.Sx.Ctx:=⟨tys,[],eqs,47,0,[],false⟩
theorem r2_Big_Mul.cok (k:Nat):CtxOk PR (r2_Big_Mul.cx k):=ctx_ok tysOk eqsOk FnsOk.nil HsOk.nil
noncomputable def r2_Big_Mul.c2p (a0 a1:(List Int)) (v1 v4 v5:Int) (v6:(List Int)):SL:=⟨[(2,(.val .ptr ⟨0,0,(0:Int),0,0⟩)),(3,(.val .ptr ⟨1,0,(0:Int),0,0⟩)),(4,(.val .ptr ⟨2,0,(0:Int),0,0⟩)),(5,(.val .ptr ⟨3,0,(0:Int),0,0⟩)),(6,(.val T2 v1)),(7,(.val T12 v4)),(8,(.val T2 v5)),(9,(.val T2 v1))],[(0,.cells T141 a0),(1,.cells T141 a1),(2,.cells T141 (List.replicate 8 (0:Int))),(3,.cells T141 v6)]⟩
noncomputable def r2_Big_Mul.c2q (a0 a1:(List Int)) (v1:Int) (o:(List Int)):SL:=(fun v=>⟨[(2,(.val .ptr ⟨0,0,(0:Int),0,0⟩)),(3,(.val .ptr ⟨1,0,(0:Int),0,0⟩)),(4,(.val .ptr ⟨2,0,(0:Int),0,0⟩)),(5,(.val .ptr ⟨3,0,(0:Int),0,0⟩)),(9,(.val T2 v1))],[(0,.cells T141 a0),(1,.cells T141 a1),(2,.cells T141 (List.replicate 8 (0:Int))),(3,.cells T141 v)]⟩) o
noncomputable def r2_Big_Mul.c2x (o:(List Int)):Ex:=(fun _=>(.exit 2)) o
noncomputable def r2_Big_Mul.c2n (o:(List Int)):Nat:=(fun _=>4) o
theorem r2_Big_Mul.c2_ok (k:Nat) (a0 a1:(List Int)) (v1:Int):∀ (n:Nat) (v4 v5:Int) (v6:(List Int)),Owp (r2_Big_Mul.c2 k a0 a1 v1 n v4 v5 v6) fun o=>LTriple PR (r2_Big_Mul.cx k) (sub r2_Big_Mul.code [1,1,0,1,0,0,1,1,0,0,1,1,1,0,0]) 4 (r2_Big_Mul.c2p a0 a1 v1 v4 v5 v6) (r2_Big_Mul.c2x o) (r2_Big_Mul.c2n o) (r2_Big_Mul.c2q a0 a1 v1 o)
  | 0,_,_,_=>fun _ h=>nomatch h
  | n+1,v4,v5,v6=>Owp.of (r2_Big_Mul.c2.eq_2 ..) (
   Owp.bif (fun e7 =>
   Owp.req fun h8 =>
   Owp.req fun h9 =>
   Owp.req fun h10 =>
   fun y hy=>loop_back (r2_Big_Mul.cok k) hmix 4 (r2_Big_Mul.c2p a0 a1 v1 (ishr .u64 (iadd .u64 v4 (iadd .u64 (imul .u64 (icv .u64 (el (0:Int) a0 v1)) (icv .u64 (el (0:Int) a1 v5))) (icv .u64 (el (0:Int) v6 (iadd .i64 v1 v5))))) (16:Int)) (iadd .i64 v5 (1:Int)) (st v6 (iadd .i64 v1 v5) (icv .u32 (ibits .and .u64 (iadd .u64 v4 (iadd .u64 (imul .u64 (icv .u64 (el (0:Int) a0 v1)) (icv .u64 (el (0:Int) a1 v5))) (icv .u64 (el (0:Int) v6 (iadd .i64 v1 v5))))) (65535:Int))))) [tT] [] [(0,0),(1,1),(2,2),(3,3)] (via (finP (aI (aI (aI (aI (aI (aI (aI (aI (aI (aI trivial e7) h8) h8) h9) h9) h10) h10) (by decide:ng (16:Int))) h10) h10) .normal [(0,0),(1,1),(2,2),(3,3)] (r2_Big_Mul.c2p a0 a1 v1 (ishr .u64 (iadd .u64 v4 (iadd .u64 (imul .u64 (icv .u64 (el (0:Int) a0 v1)) (icv .u64 (el (0:Int) a1 v5))) (icv .u64 (el (0:Int) v6 (iadd .i64 v1 v5))))) (16:Int)) (iadd .i64 v5 (1:Int)) (st v6 (iadd .i64 v1 v5) (icv .u32 (ibits .and .u64 (iadd .u64 v4 (iadd .u64 (imul .u64 (icv .u64 (el (0:Int) a0 v1)) (icv .u64 (el (0:Int) a1 v5))) (icv .u64 (el (0:Int) v6 (iadd .i64 v1 v5))))) (65535:Int)))))) (by kernel_rfl)) ((r2_Big_Mul.c2_ok k a0 a1 v1 n (ishr .u64 (iadd .u64 v4 (iadd .u64 (imul .u64 (icv .u64 (el (0:Int) a0 v1)) (icv .u64 (el (0:Int) a1 v5))) (icv .u64 (el (0:Int) v6 (iadd .i64 v1 v5))))) (16:Int)) (iadd .i64 v5 (1:Int)) (st v6 (iadd .i64 v1 v5) (icv .u32 (ibits .and .u64 (iadd .u64 v4 (iadd .u64 (imul .u64 (icv .u64 (el (0:Int) a0 v1)) (icv .u64 (el (0:Int) a1 v5))) (icv .u64 (el (0:Int) v6 (iadd .i64 v1 v5))))) (65535:Int))))).ap hy)) (fun e7 =>
   Owp.some (loop_exit (r2_Big_Mul.cok k) hmix [fF] [] [(0,0),(1,1),(2,2),(3,3)] (exne 2) (via (finP (aI trivial e7) (.exit 2) [(0,0),(1,1),(2,2),(3,3)] (r2_Big_Mul.c2q a0 a1 v1 v6)) (by kernel_rfl)))))
noncomputable def r2_Big_Mul.c1p (a0 a1:(List Int)) (v1:Int) (v2:(List Int)):SL:=⟨[(2,(.val .ptr ⟨0,0,(0:Int),0,0⟩)),(3,(.val .ptr ⟨1,0,(0:Int),0,0⟩)),(4,(.val .ptr ⟨2,0,(0:Int),0,0⟩)),(5,(.val .ptr ⟨3,0,(0:Int),0,0⟩)),(9,(.val T2 v1))],[(0,.cells T141 a0),(1,.cells T141 a1),(2,.cells T141 (List.replicate 8 (0:Int))),(3,.cells T141 v2)]⟩
noncomputable def r2_Big_Mul.c1q (o:(List Int)):SL:=(fun v=>⟨[(4,(.val .ptr ⟨0,0,(0:Int),0,0⟩)),(5,(.val .ptr ⟨1,0,(0:Int),0,0⟩))],[(0,.cells T141 (List.replicate 8 (0:Int))),(1,.cells T141 v)]⟩) o
noncomputable def r2_Big_Mul.c1x (o:(List Int)):Ex:=(fun _=>(.exit 0)) o
noncomputable def r2_Big_Mul.c1n (o:(List Int)):Nat:=(fun _=>2) o
theorem r2_Big_Mul.c1_ok (k:Nat) (a0 a1:(List Int)):∀ (n:Nat) (v1:Int) (v2:(List Int)),Owp (r2_Big_Mul.c1 k a0 a1 n v1 v2) fun o=>LTriple PR (r2_Big_Mul.cx k) (sub r2_Big_Mul.code [1,1,0,1,0,0]) 4 (r2_Big_Mul.c1p a0 a1 v1 v2) (r2_Big_Mul.c1x o) (r2_Big_Mul.c1n o) (r2_Big_Mul.c1q o)
  | 0,_,_=>fun _ h=>nomatch h
  | n+1,v1,v2=>Owp.of (r2_Big_Mul.c1.eq_2 ..) (
   Owp.bif (fun e3 =>
   Owp.bnd fun o11 e12 =>
   fun y hy=>loop_back (r2_Big_Mul.cok k) hmix 4 (r2_Big_Mul.c1p a0 a1 (iadd .i64 v1 (1:Int)) o11) [tT,.cut ⟨[],[(0,0),(1,1),(2,2),(3,3)],(r2_Big_Mul.c2p a0 a1 v1 (0:Int) (0:Int) v2),4,(.exit 2),(r2_Big_Mul.c2q a0 a1 v1 o11),4⟩] [] [(0,0),(1,1),(2,2),(3,3)] (via (cutP (aI trivial e3) [(0,0),(1,1),(2,2),(3,3)] (r2_Big_Mul.c2p a0 a1 v1 (0:Int) (0:Int) v2) (((r2_Big_Mul.c2_ok k a0 a1 v1 k (0:Int) (0:Int) v2).ap e12).triple) (finP trivial .normal [(0,0),(1,1),(2,2),(3,3)] (r2_Big_Mul.c1p a0 a1 (iadd .i64 v1 (1:Int)) o11))) (by kernel_rfl)) ((r2_Big_Mul.c1_ok k a0 a1 n (iadd .i64 v1 (1:Int)) o11).ap hy)) (fun e3 =>
   Owp.some (loop_exit (r2_Big_Mul.cok k) hmix [fF] [] [(0,2),(1,3)] (exne 0) (via (finP (aI trivial e3) (.exit 0) [(0,2),(1,3)] (r2_Big_Mul.c1q v2)) (by kernel_rfl)))))
theorem r2_Big_Mul.way (k:Nat) (a0 a1:(List Int)):Owp (r2_Big_Mul k a0 a1) fun y=>∃ w c0,exec PR (r2_Big_Mul.cx k) r2_Big_Mul.code 0 (entry (.pair T141 (.pair T141 .unit)) (a0,a1,())).st w (Ret (r2_Big_Mul.cx k) Try.f180 c0 (.one (.dp T141)) y):=by
  unfold r2_Big_Mul; exact
   Owp.bnd fun o13 e14 =>
   Owp.some (⟨[.cut ⟨[],[(0,0),(1,1),(2,2),(3,3)],(r2_Big_Mul.c1p a0 a1 (0:Int) (List.replicate 8 (0:Int))),4,(.exit 0),(r2_Big_Mul.c1q o13),2⟩],[],via (cutP trivial [(0,0),(1,1),(2,2),(3,3)] (r2_Big_Mul.c1p a0 a1 (0:Int) (List.replicate 8 (0:Int))) (((r2_Big_Mul.c1_ok k a0 a1 k (0:Int) (List.replicate 8 (0:Int))).ap e14).triple) (retP trivial (.one (.dp T141)) (o13:(List Int)))) (by kernel_rfl)⟩)
theorem r2_Big_Mul.ok (k:Nat):FnOk PR 180 (r2_Big_Mul.sp k) :=
  fn_ok (r2_Big_Mul.cok k) hmix Try.func180 (code:=r2_Big_Mul.code) (by kernel_rfl) (by kernel_rfl) (by kernel_rfl) rfl rfl (by kernel_rfl) (by kernel_rfl) (by kernel_rfl) (fun x=>Nat.le_of_ble_eq_true (by kernel_rfl)) fun x y hy=>(r2_Big_Mul.way k x.1 x.2.1).ap hy
noncomputable def r2_Big_Add.code:Code:=Func.cd Try.f181
def r2_Big_Add.c1 (k:Nat) (a0 a1:(List Int)):Nat → Int → Int → (List Int) → Option ((List Int))
  | 0,_,_,_=>none
  | n+1,v1,v2,v3 =>
   bif' (ilt v2 8)
   (req (inR v2 8) <|
   r2_Big_Add.c1 k a0 a1 n (ishr .u32 (iadd .u32 v1 (iadd .u32 (el 0 a0 v2) (el 0 a1 v2))) 16) (iadd .i64 v2 1) (st v3 v2 (ibits .and .u32 (iadd .u32 v1 (iadd .u32 (el 0 a0 v2) (el 0 a1 v2))) 65535)))
   (some v3)
def r2_Big_Add (k:Nat) (a0 a1:(List Int)):Option (List Int) :=
  bnd (r2_Big_Add.c1 k a0 a1 k 0 0 (List.replicate 8 0)) fun o6 =>
  some o6
noncomputable def r2_Big_Add.sp (k:Nat):Go.Sx.Spec:=⟨(.pair T141 (.pair T141 .unit)),(.one (.dp T141)),fun x=>r2_Big_Add k x.1 x.2.1,false⟩
noncomputable def r2_Big_Add.cx (k:Nat):Go.Sx.Ctx:=⟨tys,[],eqs,28,0,[],false⟩
theorem r2_Big_Add.cok (k:Nat):CtxOk PR (r2_Big_Add.cx k):=ctx_ok tysOk eqsOk FnsOk.nil HsOk.nil
noncomputable def r2_Big_Add.c1p (a0 a1:(List Int)) (v1 v2:Int) (v3:(List Int)):SL:=⟨[(2,(.val .ptr ⟨0,0,(0:Int),0,0⟩)),(3,(.val .ptr ⟨1,0,(0:Int),0,0⟩)),(4,(.val .ptr ⟨2,0,(0:Int),0,0⟩)),(5,(.val .ptr ⟨3,0,(0:Int),0,0⟩)),(6,(.val T140 v1)),(8,(.val T2 v2))],[(0,.cells T141 a0),(1,.cells T141 a1),(2,.cells T141 (List.replicate 8 (0:Int))),(3,.cells T141 v3)]⟩
noncomputable def r2_Big_Add.c1q (o:(List Int)):SL:=(fun v=>⟨[(4,(.val .ptr ⟨0,0,(0:Int),0,0⟩)),(5,(.val .ptr ⟨1,0,(0:Int),0,0⟩))],[(0,.cells T141 (List.replicate 8 (0:Int))),(1,.cells T141 v)]⟩) o
noncomputable def r2_Big_Add.c1x (o:(List Int)):Ex:=(fun _=>(.exit 0)) o
noncomputable def r2_Big_Add.c1n (o:(List Int)):Nat:=(fun _=>2) o
theorem r2_Big_Add.c1_ok (k:Nat) (a0 a1:(List Int)):∀ (n:Nat) (v1 v2:Int) (v3:(List Int)),Owp (r2_Big_Add.c1 k a0 a1 n v1 v2 v3) fun o=>LTriple PR (r2_Big_Add.cx k) (sub r2_Big_Add.code [1,1,1,0,1,0,0]) 4 (r2_Big_Add.c1p a0 a1 v1 v2 v3) (r2_Big_Add.c1x o) (r2_Big_Add.c1n o) (r2_Big_Add.c1q o)
  | 0,_,_,_=>fun _ h=>nomatch h
  | n+1,v1,v2,v3=>Owp.of (r2_Big_Add.c1.eq_2 ..) (
   Owp.bif (fun e4 =>
   Owp.req fun h5 =>
   fun y hy=>loop_back (r2_Big_Add.cok k) hmix 4 (r2_Big_Add.c1p a0 a1 (ishr .u32 (iadd .u32 v1 (iadd .u32 (el (0:Int) a0 v2) (el (0:Int) a1 v2))) (16:Int)) (iadd .i64 v2 (1:Int)) (st v3 v2 (ibits .and .u32 (iadd .u32 v1 (iadd .u32 (el (0:Int) a0 v2) (el (0:Int) a1 v2))) (65535:Int)))) [tT] [] [(0,0),(1,1),(2,2),(3,3)] (via (finP (aI (aI (aI (aI (aI (aI (aI (aI trivial e4) h5) h5) h5) h5) (by decide:ng (16:Int))) h5) h5) .normal [(0,0),(1,1),(2,2),(3,3)] (r2_Big_Add.c1p a0 a1 (ishr .u32 (iadd .u32 v1 (iadd .u32 (el (0:Int) a0 v2) (el (0:Int) a1 v2))) (16:Int)) (iadd .i64 v2 (1:Int)) (st v3 v2 (ibits .and .u32 (iadd .u32 v1 (iadd .u32 (el (0:Int) a0 v2) (el (0:Int) a1 v2))) (65535:Int))))) (by kernel_rfl)) ((r2_Big_Add.c1_ok k a0 a1 n (ishr .u32 (iadd .u32 v1 (iadd .u32 (el (0:Int) a0 v2) (el (0:Int) a1 v2))) (16:Int)) (iadd .i64 v2 (1:Int)) (st v3 v2 (ibits .and .u32 (iadd .u32 v1 (iadd .u32 (el (0:Int) a0 v2) (el (0:Int) a1 v2))) (65535:Int)))).ap hy)) (fun e4 =>
   Owp.some (loop_exit (r2_Big_Add.cok k) hmix [fF] [] [(0,2),(1,3)] (exne 0) (via (finP (aI trivial e4) (.exit 0) [(0,2),(1,3)] (r2_Big_Add.c1q v3)) (by kernel_rfl)))))
theorem r2_Big_Add.way (k:Nat) (a0 a1:(List Int)):Owp (r2_Big_Add k a0 a1) fun y=>∃ w c0,exec PR (r2_Big_Add.cx k) r2_Big_Add.code 0 (entry (.pair T141 (.pair T141 .unit)) (a0,a1,())).st w (Ret (r2_Big_Add.cx k) Try.f181 c0 (.one (.dp T141)) y):=by
  unfold r2_Big_Add; exact
   Owp.bnd fun o6 e7 =>
   Owp.some (⟨[.cut ⟨[],[(0,0),(1,1),(2,2),(3,3)],(r2_Big_Add.c1p a0 a1 (0:Int) (0:Int) (List.replicate 8 (0:Int))),4,(.exit 0),(r2_Big_Add.c1q o6),2⟩],[],via (cutP trivial [(0,0),(1,1),(2,2),(3,3)] (r2_Big_Add.c1p a0 a1 (0:Int) (0:Int) (List.replicate 8 (0:Int))) (((r2_Big_Add.c1_ok k a0 a1 k (0:Int) (0:Int) (List.replicate 8 (0:Int))).ap e7).triple) (retP trivial (.one (.dp T141)) (o6:(List Int)))) (by kernel_rfl)⟩)
theorem r2_Big_Add.ok (k:Nat):FnOk PR 181 (r2_Big_Add.sp k) :=
  fn_ok (r2_Big_Add.cok k) hmix Try.func181 (code:=r2_Big_Add.code) (by kernel_rfl) (by kernel_rfl) (by kernel_rfl) rfl rfl (by kernel_rfl) (by kernel_rfl) (by kernel_rfl) (fun x=>Nat.le_of_ble_eq_true (by kernel_rfl)) fun x y hy=>(r2_Big_Add.way k x.1 x.2.1).ap hy
noncomputable def r2_Of.code:Code:=Func.cd Try.f179
def r2_Of.c1 (k:Nat) (a0:Int):Nat → Int → (List Int) → Option ((List Int))
  | 0,_,_=>none
  | n+1,v1,v2 =>
   bif' (ilt v1 8)
   (bif' (ilt v1 4)
   (req (ng (imul .i64 16 v1)) <|
   req (inR v1 8) <|
   r2_Of.c1 k a0 n (iadd .i64 v1 1) (st v2 v1 (icv .u32 (ibits .and .u64 (ishr .u64 (icv .u64 a0) (imul .i64 16 v1)) 65535))))
   (bif' (ilt a0 0)
   (req (inR v1 8) <|
   r2_Of.c1 k a0 n (iadd .i64 v1 1) (st v2 v1 65535))
   (r2_Of.c1 k a0 n (iadd .i64 v1 1) v2)))
   (some v2)
def r2_Of (k:Nat) (a0:Int):Option (List Int) :=
  bnd (r2_Of.c1 k a0 k 0 (List.replicate 8 0)) fun o9 =>
  some o9
noncomputable def r2_Of.sp (k:Nat):Go.Sx.Spec:=⟨(.pair T2 .unit),(.one (.dp T141)),fun x=>r2_Of k x.1,false⟩
noncomputable def r2_Of.cx (k:Nat):Go.Sx.Ctx:=⟨tys,[],eqs,27,0,[],false⟩
theorem r2_Of.cok (k:Nat):CtxOk PR (r2_Of.cx k):=ctx_ok tysOk eqsOk FnsOk.nil HsOk.nil
noncomputable def r2_Of.c1p (a0 v1:Int) (v2:(List Int)):SL:=⟨[(0,(.val T2 a0)),(2,(.val .ptr ⟨0,0,(0:Int),0,0⟩)),(3,(.val .ptr ⟨1,0,(0:Int),0,0⟩)),(4,(.val T12 (icv .u64 a0))),(8,(.val T2 v1))],[(0,.cells T141 (List.replicate 8 (0:Int))),(1,.cells T141 v2)]⟩
noncomputable def r2_Of.c1q (o:(List Int)):SL:=(fun v=>⟨[(2,(.val .ptr ⟨0,0,(0:Int),0,0⟩)),(3,(.val .ptr ⟨1,0,(0:Int),0,0⟩))],[(0,.cells T141 (List.replicate 8 (0:Int))),(1,.cells T141 v)]⟩) o
noncomputable def r2_Of.c1x (o:(List Int)):Ex:=(fun _=>(.exit 0)) o
noncomputable def r2_Of.c1n (o:(List Int)):Nat:=(fun _=>2) o
theorem r2_Of.c1_ok (k:Nat) (a0:Int):∀ (n:Nat) (v1:Int) (v2:(List Int)),Owp (r2_Of.c1 k a0 n v1 v2) fun o=>LTriple PR (r2_Of.cx k) (sub r2_Of.code [1,1,1,0,1,0,0]) 2 (r2_Of.c1p a0 v1 v2) (r2_Of.c1x o) (r2_Of.c1n o) (r2_Of.c1q o)
  | 0,_,_=>fun _ h=>nomatch h
  | n+1,v1,v2=>Owp.of (r2_Of.c1.eq_2 ..) (
   Owp.bif (fun e3 =>
   Owp.bif (fun e4 =>
   Owp.req fun h5 =>
   Owp.req fun h6 =>
   fun y hy=>loop_back (r2_Of.cok k) hmix 2 (r2_Of.c1p a0 (iadd .i64 v1 (1:Int)) (st v2 v1 (icv .u32 (ibits .and .u64 (ishr .u64 (icv .u64 a0) (imul .i64 (16:Int) v1)) (65535:Int))))) [tT,tT] [] [(0,0),(1,1)] (via (finP (aI (aI (aI (aI (aI trivial e3) e4) h5) h6) h6) .normal [(0,0),(1,1)] (r2_Of.c1p a0 (iadd .i64 v1 (1:Int)) (st v2 v1 (icv .u32 (ibits .and .u64 (ishr .u64 (icv .u64 a0) (imul .i64 (16:Int) v1)) (65535:Int)))))) (by kernel_rfl)) ((r2_Of.c1_ok k a0 n (iadd .i64 v1 (1:Int)) (st v2 v1 (icv .u32 (ibits .and .u64 (ishr .u64 (icv .u64 a0) (imul .i64 (16:Int) v1)) (65535:Int))))).ap hy)) (fun e4 =>
   Owp.bif (fun e7 =>
   Owp.req fun h8 =>
   fun y hy=>loop_back (r2_Of.cok k) hmix 2 (r2_Of.c1p a0 (iadd .i64 v1 (1:Int)) (st v2 v1 (65535:Int))) [tT,fF,tT] [] [(0,0),(1,1)] (via (finP (aI (aI (aI (aI (aI trivial e3) e4) e7) h8) h8) .normal [(0,0),(1,1)] (r2_Of.c1p a0 (iadd .i64 v1 (1:Int)) (st v2 v1 (65535:Int)))) (by kernel_rfl)) ((r2_Of.c1_ok k a0 n (iadd .i64 v1 (1:Int)) (st v2 v1 (65535:Int))).ap hy)) (fun e7 =>
   fun y hy=>loop_back (r2_Of.cok k) hmix 2 (r2_Of.c1p a0 (iadd .i64 v1 (1:Int)) v2) [tT,fF,fF] [] [(0,0),(1,1)] (via (finP (aI (aI (aI trivial e3) e4) e7) .normal [(0,0),(1,1)] (r2_Of.c1p a0 (iadd .i64 v1 (1:Int)) v2)) (by kernel_rfl)) ((r2_Of.c1_ok k a0 n (iadd .i64 v1 (1:Int)) v2).ap hy)))) (fun e3 =>
   Owp.some (loop_exit (r2_Of.cok k) hmix [fF] [] [(0,0),(1,1)] (exne 0) (via (finP (aI trivial e3) (.exit 0) [(0,0),(1,1)] (r2_Of.c1q v2)) (by kernel_rfl)))))
theorem r2_Of.way (k:Nat) (a0:Int):Owp (r2_Of k a0) fun y=>∃ w c0,exec PR (r2_Of.cx k) r2_Of.code 0 (entry (.pair T2 .unit) (a0,())).st w (Ret (r2_Of.cx k) Try.f179 c0 (.one (.dp T141)) y):=by
  unfold r2_Of; exact
   Owp.bnd fun o9 e10 =>
   Owp.some (⟨[.cut ⟨[],[(0,0),(1,1)],(r2_Of.c1p a0 (0:Int) (List.replicate 8 (0:Int))),2,(.exit 0),(r2_Of.c1q o9),2⟩],[],via (cutP trivial [(0,0),(1,1)] (r2_Of.c1p a0 (0:Int) (List.replicate 8 (0:Int))) (((r2_Of.c1_ok k a0 k (0:Int) (List.replicate 8 (0:Int))).ap e10).triple) (retP trivial (.one (.dp T141)) (o9:(List Int)))) (by kernel_rfl)⟩)
theorem r2_Of.ok (k:Nat):FnOk PR 179 (r2_Of.sp k) :=
  fn_ok (r2_Of.cok k) hmix Try.func179 (code:=r2_Of.code) (by kernel_rfl) (by kernel_rfl) (by kernel_rfl) rfl rfl (by kernel_rfl) (by kernel_rfl) (by kernel_rfl) (fun x=>Nat.le_of_ble_eq_true (by kernel_rfl)) fun x y hy=>(r2_Of.way k x.1).ap hy
noncomputable def r2_Big_Neg.code:Code:=Func.cd Try.f183
def r2_Big_Neg.c1 (k:Nat):Nat → Int → (List Int) → Option ((List Int))
  | 0,_,_=>none
  | n+1,v1,v2 =>
   bif' (ilt v1 8)
   (req (inR v1 8) <|
   r2_Big_Neg.c1 k n (iadd .i64 v1 1) (st v2 v1 (ibits .xor .u32 (el 0 v2 v1) 65535)))
   (some v2)
def r2_Big_Neg (k:Nat) (a0:(List Int)):Option (List Int) :=
  bnd (r2_Big_Neg.c1 k k 0 a0) fun o5 =>
  bnd (r2_Of k 1) fun y7 =>
  bnd (r2_Big_Add k o5 y7) fun y9 =>
  some y9
noncomputable def r2_Big_Neg.sp (k:Nat):Go.Sx.Spec:=⟨(.pair T141 .unit),(.one (.dp T141)),fun x=>r2_Big_Neg k x.1,false⟩
noncomputable def r2_Big_Neg.cx (k:Nat):Go.Sx.Ctx:=⟨tys,[(179,r2_Of.sp k),(181,r2_Big_Add.sp k)],eqs,16,0,[],false⟩
theorem r2_Big_Neg.cok (k:Nat):CtxOk PR (r2_Big_Neg.cx k):=ctx_ok tysOk eqsOk (FnsOk.cons (r2_Of.ok k) (FnsOk.cons (r2_Big_Add.ok k) FnsOk.nil)) HsOk.nil
noncomputable def r2_Big_Neg.c1p (v1:Int) (v2:(List Int)):SL:=⟨[(1,(.val .ptr ⟨0,0,(0:Int),0,0⟩)),(2,(.val .ptr ⟨1,0,(0:Int),0,0⟩)),(4,(.val T2 v1))],[(0,.cells T141 v2),(1,.cells T141 (List.replicate 8 (0:Int)))]⟩
noncomputable def r2_Big_Neg.c1q (o:(List Int)):SL:=(fun v=>⟨[(1,(.val .ptr ⟨0,0,(0:Int),0,0⟩)),(2,(.val .ptr ⟨1,0,(0:Int),0,0⟩))],[(0,.cells T141 v),(1,.cells T141 (List.replicate 8 (0:Int)))]⟩) o
noncomputable def r2_Big_Neg.c1x (o:(List Int)):Ex:=(fun _=>(.exit 0)) o
noncomputable def r2_Big_Neg.c1n (o:(List Int)):Nat:=(fun _=>2) o
theorem r2_Big_Neg.c1_ok (k:Nat):∀ (n:Nat) (v1:Int) (v2:(List Int)),Owp (r2_Big_Neg.c1 k n v1 v2) fun o=>LTriple PR (r2_Big_Neg.cx k) (sub r2_Big_Neg.code [1,0,1,0,0]) 2 (r2_Big_Neg.c1p v1 v2) (r2_Big_Neg.c1x o) (r2_Big_Neg.c1n o) (r2_Big_Neg.c1q o)
  | 0,_,_=>fun _ h=>nomatch h
  | n+1,v1,v2=>Owp.of (r2_Big_Neg.c1.eq_2 ..) (
   Owp.bif (fun e3 =>
   Owp.req fun h4 =>
   fun y hy=>loop_back (r2_Big_Neg.cok k) hmix 2 (r2_Big_Neg.c1p (iadd .i64 v1 (1:Int)) (st v2 v1 (ibits .xor .u32 (el (0:Int) v2 v1) (65535:Int)))) [tT] [] [(0,0),(1,1)] (via (finP (aI (aI (aI (aI (aI trivial e3) h4) h4) h4) h4) .normal [(0,0),(1,1)] (r2_Big_Neg.c1p (iadd .i64 v1 (1:Int)) (st v2 v1 (ibits .xor .u32 (el (0:Int) v2 v1) (65535:Int))))) (by kernel_rfl)) ((r2_Big_Neg.c1_ok k n (iadd .i64 v1 (1:Int)) (st v2 v1 (ibits .xor .u32 (el (0:Int) v2 v1) (65535:Int)))).ap hy)) (fun e3 =>
   Owp.some (loop_exit (r2_Big_Neg.cok k) hmix [fF] [] [(0,0),(1,1)] (exne 0) (via (finP (aI trivial e3) (.exit 0) [(0,0),(1,1)] (r2_Big_Neg.c1q v2)) (by kernel_rfl)))))
theorem r2_Big_Neg.way (k:Nat) (a0:(List Int)):Owp (r2_Big_Neg k a0) fun y=>∃ w c0,exec PR (r2_Big_Neg.cx k) r2_Big_Neg.code 0 (entry (.pair T141 .unit) (a0,())).st w (Ret (r2_Big_Neg.cx k) Try.f183 c0 (.one (.dp T141)) y):=by
  unfold r2_Big_Neg; exact
   Owp.bnd fun o5 e6 =>
   Owp.bnd fun y7 e8 =>
   Owp.bnd fun y9 e10 =>
   Owp.some (⟨[.cut ⟨[],[(0,0),(1,1)],(r2_Big_Neg.c1p (0:Int) a0),2,(.exit 0),(r2_Big_Neg.c1q o5),2⟩,rS T141 y7,rS T141 y9],[],via (cutP trivial [(0,0),(1,1)] (r2_Big_Neg.c1p (0:Int) a0) (((r2_Big_Neg.c1_ok k k (0:Int) a0).ap e6).triple) (retP (aI (aI trivial e8) e10) (.one (.dp T141)) (y9:(List Int)))) (by kernel_rfl)⟩)
theorem r2_Big_Neg.ok (k:Nat):FnOk PR 183 (r2_Big_Neg.sp k) :=
  fn_ok (r2_Big_Neg.cok k) hmix Try.func183 (code:=r2_Big_Neg.code) (by kernel_rfl) (by kernel_rfl) (by kernel_rfl) rfl rfl (by kernel_rfl) (by kernel_rfl) (by kernel_rfl) (fun x=>Nat.le_of_ble_eq_true (by kernel_rfl)) fun x y hy=>(r2_Big_Neg.way k x.1).ap hy
noncomputable def r2_Big_Sub.code:Code:=Func.cd Try.f228
def r2_Big_Sub (k:Nat) (a0 a1:(List Int)):Option (List Int) :=
  bnd (r2_Big_Neg k a1) fun y1 =>
  bnd (r2_Big_Add k a0 y1) fun y3 =>
  some y3
noncomputable def r2_Big_Sub.sp (k:Nat):Go.Sx.Spec:=⟨(.pair T141 (.pair T141 .unit)),(.one (.dp T141)),fun x=>r2_Big_Sub k x.1 x.2.1,false⟩
noncomputable def r2_Big_Sub.cx (k:Nat):Go.Sx.Ctx:=⟨tys,[(183,r2_Big_Neg.sp k),(181,r2_Big_Add.sp k)],eqs,9,0,[],false⟩
theorem r2_Big_Sub.cok (k:Nat):CtxOk PR (r2_Big_Sub.cx k):=ctx_ok tysOk eqsOk (FnsOk.cons (r2_Big_Neg.ok k) (FnsOk.cons (r2_Big_Add.ok k) FnsOk.nil)) HsOk.nil
theorem r2_Big_Sub.way (k:Nat) (a0 a1:(List Int)):Owp (r2_Big_Sub k a0 a1) fun y=>∃ w c0,exec PR (r2_Big_Sub.cx k) r2_Big_Sub.code 0 (entry (.pair T141 (.pair T141 .unit)) (a0,a1,())).st w (Ret (r2_Big_Sub.cx k) Try.f228 c0 (.one (.dp T141)) y):=by
  unfold r2_Big_Sub; exact
   Owp.bnd fun y1 e2 =>
   Owp.bnd fun y3 e4 =>
   Owp.some (⟨[rS T141 y1,rS T141 y3],[],via (retP (aI (aI trivial e2) e4) (.one (.dp T141)) (y3:(List Int))) (by kernel_rfl)⟩)
theorem r2_Big_Sub.ok (k:Nat):FnOk PR 228 (r2_Big_Sub.sp k) :=
  fn_ok (r2_Big_Sub.cok k) hmix Try.func228 (code:=r2_Big_Sub.code) (by kernel_rfl) (by kernel_rfl) (by kernel_rfl) rfl rfl (by kernel_rfl) (by kernel_rfl) (by kernel_rfl) (fun x=>Nat.le_of_ble_eq_true (by kernel_rfl)) fun x y hy=>(r2_Big_Sub.way k x.1 x.2.1).ap hy
noncomputable def fix_Clamp.code:Code:=Func.cd Try.f141
def fix_Clamp (k:Nat) (a0:Int):Option Int :=
  some (imin (imax a0 (-1099511627776)) 1099511627776)
noncomputable def fix_Clamp.sp (k:Nat):Go.Sx.Spec:=⟨(.pair T2 .unit),(.one (.dp T2)),fun x=>fix_Clamp k x.1,false⟩
noncomputable def fix_Clamp.cx (k:Nat):Go.Sx.Ctx:=⟨tys,[],eqs,6,0,[],false⟩
theorem fix_Clamp.cok (k:Nat):CtxOk PR (fix_Clamp.cx k):=ctx_ok tysOk eqsOk FnsOk.nil HsOk.nil
theorem fix_Clamp.way (k:Nat) (a0:Int):Owp (fix_Clamp k a0) fun y=>∃ w c0,exec PR (fix_Clamp.cx k) fix_Clamp.code 0 (entry (.pair T2 .unit) (a0,())).st w (Ret (fix_Clamp.cx k) Try.f141 c0 (.one (.dp T2)) y):=by
  unfold fix_Clamp; exact
   Owp.some (⟨[],[],via (retP trivial (.one (.dp T2)) ((imin (imax a0 (-1099511627776:Int)) (1099511627776:Int)):Int)) (by kernel_rfl)⟩)
theorem fix_Clamp.ok (k:Nat):FnOk PR 141 (fix_Clamp.sp k) :=
  fn_ok (fix_Clamp.cok k) hmix Try.func141 (code:=fix_Clamp.code) (by kernel_rfl) (by kernel_rfl) (by kernel_rfl) rfl rfl (by kernel_rfl) (by kernel_rfl) (by kernel_rfl) (fun x=>Nat.le_of_ble_eq_true (by kernel_rfl)) fun x y hy=>(fix_Clamp.way k x.1).ap hy
noncomputable def fix_Add.code:Code:=Func.cd Try.f120
def fix_Add (k:Nat) (a0 a1:Int):Option Int :=
  bnd (fix_Clamp k a0) fun y1 =>
  bnd (fix_Clamp k a1) fun y3 =>
  bnd (fix_Clamp k (iadd .i64 y1 y3)) fun y5 =>
  some y5
noncomputable def fix_Add.sp (k:Nat):Go.Sx.Spec:=⟨T27,(.one (.dp T2)),fun x=>fix_Add k x.1 x.2.1,false⟩
noncomputable def fix_Add.cx (k:Nat):Go.Sx.Ctx:=⟨tys,[(141,fix_Clamp.sp k)],eqs,11,0,[],false⟩
theorem fix_Add.cok (k:Nat):CtxOk PR (fix_Add.cx k):=ctx_ok tysOk eqsOk (FnsOk.cons (fix_Clamp.ok k) FnsOk.nil) HsOk.nil
theorem fix_Add.way (k:Nat) (a0 a1:Int):Owp (fix_Add k a0 a1) fun y=>∃ w c0,exec PR (fix_Add.cx k) fix_Add.code 0 (entry T27 (a0,a1,())).st w (Ret (fix_Add.cx k) Try.f120 c0 (.one (.dp T2)) y):=by
  unfold fix_Add; exact
   Owp.bnd fun y1 e2 =>
   Owp.bnd fun y3 e4 =>
   Owp.bnd fun y5 e6 =>
   Owp.some (⟨[rS T2 y1,rS T2 y3,rS T2 y5],[],via (retP (aI (aI (aI trivial e2) e4) e6) (.one (.dp T2)) (y5:Int)) (by kernel_rfl)⟩)
theorem fix_Add.ok (k:Nat):FnOk PR 120 (fix_Add.sp k) :=
  fn_ok (fix_Add.cok k) hmix Try.func120 (code:=fix_Add.code) (by kernel_rfl) (by kernel_rfl) (by kernel_rfl) rfl rfl (by kernel_rfl) (by kernel_rfl) (by kernel_rfl) (fun x=>Nat.le_of_ble_eq_true (by kernel_rfl)) fun x y hy=>(fix_Add.way k x.1 x.2.1).ap hy
noncomputable def fix_mag.code:Code:=Func.cd Try.f226
def fix_mag (k:Nat) (a0:Int):Option Int :=
  bif' (ilt a0 0)
  (some (icv .u64 (ineg .i64 a0)))
  (some (icv .u64 a0))
noncomputable def fix_mag.sp (k:Nat):Go.Sx.Spec:=⟨(.pair T2 .unit),(.one (.dp T12)),fun x=>fix_mag k x.1,false⟩
noncomputable def fix_mag.cx (k:Nat):Go.Sx.Ctx:=⟨tys,[],eqs,10,0,[],false⟩
theorem fix_mag.cok (k:Nat):CtxOk PR (fix_mag.cx k):=ctx_ok tysOk eqsOk FnsOk.nil HsOk.nil
theorem fix_mag.way (k:Nat) (a0:Int):Owp (fix_mag k a0) fun y=>∃ w c0,exec PR (fix_mag.cx k) fix_mag.code 0 (entry (.pair T2 .unit) (a0,())).st w (Ret (fix_mag.cx k) Try.f226 c0 (.one (.dp T12)) y):=by
  unfold fix_mag; exact
   Owp.bif (fun e1 =>
   Owp.some (⟨[tT],[],via (retP (aI trivial e1) (.one (.dp T12)) ((icv .u64 (ineg .i64 a0)):Int)) (by kernel_rfl)⟩)) (fun e1 =>
   Owp.some (⟨[fF],[],via (retP (aI trivial e1) (.one (.dp T12)) ((icv .u64 a0):Int)) (by kernel_rfl)⟩))
theorem fix_mag.ok (k:Nat):FnOk PR 226 (fix_mag.sp k) :=
  fn_ok (fix_mag.cok k) hmix Try.func226 (code:=fix_mag.code) (by kernel_rfl) (by kernel_rfl) (by kernel_rfl) rfl rfl (by kernel_rfl) (by kernel_rfl) (by kernel_rfl) (fun x=>Nat.le_of_ble_eq_true (by kernel_rfl)) fun x y hy=>(fix_mag.way k x.1).ap hy
noncomputable def bits_LeadingZeros64.code:Code:=Func.cd Try.f247
def bits_LeadingZeros64 (k:Nat) (a0:Int):Option Int :=
  bnd (bits_Len64 k a0) fun y1 =>
  some (isub .i64 64 y1)
noncomputable def bits_LeadingZeros64.sp (k:Nat):Go.Sx.Spec:=⟨(.pair T12 .unit),(.one (.dp T2)),fun x=>bits_LeadingZeros64 k x.1,false⟩
noncomputable def bits_LeadingZeros64.cx (k:Nat):Go.Sx.Ctx:=⟨tys,[(164,bits_Len64.sp k)],eqs,6,0,[],false⟩
theorem bits_LeadingZeros64.cok (k:Nat):CtxOk PR (bits_LeadingZeros64.cx k):=ctx_ok tysOk eqsOk (FnsOk.cons (bits_Len64.ok k) FnsOk.nil) HsOk.nil
theorem bits_LeadingZeros64.way (k:Nat) (a0:Int):Owp (bits_LeadingZeros64 k a0) fun y=>∃ w c0,exec PR (bits_LeadingZeros64.cx k) bits_LeadingZeros64.code 0 (entry (.pair T12 .unit) (a0,())).st w (Ret (bits_LeadingZeros64.cx k) Try.f247 c0 (.one (.dp T2)) y):=by
  unfold bits_LeadingZeros64; exact
   Owp.bnd fun y1 e2 =>
   Owp.some (⟨[rS T2 y1],[],via (retP (aI trivial e2) (.one (.dp T2)) ((isub .i64 (64:Int) y1):Int)) (by kernel_rfl)⟩)
theorem bits_LeadingZeros64.ok (k:Nat):FnOk PR 247 (bits_LeadingZeros64.sp k) :=
  fn_ok (bits_LeadingZeros64.cok k) hmix Try.func247 (code:=bits_LeadingZeros64.code) (by kernel_rfl) (by kernel_rfl) (by kernel_rfl) rfl rfl (by kernel_rfl) (by kernel_rfl) (by kernel_rfl) (fun x=>Nat.le_of_ble_eq_true (by kernel_rfl)) fun x y hy=>(bits_LeadingZeros64.way k x.1).ap hy
end Go.Proofs.T1
