import Derived.Test.YtipddonkkhjegaaGreatG0
import Derived.Test.YtipddonkkhjegaaGreatG9
namespace Go.Proofs.T1
open Go Go.Sx Go.Proofs
set_option maxRecDepth 100000
set_option linter.unusedVariables false
noncomputable def slices_IndexFunc_41_h.code:Code:=Func.cd Tryz.f41
noncomputable def slices_IndexFunc_41_h.c1 (k:Nat) (a0:(List V39)) (c1_1:Int) (r2:(List V39)):Nat→Int→Option (Int ⊕ Unit)
 | 0,_=>none
 | n+1,v1 =>
  bif' (ilt v1 (len a0))
  (req (inL v1 a0) <|bnd (keep_Carry_1 k (el Z39 a0 v1) c1_1 r2) fun y4 =>
  bif' y4
  (some (.inl v1))
  (slices_IndexFunc_41_h.c1 k a0 c1_1 r2 n (iadd .i64 v1 1)))
  (some (.inr ()))
noncomputable def slices_IndexFunc_41_h (k:Nat) (a0:(List V39)) (c1_1:Int) (r2:(List V39)):Option Int :=
 bnd (slices_IndexFunc_41_h.c1 k a0 c1_1 r2 k 0) fun o7 =>
 two o7 (fun y9 =>
 some y9) (fun y11 =>
 some (-1))
noncomputable def slices_IndexFunc_41_h.h (k:Nat):Go.Sx.HSp:=⟨(.pair (.slice T39) (.pair T2 (.pair (.slice T39) .unit))),T2,3,fun x=>[.dat (.slice T39) x.1,.lent (.val .clo (42,[⟨0,0,(0:Int),0,0⟩,⟨1,0,(0:Int),0,0⟩]))],fun x=>[(0,.cells .own (2:Nat)),(1,.cells T2 x.2.1),(2,.row T39 x.2.2.1 40)],fun x=>slices_IndexFunc_41_h k x.1 x.2.1 x.2.2.1,fun x y=>[(0,.cells .own (2:Nat)),(1,.cells T2 x.2.1),(2,.row T39 x.2.2.1 40)],(.one (.dp T2)),fun y=>y,true,false⟩
noncomputable def slices_IndexFunc_41_h.cx (k:Nat):Go.Sx.Ctx:=⟨tys,[],eqs,19,3,[(42,keep_Carry_1.h k)],false⟩
theorem slices_IndexFunc_41_h.cok (k:Nat):CtxOk PR (slices_IndexFunc_41_h.cx k):=ctx_ok tysOk eqsOk FnsOk.nil (HsOk.cons (keep_Carry_1.ok k) HsOk.nil)
noncomputable def slices_IndexFunc_41_h.c1p (a0:(List V39)) (c1_1:Int) (r2:(List V39)) (v1:Int):SL:=⟨[(0,(.val (.slice T39) a0)),(1,(.val .clo (42,[⟨0,0,(0:Int),0,0⟩,⟨1,0,(0:Int),0,0⟩]))),(7,(.val T2 (len a0))),(8,(.val T2 v1))],[(0,.cells .own (2:Nat)),(1,.cells T2 c1_1),(2,.row T39 r2 40)]⟩
noncomputable def slices_IndexFunc_41_h.c1q (c1_1:Int) (r2:(List V39)) (o:Int ⊕ Unit):SL:=(fun o=>two o (fun v=>⟨[(4,(.val T2 v))],[(0,.cells .own (2:Nat)),(1,.cells T2 c1_1),(2,.row T39 r2 40)]⟩) (fun v=>⟨[],[(0,.cells .own (2:Nat)),(1,.cells T2 c1_1),(2,.row T39 r2 40)]⟩)) o
noncomputable def slices_IndexFunc_41_h.c1x (o:Int ⊕ Unit):Ex:=(fun o=>two o (fun _=>.ret) (fun _=>(.exit 0))) o
noncomputable def slices_IndexFunc_41_h.c1n (o:Int ⊕ Unit):Nat:=(fun o=>two o (fun _=>3) (fun _=>3)) o
theorem slices_IndexFunc_41_h.c1_ok (k:Nat) (a0:(List V39)) (c1_1:Int) (r2:(List V39)):∀ (n:Nat) (v1:Int),Owp (slices_IndexFunc_41_h.c1 k a0 c1_1 r2 n v1) fun o=>LTriple PR (slices_IndexFunc_41_h.cx k) (sub slices_IndexFunc_41_h.code [1,0,1,0,0]) 3 (slices_IndexFunc_41_h.c1p a0 c1_1 r2 v1) (slices_IndexFunc_41_h.c1x o) (slices_IndexFunc_41_h.c1n o) (slices_IndexFunc_41_h.c1q c1_1 r2 o)
 | 0,_=>fun _ h=>nomatch h
 | n+1,v1=>Owp.of (slices_IndexFunc_41_h.c1.eq_2 ..) (
  oF (fun e2 =>
  oR fun h3 =>
  oB fun y4 e5 =>
  oF (fun e6 =>
  oS (loop_exit (slices_IndexFunc_41_h.cok k) hmix [tT,.hres [(0,0),(1,1),(2,2)] (.pair T39 (.pair T2 (.pair (.slice T39) .unit))) ((el Z39 a0 v1),c1_1,r2,()) T4 y4,tT] [] [(0,0),(1,1),(2,2)] exne_ret (via (finP (aI (aI (aI (aI tv0 e2) h3) (callHP (keep_Carry_1.h k) [(0,0),(1,1),(2,2)] ((el Z39 a0 v1),c1_1,r2,()) e5)) e6) .ret [(0,0),(1,1),(2,2)] (slices_IndexFunc_41_h.c1q c1_1 r2 (.inl v1))) (by kernel_rfl)))) (fun e6 =>
  fun y hy=>loop_back (slices_IndexFunc_41_h.cok k) hmix 3 (slices_IndexFunc_41_h.c1p a0 c1_1 r2 (iadd .i64 v1 (1:Int))) [tT,.hres [(0,0),(1,1),(2,2)] (.pair T39 (.pair T2 (.pair (.slice T39) .unit))) ((el Z39 a0 v1),c1_1,r2,()) T4 y4,fF] [] [(0,0),(1,1),(2,2)] (via (finP (aI (aI (aI (aI tv0 e2) h3) (callHP (keep_Carry_1.h k) [(0,0),(1,1),(2,2)] ((el Z39 a0 v1),c1_1,r2,()) e5)) e6) .normal [(0,0),(1,1),(2,2)] (slices_IndexFunc_41_h.c1p a0 c1_1 r2 (iadd .i64 v1 (1:Int)))) (by kernel_rfl)) ((slices_IndexFunc_41_h.c1_ok k a0 c1_1 r2 n (iadd .i64 v1 (1:Int))).ap hy))) (fun e2 =>
  oS (loop_exit (slices_IndexFunc_41_h.cok k) hmix [fF] [] [(0,0),(1,1),(2,2)] (exne 0) (via (finP (aI tv0 e2) (.exit 0) [(0,0),(1,1),(2,2)] (slices_IndexFunc_41_h.c1q c1_1 r2 (.inr ()))) (by kernel_rfl)))))
@[irreducible] noncomputable def slices_IndexFunc_41_h.P (k:Nat) (a0:(List V39)) (c1_1:Int) (r2:(List V39)) (y:Int) (w:List Ans) (c0:List Cmd):Prop:=exec PR (slices_IndexFunc_41_h.cx k) slices_IndexFunc_41_h.code 3 (entryH (slices_IndexFunc_41_h.h k) (a0,c1_1,r2,())).st w (RetH (slices_IndexFunc_41_h.cx k) Tryz.f41 c0 (slices_IndexFunc_41_h.h k) (a0,c1_1,r2,()) y)
theorem slices_IndexFunc_41_h.way (k:Nat) (a0:(List V39)) (c1_1:Int) (r2:(List V39)):Owp (slices_IndexFunc_41_h k a0 c1_1 r2) fun y=>∃ w c0,slices_IndexFunc_41_h.P k a0 c1_1 r2 y w c0:=by
 unfold slices_IndexFunc_41_h; exact
  oB fun o7 e8 =>
  Owp.two (fun y9 e10 =>
  oS (⟨[.cut ⟨[],[(0,0),(1,1),(2,2)],(slices_IndexFunc_41_h.c1p a0 c1_1 r2 (0:Int)),3,.ret,(slices_IndexFunc_41_h.c1q c1_1 r2 (.inl y9)),3⟩],[],via (cutP tv0 [(0,0),(1,1),(2,2)] (slices_IndexFunc_41_h.c1p a0 c1_1 r2 (0:Int)) (((slices_IndexFunc_41_h.c1_ok k a0 c1_1 r2 k (0:Int)).ap (e8.trans (congrArg some e10))).triple) (rethP tv0 [(0,.cells .own (2:Nat)),(1,.cells T2 c1_1),(2,.row T39 r2 40)] (.one (.dp T2)) (y9:Int))) (by kernel_rfl)⟩)) (fun y11 e12 =>
  oS (⟨[.cut ⟨[],[(0,0),(1,1),(2,2)],(slices_IndexFunc_41_h.c1p a0 c1_1 r2 (0:Int)),3,(.exit 0),(slices_IndexFunc_41_h.c1q c1_1 r2 (.inr ())),3⟩],[],via (cutP tv0 [(0,0),(1,1),(2,2)] (slices_IndexFunc_41_h.c1p a0 c1_1 r2 (0:Int)) (((slices_IndexFunc_41_h.c1_ok k a0 c1_1 r2 k (0:Int)).ap (e8.trans (congrArg some e12))).triple) (rethP tv0 [(0,.cells .own (2:Nat)),(1,.cells T2 c1_1),(2,.row T39 r2 40)] (.one (.dp T2)) ((-1:Int):Int))) (by kernel_rfl)⟩))
theorem slices_IndexFunc_41_h.ok (k:Nat):HOk PR 41 (slices_IndexFunc_41_h.h k) :=
 fnH_ok (slices_IndexFunc_41_h.cok k) hmix Tryz.func41 (code:=slices_IndexFunc_41_h.code) (by kernel_rfl) (by kernel_rfl) (by kernel_rfl) (by kernel_rfl) (by kernel_rfl) (by kernel_rfl) (fun x=>Nat.le_of_ble_eq_true (by kernel_rfl)) fun x y hy=>match (slices_IndexFunc_41_h.way k x.1 x.2.1 x.2.2.1).ap hy with | ⟨ans,c0,h⟩=>⟨ans,c0,via h (by kernel_rfl)⟩
end Go.Proofs.T1
