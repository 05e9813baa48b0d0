import Derived.Test.YteibepmkkplpeaaGreatG0
namespace Go.Proofs.T1
open Go Go.Sx Go.Proofs
set_option maxRecDepth 100000
set_option linter.unusedVariables false
noncomputable def cR.code:Code:=Func.cd Tryz.f99
def cR (k:Nat) (a0:(List bm)):Option (List bm) := dH (jD 16 a0) <|some a0
noncomputable def cR.sp (k:Nat):Go.Sx.Spec:=⟨(.pair eW .unit),(.one (.ow bN 26)),fun x=>cR k x.1,false⟩
noncomputable def cR.cx (k:Nat):Go.Sx.Ctx:=⟨eY,[],eqs,8,0,[],false⟩
theorem cR.a7 (k:Nat):bJ PR (cR.cx k):=bu bV bX bG.nil cJ.nil
theorem cR.cY (k:Nat) (a0:(List bm)):bR (cR k a0) fun y=>wP (cR.cx k) cR.code (.pair eW .unit) (a0,()) Tryz.f99 (.one (.ow bN 26)) y:=by unfold cR; exact oR fun h1=>match a0,h1 with | [],h1=>oS (⟨[.fork [] [tT]],[.own 2 bN 26],via (show (True→(True∧(True∧some (dS.row bN ([]:(List bm)) 26)=some (dS.row bN ([]:(List bm)) 26))))∧((True∧jD 16 ([]:(List bm)))∧(True∧some (dS.row bN ([]:(List bm)) 26)=some (dS.row bN ([]:(List bm)) 26))) from ⟨fun _=>⟨ay,ay,rfl⟩,⟨ay,h1⟩,ay,rfl⟩) (by kernel_rfl)⟩) | a :: l,h1=>oS (⟨[fF,tT],[.own 2 bN 26],via (show ((True∧false=false)∧jD 16 (a :: l))∧(True∧some (dS.row bN (a :: l:(List bm)) 26)=some (dS.row bN (a :: l:(List bm)) 26)) from ⟨⟨⟨ay,rfl⟩,h1⟩,ay,rfl⟩) (by kernel_rfl)⟩)
theorem cR.ok (k:Nat):cS PR 99 (cR.sp k) := fK (cR.a7 k) Tryz.func99 (by kernel_rfl) (fun x=>by kernel_rfl) fun x y hy=>(cR.cY k x.1).ap hy
end Go.Proofs.T1
