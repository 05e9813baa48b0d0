import Derived.Test.YteibepmkkplpeaaGreatG0
import Derived.Test.YteibepmkkplpeaaGreatG1
import Derived.Test.YteibepmkkplpeaaGreatG2
import Derived.Test.YteibepmkkplpeaaGreatG4
noncomputable section
namespace Go.Proofs.T1
open Go Go.Sx Go.Proofs
set_option maxRecDepth 100000
set_option linter.unusedVariables false
def bo.code:Code:=Func.cd Tryz.f132
def bo.c1 (k:Nat) (a0:((Int × Unit)→Option Bool)):Nat→Int→Int→Option (Int) | 0,_,_=>none | n+1,v1,v2=>aR (iS (aU .i64 v2 v1) 1) (bG (a0 ((eu .i64 (ag .i64 v1 v2) 2),())) fun y4=>aR y4 (bo.c1 k a0 n (eu .i64 (ag .i64 v1 v2) 2) v2) (bo.c1 k a0 n v1 (eu .i64 (ag .i64 v1 v2) 2))) (some v1)
def bo (k:Nat) (a0:((Int × Unit)→Option Bool)):Option Int := bG (bo.c1 k a0 k 0 536870912) fun o7=>some o7
def bo.sp (k:Nat):Go.Sx.Spec:=⟨(.pair (.fn (.pair T2 .unit) T4) .unit),(.one (.dp T2)),fun x=>bo k x.1,false⟩
def bo.cx (k:Nat):Go.Sx.Ctx:=⟨gi,[],eqs,20,0,[],false⟩
theorem bo.bh (k:Nat):bV PR (bo.cx k):=bD ck cg bN.nil c8.nil
def bo.bL (a0:((Int × Unit)→Option Bool)) (v1 v2:Int):SL:=⟨[(0,(.val (.fn (.pair T2 .unit) T4) a0)),(3,(.val T2 v1)),(4,(.val T2 v2))],[]⟩
def bo.cA (o:Int):SL:=(fun v=>⟨[(3,(.val T2 v))],[]⟩) o
def bo.gj (o:Int):Ex:=(fun _=>(.exit 0)) o
def bo.gk (o:Int):Nat:=(fun _=>0) o
theorem bo.aY (k:Nat) (a0:((Int × Unit)→Option Bool)):∀ (n:Nat) (v1 v2:Int),cf (bo.c1 k a0 n v1 v2) fun o=>ct PR (bo.cx k) (sub bo.code [1,1,0,0,0]) 0 (bo.bL a0 v1 v2) (bo.gj o) (bo.gk o) (bo.cA o) | 0,_,_=>fun _ h=>nomatch h | n+1,v1,v2=>cf.of (bo.c1.eq_2 ..) (oF (fun e3=>oB fun y4 e5=>oF (fun e6=>fun y hy=>bB (bo.bh k) hmix 0 (bo.bL a0 (eu .i64 (ag .i64 v1 v2) 2) v2) [tT,rS T4 y4,tT] [] [] (via (a6 (aI (aI (aI (aI aL e3) (by decide:nz (2:Int))) e5) e6) .normal [] (bo.bL a0 (eu .i64 (ag .i64 v1 v2) 2) v2)) (by kernel_rfl)) ((bo.aY k a0 n (eu .i64 (ag .i64 v1 v2) 2) v2).ap hy)) (fun e6=>fun y hy=>bB (bo.bh k) hmix 0 (bo.bL a0 v1 (eu .i64 (ag .i64 v1 v2) 2)) [tT,rS T4 y4,fF] [] [] (via (a6 (aI (aI (aI (aI aL e3) (by decide:nz (2:Int))) e5) e6) .normal [] (bo.bL a0 v1 (eu .i64 (ag .i64 v1 v2) 2))) (by kernel_rfl)) ((bo.aY k a0 n v1 (eu .i64 (ag .i64 v1 v2) 2)).ap hy))) (fun e3=>oS (bk (bo.bh k) hmix [fF] [] [] (fX 0) (via (a6 (aI aL e3) (.exit 0) [] (bo.cA v1)) (by kernel_rfl)))))
theorem bo.dC (k:Nat) (a0:((Int × Unit)→Option Bool)):cf (bo k a0) fun y=>wP (bo.cx k) bo.code (.pair (.fn (.pair T2 .unit) T4) .unit) (a0,()) Tryz.f132 (.one (.dp T2)) y:=by unfold bo; exact oB fun o7 e8=>oS (⟨[.cut ⟨[],[],(bo.bL a0 (0:Int) (536870912:Int)),0,(.exit 0),(bo.cA o7),0⟩],[],via (bE aL [] (bo.bL a0 (0:Int) (536870912:Int)) (((bo.aY k a0 k (0:Int) (536870912:Int)).ap e8).triple) (bO aL (.one (.dp T2)) (o7:Int))) (by kernel_rfl)⟩)
theorem bo.ok (k:Nat):cW PR 132 (bo.sp k) := fK (bo.bh k) Tryz.func132 (by kernel_rfl) (fun x=>by kernel_rfl) fun x y hy=>(bo.dC k x.1).ap hy
def fL.code:Code:=Func.cd Tryz.f133
def fL (k:Nat) (a0:Int) (a1:aB):Option Bool := some (jw (aN .i64 a0 a0) (ag .i64 (aN .i64 a1.1 a1.1) (aN .i64 a1.2.1 a1.2.1)))
def fL.sp (k:Nat):Go.Sx.Spec:=⟨(.pair T2 (.pair (.ref bJ) .unit)),(.one (.dp T4)),fun x=>fL k x.1 x.2.1,false⟩
def fL.cx (k:Nat):Go.Sx.Ctx:=⟨gi,[],eqs,19,0,[],false⟩
theorem fL.bh (k:Nat):bV PR (fL.cx k):=bD ck cg bN.nil c8.nil
theorem fL.dC (k:Nat) (a0:Int) (a1:aB):cf (fL k a0 a1) fun y=>wP (fL.cx k) fL.code (.pair T2 (.pair (.ref bJ) .unit)) (a0,a1,()) Tryz.f133 (.one (.dp T4)) y:=by unfold fL; exact oS (⟨[],[],via (bO aL (.one (.dp T4)) ((jw (aN .i64 a0 a0) (ag .i64 (aN .i64 a1.1 a1.1) (aN .i64 a1.2.1 a1.2.1))):Bool)) (by kernel_rfl)⟩)
theorem fL.ok (k:Nat):cW PR 133 (fL.sp k) := fK (fL.bh k) Tryz.func133 (by kernel_rfl) (fun x=>by kernel_rfl) fun x y hy=>(fL.dC k x.1 x.2.1).ap hy
def fN.code:Code:=Func.cd Tryz.f134
def fN (k:Nat) (a0:Int) (a1:aB):Option Bool := some (jw (aN .i64 a0 a0) (ag .i64 (aN .i64 a1.1 a1.1) (aN .i64 a1.2.1 a1.2.1)))
def fN.sp (k:Nat):Go.Sx.Spec:=⟨(.pair T2 (.pair (.ref bJ) .unit)),(.one (.dp T4)),fun x=>fN k x.1 x.2.1,false⟩
def fN.cx (k:Nat):Go.Sx.Ctx:=⟨gi,[],eqs,19,0,[],false⟩
theorem fN.bh (k:Nat):bV PR (fN.cx k):=bD ck cg bN.nil c8.nil
theorem fN.dC (k:Nat) (a0:Int) (a1:aB):cf (fN k a0 a1) fun y=>wP (fN.cx k) fN.code (.pair T2 (.pair (.ref bJ) .unit)) (a0,a1,()) Tryz.f134 (.one (.dp T4)) y:=by unfold fN; exact oS (⟨[],[],via (bO aL (.one (.dp T4)) ((jw (aN .i64 a0 a0) (ag .i64 (aN .i64 a1.1 a1.1) (aN .i64 a1.2.1 a1.2.1))):Bool)) (by kernel_rfl)⟩)
theorem fN.ok (k:Nat):cW PR 134 (fN.sp k) := fK (fN.bh k) Tryz.func134 (by kernel_rfl) (fun x=>by kernel_rfl) fun x y hy=>(fN.dC k x.1 x.2.1).ap hy
def fB.code:Code:=Func.cd Tryz.f135
def fB (k:Nat) (a0 a1 a2:Int):Option Bool := bG (aQ k (aN .i64 a0 a0) a1) fun y1=>bG (aQ k a2 a2) fun y3=>bG (bc k y1 y3) fun y5=>some (jw y5 0)
def fB.sp (k:Nat):Go.Sx.Spec:=⟨(.pair T2 (.pair (.ref T2) (.pair (.ref T2) .unit))),(.one (.dp T4)),fun x=>fB k x.1 x.2.1 x.2.2.1,false⟩
def fB.cx (k:Nat):Go.Sx.Ctx:=⟨gi,[(75,aQ.sp k),(136,bc.sp k)],eqs,15,0,[],false⟩
theorem fB.bh (k:Nat):bV PR (fB.cx k):=bD ck cg (fC (aQ.ok k) (fC (bc.ok k) bN.nil)) c8.nil
theorem fB.dC (k:Nat) (a0 a1 a2:Int):cf (fB k a0 a1 a2) fun y=>wP (fB.cx k) fB.code (.pair T2 (.pair (.ref T2) (.pair (.ref T2) .unit))) (a0,a1,a2,()) Tryz.f135 (.one (.dp T4)) y:=by unfold fB; exact oB fun y1 e2=>oB fun y3 e4=>oB fun y5 e6=>oS (⟨[rS fT y1,rS fT y3,rS T2 y5],[],via (bO (aI (aI (aI aL e2) e4) e6) (.one (.dp T4)) ((jw y5 0):Bool)) (by kernel_rfl)⟩)
theorem fB.ok (k:Nat):cW PR 135 (fB.sp k) := fK (fB.bh k) Tryz.func135 (by kernel_rfl) (fun x=>by kernel_rfl) fun x y hy=>(fB.dC k x.1 x.2.1 x.2.2.1).ap hy
def gg.code:Code:=Func.cd Tryz.f62
def gg (k:Nat) (a0 a1:aB):Option Int := aR (jw (aU .i64 (aN .i64 (c9 .i64 a0.1) (aU .i64 a1.1 a0.1)) (aN .i64 a0.2.1 (aU .i64 a1.2.1 a0.2.1))) 0) (bG (bo k (fun x:(Int × Unit)=>fL k (x.1) a0)) fun y2=>some y2) (aR (jd (aU .i64 (aN .i64 (c9 .i64 a0.1) (aU .i64 a1.1 a0.1)) (aN .i64 a0.2.1 (aU .i64 a1.2.1 a0.2.1))) (ag .i64 (aN .i64 (aU .i64 a1.1 a0.1) (aU .i64 a1.1 a0.1)) (aN .i64 (aU .i64 a1.2.1 a0.2.1) (aU .i64 a1.2.1 a0.2.1)))) (bG (bo k (fun x:(Int × Unit)=>fN k (x.1) a1)) fun y5=>some y5) (bG (dQ k a0 a1) fun y7=>bG (bo k (fun x:(Int × Unit)=>fB k (x.1) (ag .i64 (aN .i64 (aU .i64 a1.1 a0.1) (aU .i64 a1.1 a0.1)) (aN .i64 (aU .i64 a1.2.1 a0.2.1) (aU .i64 a1.2.1 a0.2.1))) y7)) fun y9=>some y9))
def gg.sp (k:Nat):Go.Sx.Spec:=⟨fG,(.one (.dp T2)),fun x=>gg k x.1 x.2.1,false⟩
def gg.cx (k:Nat):Go.Sx.Ctx:=⟨gi,[(132,bo.sp k),(133,fL.sp k),(134,fN.sp k),(131,dQ.sp k),(135,fB.sp k)],eqs,59,0,[],false⟩
theorem gg.bh (k:Nat):bV PR (gg.cx k):=bD ck cg (fC (bo.ok k) (fC (fL.ok k) (fC (fN.ok k) (fC (dQ.ok k) (fC (fB.ok k) bN.nil))))) c8.nil
theorem gg.dC (k:Nat) (a0 a1:aB):cf (gg k a0 a1) fun y=>∃ w c0,exec PR (gg.cx k) gg.code 0 (entry fG (a0,a1,())).st w (qE (gg.cx k) Tryz.f62 c0 (.one (.dp T2)) y):=by unfold gg; exact oF (fun e1=>oB fun y2 e3=>oS (⟨[tT,rS T2 y2],[],via (bO (aI (aI aL e1) e3) (.one (.dp T2)) (y2:Int)) (by kernel_rfl)⟩)) (fun e1=>oF (fun e4=>oB fun y5 e6=>oS (⟨[fF,tT,rS T2 y5],[],via (bO (aI (aI (aI aL e1) e4) e6) (.one (.dp T2)) (y5:Int)) (by kernel_rfl)⟩)) (fun e4=>oB fun y7 e8=>oB fun y9 e10=>oS (⟨[fF,fF,rS T2 y7,rS T2 y9],[],via (bO (aI (aI (aI (aI aL e1) e4) e8) e10) (.one (.dp T2)) (y9:Int)) (by kernel_rfl)⟩)))
theorem gg.ok (k:Nat):cW PR 62 (gg.sp k) := fK (gg.bh k) Tryz.func62 (by kernel_rfl) (fun x=>by kernel_rfl) fun x y hy=>(gg.dC k x.1 x.2.1).ap hy
def bY.code:Code:=Func.cd Tryz.f23
def bY.c1 (k:Nat) (y1:((List aB) × Int)):Nat→Int→Int→Option (Int) | 0,_,_=>none | n+1,v7,v8=>aR (fq v8 (len y1.1)) (eB (gn v8 y1.1) <|eB (nz (len y1.1)) <|eB (gn (cC (ag .i64 v8 1) (len y1.1)) y1.1) <|bG (gg k (el bK y1.1 v8) (el bK y1.1 (cC (ag .i64 v8 1) (len y1.1)))) fun y13=>bY.c1 k y1 n (gA v7 y13) (ag .i64 v8 1)) (some v7)
def bY (k:Nat) (a0 a1:(List aB)):Option (Int × Int) := bG (ab k a0 a1) fun y1=>aR (j6 y1.2 0) (some (0,y1.2)) (bG (br k y1.1) fun y4=>aR y4 (some (0,0)) (bG (bY.c1 k y1 k 1073741824 0) fun o15=>some (o15,0)))
def bY.sp (k:Nat):Go.Sx.Spec:=⟨(.pair dS (.pair dS .unit)),(.more (.dp T2) (.one (.dp T2))),fun x=>bY k x.1 x.2.1,false⟩
def bY.cx (k:Nat):Go.Sx.Ctx:=⟨gi,[(60,ab.sp k),(61,br.sp k),(62,gg.sp k)],eqs,43,0,[],false⟩
theorem bY.bh (k:Nat):bV PR (bY.cx k):=bD ck cg (fC (ab.ok k) (fC (br.ok k) (fC (gg.ok k) bN.nil))) c8.nil
def bY.bL (y1:((List aB) × Int)) (v7 v8:Int):SL:=⟨[(6,(ow 0)),(8,(.val T2 v7)),(22,(ow 0)),(23,(.val T2 (len y1.1))),(24,(.val T2 v8))],[(0,.row bJ y1.1 26)]⟩
def bY.cA (o:Int):SL:=(fun v=>⟨[(8,(.val T2 v))],[]⟩) o
def bY.gj (o:Int):Ex:=(fun _=>(.exit 0)) o
def bY.gk (o:Int):Nat:=(fun _=>0) o
theorem bY.aY (k:Nat) (y1:((List aB) × Int)):∀ (n:Nat) (v7 v8:Int),cf (bY.c1 k y1 n v7 v8) fun o=>ct PR (bY.cx k) (sub bY.code [1,1,1,1,1,0,1,0,0]) 1 (bY.bL y1 v7 v8) (bY.gj o) (bY.gk o) (bY.cA o) | 0,_,_=>fun _ h=>nomatch h | n+1,v7,v8=>cf.of (bY.c1.eq_2 ..) (oF (fun e9=>oR fun h10=>oR fun h11=>oR fun h12=>oB fun y13 e14=>fun y hy=>bB (bY.bh k) hmix 1 (bY.bL y1 (gA v7 y13) (ag .i64 v8 1)) [tT,rS T2 y13] [] [(0,0)] (via (a6 (aI (aI (aI (aI (aI (aI (aI aL e9) h10) h10) h11) h12) h12) e14) .normal [(0,0)] (bY.bL y1 (gA v7 y13) (ag .i64 v8 1))) (by kernel_rfl)) ((bY.aY k y1 n (gA v7 y13) (ag .i64 v8 1)).ap hy)) (fun e9=>oS (bk (bY.bh k) hmix [fF] [] [] (fX 0) (via (a6 (aI aL e9) (.exit 0) [] (bY.cA v7)) (by kernel_rfl)))))
theorem bY.dC (k:Nat) (a0 a1:(List aB)):cf (bY k a0 a1) fun y=>wP (bY.cx k) bY.code (.pair dS (.pair dS .unit)) (a0,a1,()) Tryz.f23 (.more (.dp T2) (.one (.dp T2))) y:=by unfold bY; exact oB fun y1 e2=>oF (fun e3=>oS (⟨[.res (.more (.ow bJ 26) (.one (.dp T2))) y1,tT],[],via (bO (aI (aI aL e2) e3) (.more (.dp T2) (.one (.dp T2))) (((0:Int),y1.2):(Int × Int))) (by kernel_rfl)⟩)) (fun e3=>oB fun y4 e5=>oF (fun e6=>oS (⟨[.res (.more (.ow bJ 26) (.one (.dp T2))) y1,fF,rS T4 y4,tT],[],via (bO (aI (aI (aI (aI aL e2) e3) e5) e6) (.more (.dp T2) (.one (.dp T2))) (((0:Int),(0:Int)):(Int × Int))) (by kernel_rfl)⟩)) (fun e6=>oB fun o15 e16=>oS (⟨[.res (.more (.ow bJ 26) (.one (.dp T2))) y1,fF,rS T4 y4,fF,.cut ⟨[],[(0,4)],(bY.bL y1 (1073741824:Int) (0:Int)),1,(.exit 0),(bY.cA o15),0⟩],[],via (bE (aI (aI (aI (aI aL e2) e3) e5) e6) [(0,4)] (bY.bL y1 (1073741824:Int) (0:Int)) (((bY.aY k y1 k (1073741824:Int) (0:Int)).ap e16).triple) (bO aL (.more (.dp T2) (.one (.dp T2))) ((o15,(0:Int)):(Int × Int)))) (by kernel_rfl)⟩)))
theorem bY.ok (k:Nat):cW PR 23 (bY.sp k) := fK (bY.bh k) Tryz.func23 (by kernel_rfl) (fun x=>by kernel_rfl) fun x y hy=>(bY.dC k x.1 x.2.1).ap hy
end Go.Proofs.T1
