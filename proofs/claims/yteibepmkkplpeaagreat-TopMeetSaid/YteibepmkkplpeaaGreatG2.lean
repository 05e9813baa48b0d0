import Derived.Test.YteibepmkkplpeaaGreatG0
import Derived.Test.YteibepmkkplpeaaGreatG1
noncomputable section
namespace Go.Proofs.T1
open Go Go.Sx Go.Proofs
set_option maxRecDepth 100000
set_option linter.unusedVariables false
def bc.code:Code:=Func.cd Tryz.f136
def bc.c1 (k:Nat) (a0 a1:gz):Option (Bool) := aR (fq a0.1 a1.1) (some true) (aR (gX a0.1 a1.1) (some (fq a0.2.1 a1.2.1)) (some false))
def bc (k:Nat) (a0 a1:gz):Option Int := aR (Ty.lE fT a0 a1) (some 0) (bG (bc.c1 k a0 a1) fun o4=>aR o4 (some (-1)) (some 1))
def bc.sp (k:Nat):Go.Sx.Spec:=⟨(.pair fT (.pair fT .unit)),(.one (.dp T2)),fun x=>bc k x.1 x.2.1,false⟩
def bc.cx (k:Nat):Go.Sx.Ctx:=⟨gi,[],eqs,29,0,[],false⟩
theorem bc.bh (k:Nat):bV PR (bc.cx k):=bD ck cg bN.nil c8.nil
def bc.bL (a0 a1:gz):SL:=⟨[(2,(pz 0 0 0)),(3,(pz 1 0 0))],[(0,.cells fT a0),(1,.cells fT a1)]⟩
def bc.cA (o:Bool):SL:=(fun v=>⟨[(9,(.val T4 v))],[]⟩) o
def bc.gj (o:Bool):Ex:=(fun _=>.normal) o
def bc.gk (o:Bool):Nat:=(fun _=>0) o
theorem bc.aY (k:Nat) (a0 a1:gz):cf (bc.c1 k a0 a1) fun o=>Triple PR (bc.cx k) (sub bc.code [1,0,0,1,1,0]) 2 (bc.bL a0 a1) (bc.gj o) (bc.gk o) (bc.cA o):=by unfold bc.c1; exact oF (fun e2=>oS (tW (bc.bh k) hmix [tT,tT,tT,tT,tT,tT,tT,tT,tT,tT,tT,tT,tT,tT] [] [] (via (a6 (aI (aI (aI (aI (aI (aI (aI (aI aL e2) e2) e2) e2) e2) e2) e2) e2) .normal [] (bc.cA true)) (by kernel_rfl)))) (fun e2=>oF (fun e3=>oS (tW (bc.bh k) hmix [fF,fF,fF,fF,fF,fF,tT,tT,tT,tT,tT,fF,tT,fF] [] [] (via (a6 (aI (aI (aI (aI (aI (aI (aI (aI (aI (aI (aI (aI (aI aL e2) e2) e2) e2) e2) e2) e3) e3) e3) e3) e3) (aI e2 e3)) e2) .normal [] (bc.cA (fq a0.2.1 a1.2.1))) (by kernel_rfl)))) (fun e3=>oS (tW (bc.bh k) hmix [fF,fF,fF,fF,fF,fF,fF,fF,fF,fF,fF,fF,fF,fF] [] [] (via (a6 (aI (aI (aI (aI (aI (aI (aI (aI (aI (aI (aI (aI (aI aL e2) e2) e2) e2) e2) e2) e3) e3) e3) e3) e3) (aI e2 e3)) e2) .normal [] (bc.cA false)) (by kernel_rfl)))))
theorem bc.dC (k:Nat) (a0 a1:gz):cf (bc k a0 a1) fun y=>wP (bc.cx k) bc.code (.pair fT (.pair fT .unit)) (a0,a1,()) Tryz.f136 (.one (.dp T2)) y:=by unfold bc; exact oF (fun e1=>oS (⟨[tT],[],via (bO (aI aL e1) (.one (.dp T2)) ((0:Int):Int)) (by kernel_rfl)⟩)) (fun e1=>oB fun o4 e5=>oF (fun e6=>oS (⟨[fF,.cutR 3 ⟨[],[(0,0),(1,1)],(bc.bL a0 a1),2,.normal,(bc.cA o4),0⟩,tT],[],via (bE (aI aL e1) [(0,0),(1,1)] (bc.bL a0 a1) (((bc.aY k a0 a1).ap e5)) (bO (aI aL e6) (.one (.dp T2)) ((-1:Int):Int))) (by kernel_rfl)⟩)) (fun e6=>oS (⟨[fF,.cutR 3 ⟨[],[(0,0),(1,1)],(bc.bL a0 a1),2,.normal,(bc.cA o4),0⟩,fF],[],via (bE (aI aL e1) [(0,0),(1,1)] (bc.bL a0 a1) (((bc.aY k a0 a1).ap e5)) (bO (aI aL e6) (.one (.dp T2)) ((1:Int):Int))) (by kernel_rfl)⟩)))
theorem bc.ok (k:Nat):cW PR 136 (bc.sp k) := fK (bc.bh k) Tryz.func136 (by kernel_rfl) (fun x=>by kernel_rfl) fun x y hy=>(bc.dC k x.1 x.2.1).ap hy
def bn.code:Code:=Func.cd Tryz.f79
def bn.c1 (k:Nat) (a0:(List aB)) (a1:aB):Nat→Int→Int→Option (Int) | 0,_,_=>none | n+1,v4,v5=>aR (fq v5 (len a0)) (eB (gn v5 a0) <|bG (fW k (el bK a0 v5) a1) fun y8=>eB (gn v4 a0) <|bG (fW k (el bK a0 v4) a1) fun y11=>bG (bc k y8 y11) fun y13=>aR (iS y13 0) (bn.c1 k a0 a1 n v5 (ag .i64 v5 1)) (bn.c1 k a0 a1 n v4 (ag .i64 v5 1))) (some v4)
def bn (k:Nat) (a0:(List aB)) (a1:aB):Option Int := bG (au k a0) fun y1=>aR (j6 y1 0) (some (-1)) (bG (bn.c1 k a0 a1 k 0 0) fun o16=>some o16)
def bn.sp (k:Nat):Go.Sx.Spec:=⟨(.pair dS (.pair bJ .unit)),(.one (.dp T2)),fun x=>bn k x.1 x.2.1,false⟩
def bn.cx (k:Nat):Go.Sx.Ctx:=⟨gi,[(64,au.sp k),(150,fW.sp k),(136,bc.sp k)],eqs,32,0,[],false⟩
theorem bn.bh (k:Nat):bV PR (bn.cx k):=bD ck cg (fC (au.ok k) (fC (fW.ok k) (fC (bc.ok k) bN.nil))) c8.nil
def bn.bL (a0:(List aB)) (a1:aB) (v4 v5:Int):SL:=⟨[(0,(.val dS a0)),(3,(pz 0 0 0)),(5,(.val T2 v4)),(11,(.val dS a0)),(12,(.val T2 (len a0))),(13,(.val T2 v5))],[(0,.cells bJ a1)]⟩
def bn.cA (o:Int):SL:=(fun v=>⟨[(5,(.val T2 v))],[]⟩) o
def bn.gj (o:Int):Ex:=(fun _=>(.exit 0)) o
def bn.gk (o:Int):Nat:=(fun _=>0) o
theorem bn.aY (k:Nat) (a0:(List aB)) (a1:aB):∀ (n:Nat) (v4 v5:Int),cf (bn.c1 k a0 a1 n v4 v5) fun o=>ct PR (bn.cx k) (sub bn.code [1,1,1,0,1,0,0]) 1 (bn.bL a0 a1 v4 v5) (bn.gj o) (bn.gk o) (bn.cA o) | 0,_,_=>fun _ h=>nomatch h | n+1,v4,v5=>cf.of (bn.c1.eq_2 ..) (oF (fun e6=>oR fun h7=>oB fun y8 e9=>oR fun h10=>oB fun y11 e12=>oB fun y13 e14=>oF (fun e15=>fun y hy=>bB (bn.bh k) hmix 1 (bn.bL a0 a1 v5 (ag .i64 v5 1)) [tT,rS fT y8,rS fT y11,rS T2 y13,tT] [] [(0,0)] (via (a6 (aI (aI (aI (aI (aI (aI (aI aL e6) h7) e9) h10) e12) e14) e15) .normal [(0,0)] (bn.bL a0 a1 v5 (ag .i64 v5 1))) (by kernel_rfl)) ((bn.aY k a0 a1 n v5 (ag .i64 v5 1)).ap hy)) (fun e15=>fun y hy=>bB (bn.bh k) hmix 1 (bn.bL a0 a1 v4 (ag .i64 v5 1)) [tT,rS fT y8,rS fT y11,rS T2 y13,fF] [] [(0,0)] (via (a6 (aI (aI (aI (aI (aI (aI (aI aL e6) h7) e9) h10) e12) e14) e15) .normal [(0,0)] (bn.bL a0 a1 v4 (ag .i64 v5 1))) (by kernel_rfl)) ((bn.aY k a0 a1 n v4 (ag .i64 v5 1)).ap hy))) (fun e6=>oS (bk (bn.bh k) hmix [fF] [] [] (fX 0) (via (a6 (aI aL e6) (.exit 0) [] (bn.cA v4)) (by kernel_rfl)))))
theorem bn.dC (k:Nat) (a0:(List aB)) (a1:aB):cf (bn k a0 a1) fun y=>wP (bn.cx k) bn.code (.pair dS (.pair bJ .unit)) (a0,a1,()) Tryz.f79 (.one (.dp T2)) y:=by unfold bn; exact oB fun y1 e2=>oF (fun e3=>oS (⟨[rS T2 y1,tT],[],via (bO (aI (aI aL e2) e3) (.one (.dp T2)) ((-1:Int):Int)) (by kernel_rfl)⟩)) (fun e3=>oB fun o16 e17=>oS (⟨[rS T2 y1,fF,.cut ⟨[],[(0,0)],(bn.bL a0 a1 (0:Int) (0:Int)),1,(.exit 0),(bn.cA o16),0⟩],[],via (bE (aI (aI aL e2) e3) [(0,0)] (bn.bL a0 a1 (0:Int) (0:Int)) (((bn.aY k a0 a1 k (0:Int) (0:Int)).ap e17).triple) (bO aL (.one (.dp T2)) (o16:Int))) (by kernel_rfl)⟩))
theorem bn.ok (k:Nat):cW PR 79 (bn.sp k) := fK (bn.bh k) Tryz.func79 (by kernel_rfl) (fun x=>by kernel_rfl) fun x y hy=>(bn.dC k x.1 x.2.1).ap hy
def bz.code:Code:=Func.cd Tryz.f175
def bz.c1 (k:Nat) (a0:(List aB)) (a1:aB):Option (Bool) := bG (au k a0) fun y1=>aR (j6 y1 0) (some true) (bG (er k a1) fun y4=>some (!y4))
def bz.c2 (k:Nat) (a0:(List aB)) (a1:aB):Nat→Int→Option (Unit ⊕ Unit) | 0,_=>none | n+1,v9=>aR (fq v9 (len a0)) (eB (gn v9 a0) <|eB (nz (len a0)) <|eB (gn (cC (ag .i64 v9 1) (len a0)) a0) <|bG (eD k (el bK a0 v9) (el bK a0 (cC (ag .i64 v9 1) (len a0))) a1) fun y14=>aR (fq y14 0) (some (.inl ())) (bz.c2 k a0 a1 n (ag .i64 v9 1))) (some (.inr ()))
def bz (k:Nat) (a0:(List aB)) (a1:aB):Option Bool := bG (bz.c1 k a0 a1) fun o6=>aR o6 (some false) (bG (bz.c2 k a0 a1 k 0) fun o17=>two o17 (fun y19=>some false) (fun y21=>some true))
def bz.sp (k:Nat):Go.Sx.Spec:=⟨(.pair dS (.pair bJ .unit)),(.one (.dp T4)),fun x=>bz k x.1 x.2.1,false⟩
def bz.cx (k:Nat):Go.Sx.Ctx:=⟨gi,[(64,au.sp k),(139,er.sp k),(140,eD.sp k)],eqs,35,0,[],false⟩
theorem bz.bh (k:Nat):bV PR (bz.cx k):=bD ck cg (fC (au.ok k) (fC (er.ok k) (fC (eD.ok k) bN.nil))) c8.nil
def bz.bL (a0:(List aB)) (a1:aB):SL:=⟨[(0,(.val dS a0)),(3,(pz 0 0 0))],[(0,.cells bJ a1)]⟩
def bz.cA (a0:(List aB)) (a1:aB) (o:Bool):SL:=(fun v=>⟨[(0,(.val dS a0)),(3,(pz 0 0 0)),(14,(.val T4 v))],[(0,.cells bJ a1)]⟩) o
def bz.gj (o:Bool):Ex:=(fun _=>.normal) o
def bz.gk (o:Bool):Nat:=(fun _=>1) o
theorem bz.aY (k:Nat) (a0:(List aB)) (a1:aB):cf (bz.c1 k a0 a1) fun o=>Triple PR (bz.cx k) (sub bz.code [1,0,0]) 1 (bz.bL a0 a1) (bz.gj o) (bz.gk o) (bz.cA a0 a1 o):=by unfold bz.c1; exact oB fun y1 e2=>oF (fun e3=>oS (tW (bz.bh k) hmix [rS T2 y1,tT,tT,tT,tT,tT] [] [(0,0)] (via (a6 (aI (aI (aI (aI (aI aL e2) e3) e3) e3) e3) .normal [(0,0)] (bz.cA a0 a1 true)) (by kernel_rfl)))) (fun e3=>oB fun y4 e5=>oS (tW (bz.bh k) hmix [rS T2 y1,fF,fF,rS T4 y4,fF,fF] [] [(0,0)] (via (a6 (aI (aI (aI (aI (aI aL e2) e3) (aI e3 e5)) e3) e3) .normal [(0,0)] (bz.cA a0 a1 (!y4))) (by kernel_rfl))))
def bz.ec (a0:(List aB)) (a1:aB) (v9:Int):SL:=⟨[(0,(.val dS a0)),(3,(pz 0 0 0)),(15,(.val dS a0)),(16,(.val T2 (len a0))),(17,(.val T2 v9))],[(0,.cells bJ a1)]⟩
def bz.eI (o:Unit ⊕ Unit):SL:=(fun o=>two o (fun v=>⟨[(4,(.val T4 false))],[]⟩) (fun v=>⟨[],[]⟩)) o
def bz.iZ (o:Unit ⊕ Unit):Ex:=(fun o=>two o (fun _=>.ret) (fun _=>(.exit 0))) o
def bz.iX (o:Unit ⊕ Unit):Nat:=(fun o=>two o (fun _=>0) (fun _=>0)) o
theorem bz.cL (k:Nat) (a0:(List aB)) (a1:aB):∀ (n:Nat) (v9:Int),cf (bz.c2 k a0 a1 n v9) fun o=>ct PR (bz.cx k) (sub bz.code [1,1,0,1,0,0]) 1 (bz.ec a0 a1 v9) (bz.iZ o) (bz.iX o) (bz.eI o) | 0,_=>fun _ h=>nomatch h | n+1,v9=>cf.of (bz.c2.eq_2 ..) (oF (fun e10=>oR fun h11=>oR fun h12=>oR fun h13=>oB fun y14 e15=>oF (fun e16=>oS (bk (bz.bh k) hmix [tT,rS T2 y14,tT] [] [] gW (via (a6 (aI (aI (aI (aI (aI (aI aL e10) h11) h12) h13) e15) e16) .ret [] (bz.eI (.inl ()))) (by kernel_rfl)))) (fun e16=>fun y hy=>bB (bz.bh k) hmix 1 (bz.ec a0 a1 (ag .i64 v9 1)) [tT,rS T2 y14,fF] [] [(0,0)] (via (a6 (aI (aI (aI (aI (aI (aI aL e10) h11) h12) h13) e15) e16) .normal [(0,0)] (bz.ec a0 a1 (ag .i64 v9 1))) (by kernel_rfl)) ((bz.cL k a0 a1 n (ag .i64 v9 1)).ap hy))) (fun e10=>oS (bk (bz.bh k) hmix [fF] [] [] (fX 0) (via (a6 (aI aL e10) (.exit 0) [] (bz.eI (.inr ()))) (by kernel_rfl)))))
theorem bz.dC (k:Nat) (a0:(List aB)) (a1:aB):cf (bz k a0 a1) fun y=>wP (bz.cx k) bz.code (.pair dS (.pair bJ .unit)) (a0,a1,()) Tryz.f175 (.one (.dp T4)) y:=by unfold bz; exact oB fun o6 e7=>oF (fun e8=>oS (⟨[.cutR 1 ⟨[],[(0,0)],(bz.bL a0 a1),1,.normal,(bz.cA a0 a1 o6),1⟩,tT],[],via (bE aL [(0,0)] (bz.bL a0 a1) (((bz.aY k a0 a1).ap e7)) (bO (aI aL e8) (.one (.dp T4)) (false:Bool))) (by kernel_rfl)⟩)) (fun e8=>oB fun o17 e18=>cf.two (fun y19 e20=>oS (⟨[.cutR 1 ⟨[],[(0,0)],(bz.bL a0 a1),1,.normal,(bz.cA a0 a1 o6),1⟩,fF,.cut ⟨[],[(0,0)],(bz.ec a0 a1 (0:Int)),1,.ret,(bz.eI (.inl ())),0⟩],[],via (bE aL [(0,0)] (bz.bL a0 a1) (((bz.aY k a0 a1).ap e7)) (bE (aI aL e8) [(0,0)] (bz.ec a0 a1 (0:Int)) (((bz.cL k a0 a1 k (0:Int)).ap (e18.trans (congrArg some e20))).triple) (bO aL (.one (.dp T4)) (false:Bool)))) (by kernel_rfl)⟩)) (fun y21 e22=>oS (⟨[.cutR 1 ⟨[],[(0,0)],(bz.bL a0 a1),1,.normal,(bz.cA a0 a1 o6),1⟩,fF,.cut ⟨[],[(0,0)],(bz.ec a0 a1 (0:Int)),1,(.exit 0),(bz.eI (.inr ())),0⟩],[],via (bE aL [(0,0)] (bz.bL a0 a1) (((bz.aY k a0 a1).ap e7)) (bE (aI aL e8) [(0,0)] (bz.ec a0 a1 (0:Int)) (((bz.cL k a0 a1 k (0:Int)).ap (e18.trans (congrArg some e22))).triple) (bO aL (.one (.dp T4)) (true:Bool)))) (by kernel_rfl)⟩)))
theorem bz.ok (k:Nat):cW PR 175 (bz.sp k) := fK (bz.bh k) Tryz.func175 (by kernel_rfl) (fun x=>by kernel_rfl) fun x y hy=>(bz.dC k x.1 x.2.1).ap hy
def cV.code:Code:=Func.cd Tryz.f180
def cV.c1 (k:Nat) (a0:(List aB)):Nat→Int→Int→Option (Int) | 0,_,_=>none | n+1,v4,v5=>aR (fq v5 (len a0)) (eB (gn 0 a0) <|eB (gn (aU .i64 v5 1) a0) <|eB (gn v5 a0) <|bG (eD k (el bK a0 0) (el bK a0 (aU .i64 v5 1)) (el bK a0 v5)) fun y10=>cV.c1 k a0 n (ag .i64 v4 y10) (ag .i64 v5 1)) (some v4)
def cV (k:Nat) (a0:(List aB)):Option (Int × Int) := bG (au k a0) fun y1=>aR (j6 y1 0) (some (0,y1)) (bG (cV.c1 k a0 k 0 2) fun o12=>some (o12,0))
def cV.sp (k:Nat):Go.Sx.Spec:=⟨(.pair dS .unit),(.more (.dp T2) (.one (.dp T2))),fun x=>cV k x.1,false⟩
def cV.cx (k:Nat):Go.Sx.Ctx:=⟨gi,[(64,au.sp k),(140,eD.sp k)],eqs,34,0,[],false⟩
theorem cV.bh (k:Nat):bV PR (cV.cx k):=bD ck cg (fC (au.ok k) (fC (eD.ok k) bN.nil)) c8.nil
def cV.bL (a0:(List aB)) (v4 v5:Int):SL:=⟨[(0,(.val dS a0)),(5,(.val T2 v4)),(6,(.val T2 v5))],[]⟩
def cV.cA (o:Int):SL:=(fun v=>⟨[(5,(.val T2 v))],[]⟩) o
def cV.gj (o:Int):Ex:=(fun _=>(.exit 0)) o
def cV.gk (o:Int):Nat:=(fun _=>0) o
theorem cV.aY (k:Nat) (a0:(List aB)):∀ (n:Nat) (v4 v5:Int),cf (cV.c1 k a0 n v4 v5) fun o=>ct PR (cV.cx k) (sub cV.code [1,1,1,0,1,0,0]) 0 (cV.bL a0 v4 v5) (cV.gj o) (cV.gk o) (cV.cA o) | 0,_,_=>fun _ h=>nomatch h | n+1,v4,v5=>cf.of (cV.c1.eq_2 ..) (oF (fun e6=>oR fun h7=>oR fun h8=>oR fun h9=>oB fun y10 e11=>fun y hy=>bB (cV.bh k) hmix 0 (cV.bL a0 (ag .i64 v4 y10) (ag .i64 v5 1)) [tT,rS T2 y10] [] [] (via (a6 (aI (aI (aI (aI (aI aL e6) h7) h8) h9) e11) .normal [] (cV.bL a0 (ag .i64 v4 y10) (ag .i64 v5 1))) (by kernel_rfl)) ((cV.aY k a0 n (ag .i64 v4 y10) (ag .i64 v5 1)).ap hy)) (fun e6=>oS (bk (cV.bh k) hmix [fF] [] [] (fX 0) (via (a6 (aI aL e6) (.exit 0) [] (cV.cA v4)) (by kernel_rfl)))))
theorem cV.dC (k:Nat) (a0:(List aB)):cf (cV k a0) fun y=>wP (cV.cx k) cV.code (.pair dS .unit) (a0,()) Tryz.f180 (.more (.dp T2) (.one (.dp T2))) y:=by unfold cV; exact oB fun y1 e2=>oF (fun e3=>oS (⟨[rS T2 y1,tT],[],via (bO (aI (aI aL e2) e3) (.more (.dp T2) (.one (.dp T2))) (((0:Int),y1):(Int × Int))) (by kernel_rfl)⟩)) (fun e3=>oB fun o12 e13=>oS (⟨[rS T2 y1,fF,.cut ⟨[],[],(cV.bL a0 (0:Int) (2:Int)),0,(.exit 0),(cV.cA o12),0⟩],[],via (bE (aI (aI aL e2) e3) [] (cV.bL a0 (0:Int) (2:Int)) (((cV.aY k a0 k (0:Int) (2:Int)).ap e13).triple) (bO aL (.more (.dp T2) (.one (.dp T2))) ((o12,(0:Int)):(Int × Int)))) (by kernel_rfl)⟩))
theorem cV.ok (k:Nat):cW PR 180 (cV.sp k) := fK (cV.bh k) Tryz.func180 (by kernel_rfl) (fun x=>by kernel_rfl) fun x y hy=>(cV.dC k x.1).ap hy
def cX.code:Code:=Func.cd Tryz.f125
def cX (k:Nat) (a0:Int):Option Int := some (gA (imax a0 (-1099511627776)) 1099511627776)
def cX.sp (k:Nat):Go.Sx.Spec:=⟨(.pair T2 .unit),(.one (.dp T2)),fun x=>cX k x.1,false⟩
def cX.cx (k:Nat):Go.Sx.Ctx:=⟨gi,[],eqs,6,0,[],false⟩
theorem cX.bh (k:Nat):bV PR (cX.cx k):=bD ck cg bN.nil c8.nil
theorem cX.dC (k:Nat) (a0:Int):cf (cX k a0) fun y=>wP (cX.cx k) cX.code (.pair T2 .unit) (a0,()) Tryz.f125 (.one (.dp T2)) y:=by unfold cX; exact oS (⟨[],[],via (bO aL (.one (.dp T2)) ((gA (imax a0 (-1099511627776:Int)) (1099511627776:Int)):Int)) (by kernel_rfl)⟩)
theorem cX.ok (k:Nat):cW PR 125 (cX.sp k) := fK (cX.bh k) Tryz.func125 (by kernel_rfl) (fun x=>by kernel_rfl) fun x y hy=>(cX.dC k x.1).ap hy
def gL.code:Code:=Func.cd Tryz.f172
def gL (k:Nat) (a0:Int):Option Int := aR (fq a0 0) (some (cU .u64 (c9 .i64 a0))) (some (cU .u64 a0))
def gL.sp (k:Nat):Go.Sx.Spec:=⟨(.pair T2 .unit),(.one (.dp dJ)),fun x=>gL k x.1,false⟩
def gL.cx (k:Nat):Go.Sx.Ctx:=⟨gi,[],eqs,10,0,[],false⟩
theorem gL.bh (k:Nat):bV PR (gL.cx k):=bD ck cg bN.nil c8.nil
theorem gL.dC (k:Nat) (a0:Int):cf (gL k a0) fun y=>wP (gL.cx k) gL.code (.pair T2 .unit) (a0,()) Tryz.f172 (.one (.dp dJ)) y:=by unfold gL; exact oF (fun e1=>oS (⟨[tT],[],via (bO (aI aL e1) (.one (.dp dJ)) ((cU .u64 (c9 .i64 a0)):Int)) (by kernel_rfl)⟩)) (fun e1=>oS (⟨[fF],[],via (bO (aI aL e1) (.one (.dp dJ)) ((cU .u64 a0):Int)) (by kernel_rfl)⟩))
theorem gL.ok (k:Nat):cW PR 172 (gL.sp k) := fK (gL.bh k) Tryz.func172 (by kernel_rfl) (fun x=>by kernel_rfl) fun x y hy=>(gL.dC k x.1).ap hy
def aq.code:Code:=Func.cd Tryz.f114
def aq.c1 (k:Nat) (y1 y3:Int):Option (Bool) := aR (fq y3 0) (some (!(fq y1 0))) (some (fq y1 0))
def aq.c2 (k:Nat) (o9:Bool) (y5:Int):Option (Bool) := aR (fq y5 0) (some (!o9)) (some o9)
def aq.c3 (k:Nat) (y24:(Int × Int)):Option ((Int × Int)) := aR (iS y24.1 1099511627776) (some (1099511627777,0)) (some (y24.1,y24.2))
def aq.c4 (k:Nat) (o27:(Int × Int)) (y14:Int):Option (Int) := aR (iS o27.2 (aU .u64 y14 o27.2)) (some (ag .i64 (cU .i64 o27.1) 1)) (some (cU .i64 o27.1))
def aq.c5 (k:Nat) (o27:(Int × Int)) (y14:Int):Option (Int) := aR (jd o27.2 (aU .u64 y14 o27.2)) (some (ag .i64 (cU .i64 o27.1) 1)) (some (cU .i64 o27.1))
def aq (k:Nat) (a0 a1 a2:Int):Option Int := bG (cX k a0) fun y1=>bG (cX k a1) fun y3=>bG (cX k a2) fun y5=>aR (gX y5 0) (some 0) (bG (aq.c1 k y1 y3) fun o9=>bG (aq.c2 k o9 y5) fun o12=>bG (gL k y5) fun y14=>bG (gL k y1) fun y16=>bG (gL k y3) fun y18=>bG (dx k y16 y18) fun y20=>aR (jd y20.1 y14) (aR o12 (some (-1099511627776)) (some 1099511627776)) (bG (ay k y20.1 y20.2 y14) fun y24=>bG (aq.c3 k y24) fun o27=>aR o12 (bG (aq.c4 k o27 y14) fun o31=>bG (cX k (c9 .i64 o31)) fun y33=>some y33) (bG (aq.c5 k o27 y14) fun o36=>bG (cX k o36) fun y38=>some y38)))
def aq.sp (k:Nat):Go.Sx.Spec:=⟨(.pair T2 bJ),(.one (.dp T2)),fun x=>aq k x.1 x.2.1 x.2.2.1,false⟩
def aq.cx (k:Nat):Go.Sx.Ctx:=⟨gi,[(125,cX.sp k),(172,gL.sp k),(145,dx.sp k),(147,ay.sp k)],eqs,78,0,[],false⟩
theorem aq.bh (k:Nat):bV PR (aq.cx k):=bD ck cg (fC (cX.ok k) (fC (gL.ok k) (fC (dx.ok k) (fC (ay.ok k) bN.nil)))) c8.nil
def aq.bL (y1 y3 y5:Int):SL:=⟨[(0,(.val T2 y1)),(1,(.val T2 y3)),(2,(.val T2 y5)),(7,(.val T4 (fq y1 0))),(25,(.val T4 (fq y3 0)))],[]⟩
def aq.cA (y1 y3 y5:Int) (o:Bool):SL:=(fun v=>⟨[(0,(.val T2 y1)),(1,(.val T2 y3)),(2,(.val T2 y5)),(7,(.val T4 v))],[]⟩) o
def aq.gj (o:Bool):Ex:=(fun _=>.normal) o
def aq.gk (o:Bool):Nat:=(fun _=>0) o
theorem aq.aY (k:Nat) (y1 y3 y5:Int):cf (aq.c1 k y1 y3) fun o=>Triple PR (aq.cx k) (sub aq.code [1,1,1,1,0,1]) 0 (aq.bL y1 y3 y5) (aq.gj o) (aq.gk o) (aq.cA y1 y3 y5 o):=by unfold aq.c1; exact oF (fun e8=>oS (tW (aq.bh k) hmix [tT] [] [] (via (a6 (aI aL e8) .normal [] (aq.cA y1 y3 y5 (!(fq y1 0)))) (by kernel_rfl)))) (fun e8=>oS (tW (aq.bh k) hmix [fF] [] [] (via (a6 (aI aL e8) .normal [] (aq.cA y1 y3 y5 (fq y1 0))) (by kernel_rfl))))
def aq.ec (o9:Bool) (y1 y3 y5:Int):SL:=⟨[(0,(.val T2 y1)),(1,(.val T2 y3)),(2,(.val T2 y5)),(7,(.val T4 o9)),(29,(.val T4 (fq y5 0)))],[]⟩
def aq.eI (y1 y3 y5:Int) (o:Bool):SL:=(fun v=>⟨[(0,(.val T2 y1)),(1,(.val T2 y3)),(2,(.val T2 y5)),(7,(.val T4 v))],[]⟩) o
def aq.iZ (o:Bool):Ex:=(fun _=>.normal) o
def aq.iX (o:Bool):Nat:=(fun _=>0) o
theorem aq.cL (k:Nat) (o9:Bool) (y1 y3 y5:Int):cf (aq.c2 k o9 y5) fun o=>Triple PR (aq.cx k) (sub aq.code [1,1,1,1,1,0,1]) 0 (aq.ec o9 y1 y3 y5) (aq.iZ o) (aq.iX o) (aq.eI y1 y3 y5 o):=by unfold aq.c2; exact oF (fun e11=>oS (tW (aq.bh k) hmix [tT] [] [] (via (a6 (aI aL e11) .normal [] (aq.eI y1 y3 y5 (!o9))) (by kernel_rfl)))) (fun e11=>oS (tW (aq.bh k) hmix [fF] [] [] (via (a6 (aI aL e11) .normal [] (aq.eI y1 y3 y5 o9)) (by kernel_rfl))))
def aq.gF (o12:Bool) (y14:Int) (y24:(Int × Int)):SL:=⟨[(7,(.val T4 o12)),(8,(.val dJ y14)),(11,(.val dJ y24.1)),(12,(.val dJ y24.2)),(54,(.val T4 (iS y24.1 1099511627776)))],[]⟩
def aq.gK (o12:Bool) (y14:Int) (o:(Int × Int)):SL:=(fun v=>⟨[(7,(.val T4 o12)),(8,(.val dJ y14)),(11,(.val dJ v.1)),(12,(.val dJ v.2))],[]⟩) o
def aq.k8 (o:(Int × Int)):Ex:=(fun _=>.normal) o
def aq.lg (o:(Int × Int)):Nat:=(fun _=>0) o
theorem aq.eP (k:Nat) (o12:Bool) (y14:Int) (y24:(Int × Int)):cf (aq.c3 k y24) fun o=>Triple PR (aq.cx k) (sub aq.code [1,1,1,1,1,1,1,1,1,1,0,1]) 0 (aq.gF o12 y14 y24) (aq.k8 o) (aq.lg o) (aq.gK o12 y14 o):=by unfold aq.c3; exact oF (fun e26=>oS (tW (aq.bh k) hmix [tT] [] [] (via (a6 (aI aL e26) .normal [] (aq.gK o12 y14 ((1099511627777:Int),(0:Int)))) (by kernel_rfl)))) (fun e26=>oS (tW (aq.bh k) hmix [fF] [] [] (via (a6 (aI aL e26) .normal [] (aq.gK o12 y14 (y24.1,y24.2))) (by kernel_rfl))))
def aq.iy (o27:(Int × Int)) (y14:Int):SL:=⟨[(13,(.val T2 (cU .i64 o27.1))),(72,(.val T4 (iS o27.2 (aU .u64 y14 o27.2))))],[]⟩
def aq.iB (o:Int):SL:=(fun v=>⟨[(13,(.val T2 v))],[]⟩) o
def aq.pt (o:Int):Ex:=(fun _=>.normal) o
def aq.px (o:Int):Nat:=(fun _=>0) o
theorem aq.gD (k:Nat) (o27:(Int × Int)) (y14:Int):cf (aq.c4 k o27 y14) fun o=>Triple PR (aq.cx k) (sub aq.code [1,1,1,1,1,1,1,1,1,1,1,1,1,0,1]) 0 (aq.iy o27 y14) (aq.pt o) (aq.px o) (aq.iB o):=by unfold aq.c4; exact oF (fun e30=>oS (tW (aq.bh k) hmix [tT] [] [] (via (a6 (aI aL e30) .normal [] (aq.iB (ag .i64 (cU .i64 o27.1) 1))) (by kernel_rfl)))) (fun e30=>oS (tW (aq.bh k) hmix [fF] [] [] (via (a6 (aI aL e30) .normal [] (aq.iB (cU .i64 o27.1))) (by kernel_rfl))))
def aq.kH (o27:(Int × Int)) (y14:Int):SL:=⟨[(13,(.val T2 (cU .i64 o27.1))),(63,(.val T4 (jd o27.2 (aU .u64 y14 o27.2))))],[]⟩
def aq.kz (o:Int):SL:=(fun v=>⟨[(13,(.val T2 v))],[]⟩) o
def aq.yS (o:Int):Ex:=(fun _=>.normal) o
def aq.zV (o:Int):Nat:=(fun _=>0) o
theorem aq.jo (k:Nat) (o27:(Int × Int)) (y14:Int):cf (aq.c5 k o27 y14) fun o=>Triple PR (aq.cx k) (sub aq.code [1,1,1,1,1,1,1,1,1,1,1,1,0,1,0,0,1]) 0 (aq.kH o27 y14) (aq.yS o) (aq.zV o) (aq.kz o):=by unfold aq.c5; exact oF (fun e35=>oS (tW (aq.bh k) hmix [tT] [] [] (via (a6 (aI aL e35) .normal [] (aq.kz (ag .i64 (cU .i64 o27.1) 1))) (by kernel_rfl)))) (fun e35=>oS (tW (aq.bh k) hmix [fF] [] [] (via (a6 (aI aL e35) .normal [] (aq.kz (cU .i64 o27.1))) (by kernel_rfl))))
theorem aq.dC (k:Nat) (a0 a1 a2:Int):cf (aq k a0 a1 a2) fun y=>wP (aq.cx k) aq.code (.pair T2 bJ) (a0,a1,a2,()) Tryz.f114 (.one (.dp T2)) y:=by unfold aq; exact oB fun y1 e2=>oB fun y3 e4=>oB fun y5 e6=>oF (fun e7=>oS (⟨[rS T2 y1,rS T2 y3,rS T2 y5,tT],[],via (bO (aI (aI (aI (aI aL e2) e4) e6) e7) (.one (.dp T2)) ((0:Int):Int)) (by kernel_rfl)⟩)) (fun e7=>oB fun o9 e10=>oB fun o12 e13=>oB fun y14 e15=>oB fun y16 e17=>oB fun y18 e19=>oB fun y20 e21=>oF (fun e22=>oF (fun e23=>oS (⟨[rS T2 y1,rS T2 y3,rS T2 y5,fF,.cut ⟨[],[],(aq.bL y1 y3 y5),0,.normal,(aq.cA y1 y3 y5 o9),0⟩,.cut ⟨[],[],(aq.ec o9 y1 y3 y5),0,.normal,(aq.eI y1 y3 y5 o12),0⟩,rS dJ y14,rS dJ y16,rS dJ y18,.res (.more (.dp dJ) (.one (.dp dJ))) y20,tT,tT],[],via (bE (aI (aI (aI (aI aL e2) e4) e6) e7) [] (aq.bL y1 y3 y5) (((aq.aY k y1 y3 y5).ap e10)) (bE aL [] (aq.ec o9 y1 y3 y5) (((aq.cL k o9 y1 y3 y5).ap e13)) (bO (aI (aI (aI (aI (aI (aI aL e15) e17) e19) e21) e22) e23) (.one (.dp T2)) ((-1099511627776:Int):Int)))) (by kernel_rfl)⟩)) (fun e23=>oS (⟨[rS T2 y1,rS T2 y3,rS T2 y5,fF,.cut ⟨[],[],(aq.bL y1 y3 y5),0,.normal,(aq.cA y1 y3 y5 o9),0⟩,.cut ⟨[],[],(aq.ec o9 y1 y3 y5),0,.normal,(aq.eI y1 y3 y5 o12),0⟩,rS dJ y14,rS dJ y16,rS dJ y18,.res (.more (.dp dJ) (.one (.dp dJ))) y20,tT,fF],[],via (bE (aI (aI (aI (aI aL e2) e4) e6) e7) [] (aq.bL y1 y3 y5) (((aq.aY k y1 y3 y5).ap e10)) (bE aL [] (aq.ec o9 y1 y3 y5) (((aq.cL k o9 y1 y3 y5).ap e13)) (bO (aI (aI (aI (aI (aI (aI aL e15) e17) e19) e21) e22) e23) (.one (.dp T2)) ((1099511627776:Int):Int)))) (by kernel_rfl)⟩))) (fun e22=>oB fun y24 e25=>oB fun o27 e28=>oF (fun e29=>oB fun o31 e32=>oB fun y33 e34=>oS (⟨[rS T2 y1,rS T2 y3,rS T2 y5,fF,.cut ⟨[],[],(aq.bL y1 y3 y5),0,.normal,(aq.cA y1 y3 y5 o9),0⟩,.cut ⟨[],[],(aq.ec o9 y1 y3 y5),0,.normal,(aq.eI y1 y3 y5 o12),0⟩,rS dJ y14,rS dJ y16,rS dJ y18,.res (.more (.dp dJ) (.one (.dp dJ))) y20,fF,.res (.more (.dp dJ) (.one (.dp dJ))) y24,.cut ⟨[],[],(aq.gF o12 y14 y24),0,.normal,(aq.gK o12 y14 o27),0⟩,fF,.cut ⟨[],[],(aq.iy o27 y14),0,.normal,(aq.iB o31),0⟩,rS T2 y33],[],via (bE (aI (aI (aI (aI aL e2) e4) e6) e7) [] (aq.bL y1 y3 y5) (((aq.aY k y1 y3 y5).ap e10)) (bE aL [] (aq.ec o9 y1 y3 y5) (((aq.cL k o9 y1 y3 y5).ap e13)) (bE (aI (aI (aI (aI (aI (aI aL e15) e17) e19) e21) e22) e25) [] (aq.gF o12 y14 y24) (((aq.eP k o12 y14 y24).ap e28)) (bE (aI aL (cn e29)) [] (aq.iy o27 y14) (((aq.gD k o27 y14).ap e32)) (bO (aI aL e34) (.one (.dp T2)) (y33:Int)))))) (by kernel_rfl)⟩)) (fun e29=>oB fun o36 e37=>oB fun y38 e39=>oS (⟨[rS T2 y1,rS T2 y3,rS T2 y5,fF,.cut ⟨[],[],(aq.bL y1 y3 y5),0,.normal,(aq.cA y1 y3 y5 o9),0⟩,.cut ⟨[],[],(aq.ec o9 y1 y3 y5),0,.normal,(aq.eI y1 y3 y5 o12),0⟩,rS dJ y14,rS dJ y16,rS dJ y18,.res (.more (.dp dJ) (.one (.dp dJ))) y20,fF,.res (.more (.dp dJ) (.one (.dp dJ))) y24,.cut ⟨[],[],(aq.gF o12 y14 y24),0,.normal,(aq.gK o12 y14 o27),0⟩,tT,.cut ⟨[],[],(aq.kH o27 y14),0,.normal,(aq.kz o36),0⟩,rS T2 y38],[],via (bE (aI (aI (aI (aI aL e2) e4) e6) e7) [] (aq.bL y1 y3 y5) (((aq.aY k y1 y3 y5).ap e10)) (bE aL [] (aq.ec o9 y1 y3 y5) (((aq.cL k o9 y1 y3 y5).ap e13)) (bE (aI (aI (aI (aI (aI (aI aL e15) e17) e19) e21) e22) e25) [] (aq.gF o12 y14 y24) (((aq.eP k o12 y14 y24).ap e28)) (bE (aI aL (cn e29)) [] (aq.kH o27 y14) (((aq.jo k o27 y14).ap e37)) (bO (aI aL e39) (.one (.dp T2)) (y38:Int)))))) (by kernel_rfl)⟩))))
theorem aq.ok (k:Nat):cW PR 114 (aq.sp k) := fK (aq.bh k) Tryz.func114 (by kernel_rfl) (fun x=>by kernel_rfl) fun x y hy=>(aq.dC k x.1 x.2.1 x.2.2.1).ap hy
def ez.code:Code:=Func.cd Tryz.f51
def ez (k:Nat) (a0 a1:Int):Option Int := bG (aq k a0 a1 65536) fun y1=>some y1
def ez.sp (k:Nat):Go.Sx.Spec:=⟨bJ,(.one (.dp T2)),fun x=>ez k x.1 x.2.1,false⟩
def ez.cx (k:Nat):Go.Sx.Ctx:=⟨gi,[(114,aq.sp k)],eqs,8,0,[],false⟩
theorem ez.bh (k:Nat):bV PR (ez.cx k):=bD ck cg (fC (aq.ok k) bN.nil) c8.nil
theorem ez.dC (k:Nat) (a0 a1:Int):cf (ez k a0 a1) fun y=>∃ w c0,exec PR (ez.cx k) ez.code 0 (entry bJ (a0,a1,())).st w (qE (ez.cx k) Tryz.f51 c0 (.one (.dp T2)) y):=by unfold ez; exact oB fun y1 e2=>oS (⟨[rS T2 y1],[],via (bO (aI aL e2) (.one (.dp T2)) (y1:Int)) (by kernel_rfl)⟩)
theorem ez.ok (k:Nat):cW PR 51 (ez.sp k) := fK (ez.bh k) Tryz.func51 (by kernel_rfl) (fun x=>by kernel_rfl) fun x y hy=>(ez.dC k x.1 x.2.1).ap hy
def gx.code:Code:=Func.cd Tryz.f119
def gx (k:Nat) (a0 a1:Int):Option Int := bG (cX k a0) fun y1=>bG (cX k a1) fun y3=>bG (cX k (ag .i64 y1 y3)) fun y5=>some y5
def gx.sp (k:Nat):Go.Sx.Spec:=⟨bJ,(.one (.dp T2)),fun x=>gx k x.1 x.2.1,false⟩
def gx.cx (k:Nat):Go.Sx.Ctx:=⟨gi,[(125,cX.sp k)],eqs,11,0,[],false⟩
theorem gx.bh (k:Nat):bV PR (gx.cx k):=bD ck cg (fC (cX.ok k) bN.nil) c8.nil
theorem gx.dC (k:Nat) (a0 a1:Int):cf (gx k a0 a1) fun y=>∃ w c0,exec PR (gx.cx k) gx.code 0 (entry bJ (a0,a1,())).st w (qE (gx.cx k) Tryz.f119 c0 (.one (.dp T2)) y):=by unfold gx; exact oB fun y1 e2=>oB fun y3 e4=>oB fun y5 e6=>oS (⟨[rS T2 y1,rS T2 y3,rS T2 y5],[],via (bO (aI (aI (aI aL e2) e4) e6) (.one (.dp T2)) (y5:Int)) (by kernel_rfl)⟩)
theorem gx.ok (k:Nat):cW PR 119 (gx.sp k) := fK (gx.bh k) Tryz.func119 (by kernel_rfl) (fun x=>by kernel_rfl) fun x y hy=>(gx.dC k x.1 x.2.1).ap hy
def gw.code:Code:=Func.cd Tryz.f122
def gw (k:Nat) (a0 a1:Int):Option Int := bG (cX k a0) fun y1=>bG (cX k a1) fun y3=>bG (cX k (aU .i64 y1 y3)) fun y5=>some y5
def gw.sp (k:Nat):Go.Sx.Spec:=⟨bJ,(.one (.dp T2)),fun x=>gw k x.1 x.2.1,false⟩
def gw.cx (k:Nat):Go.Sx.Ctx:=⟨gi,[(125,cX.sp k)],eqs,11,0,[],false⟩
theorem gw.bh (k:Nat):bV PR (gw.cx k):=bD ck cg (fC (cX.ok k) bN.nil) c8.nil
theorem gw.dC (k:Nat) (a0 a1:Int):cf (gw k a0 a1) fun y=>∃ w c0,exec PR (gw.cx k) gw.code 0 (entry bJ (a0,a1,())).st w (qE (gw.cx k) Tryz.f122 c0 (.one (.dp T2)) y):=by unfold gw; exact oB fun y1 e2=>oB fun y3 e4=>oB fun y5 e6=>oS (⟨[rS T2 y1,rS T2 y3,rS T2 y5],[],via (bO (aI (aI (aI aL e2) e4) e6) (.one (.dp T2)) (y5:Int)) (by kernel_rfl)⟩)
theorem gw.ok (k:Nat):cW PR 122 (gw.sp k) := fK (gw.bh k) Tryz.func122 (by kernel_rfl) (fun x=>by kernel_rfl) fun x y hy=>(gw.dC k x.1 x.2.1).ap hy
def bm.code:Code:=Func.cd Tryz.f178
def bm.c2 (k:Nat) (a0 a1:Int) (y4:(Int × Int)):Option (Bool) := aR (fq y4.1 a0) (some true) (aR (gX y4.1 a0) (some (jw y4.2 a1)) (some false))
def bm.c3 (k:Nat) (o8:Bool) (v1 v2:Int):Option (Int) := aR o8 (some (cP .or .u64 v1 v2)) (some v1)
def bm.c1 (k:Nat) (a0 a1:Int):Nat→Int→Int→Option (Int) | 0,_,_=>none | n+1,v1,v2=>aR (iS v2 0) (bG (dx k (cP .or .u64 v1 v2) (cP .or .u64 v1 v2)) fun y4=>bG (bm.c2 k a0 a1 y4) fun o8=>bG (bm.c3 k o8 v1 v2) fun o11=>bm.c1 k a0 a1 n o11 (dz .u64 v2 1)) (some v1)
def bm (k:Nat) (a0 a1:Int):Option Int := bG (bm.c1 k a0 a1 k 0 9223372036854775808) fun o13=>some o13
def bm.sp (k:Nat):Go.Sx.Spec:=⟨(.pair dJ (.pair dJ .unit)),(.one (.dp dJ)),fun x=>bm k x.1 x.2.1,false⟩
def bm.cx (k:Nat):Go.Sx.Ctx:=⟨gi,[(145,dx.sp k)],eqs,38,0,[],false⟩
theorem bm.bh (k:Nat):bV PR (bm.cx k):=bD ck cg (fC (dx.ok k) bN.nil) c8.nil
def bm.ec (a0 a1 v1 v2:Int) (y4:(Int × Int)):SL:=⟨[(0,(.val dJ a0)),(1,(.val dJ a1)),(5,(.val dJ v1)),(6,(.val dJ v2)),(7,(.val dJ (cP .or .u64 v1 v2))),(8,(.val dJ y4.1)),(9,(.val dJ y4.2))],[]⟩
def bm.eI (a0 a1 v1 v2:Int) (o:Bool):SL:=(fun v=>⟨[(0,(.val dJ a0)),(1,(.val dJ a1)),(5,(.val dJ v1)),(6,(.val dJ v2)),(7,(.val dJ (cP .or .u64 v1 v2))),(35,(.val T4 v))],[]⟩) o
def bm.iZ (o:Bool):Ex:=(fun _=>.normal) o
def bm.iX (o:Bool):Nat:=(fun _=>0) o
theorem bm.cL (k:Nat) (a0 a1 v1 v2:Int) (y4:(Int × Int)):cf (bm.c2 k a0 a1 y4) fun o=>Triple PR (bm.cx k) (sub bm.code [1,1,0,1,0,0,1,0,0,1,1,0]) 0 (bm.ec a0 a1 v1 v2 y4) (bm.iZ o) (bm.iX o) (bm.eI a0 a1 v1 v2 o):=by unfold bm.c2; exact oF (fun e6=>oS (tW (bm.bh k) hmix [tT,tT,tT,tT,tT,tT,tT,tT,tT,tT] [] [] (via (a6 (aI (aI (aI (aI (aI (aI aL e6) e6) e6) e6) e6) e6) .normal [] (bm.eI a0 a1 v1 v2 true)) (by kernel_rfl)))) (fun e6=>oF (fun e7=>oS (tW (bm.bh k) hmix [fF,fF,fF,fF,tT,tT,tT,fF,tT,fF] [] [] (via (a6 (aI (aI (aI (aI (aI (aI (aI (aI (aI aL e6) e6) e6) e6) e7) e7) e7) (aI e6 e7)) e6) .normal [] (bm.eI a0 a1 v1 v2 (jw y4.2 a1))) (by kernel_rfl)))) (fun e7=>oS (tW (bm.bh k) hmix [fF,fF,fF,fF,fF,fF,fF,fF,fF,fF] [] [] (via (a6 (aI (aI (aI (aI (aI (aI (aI (aI (aI aL e6) e6) e6) e6) e7) e7) e7) (aI e6 e7)) e6) .normal [] (bm.eI a0 a1 v1 v2 false)) (by kernel_rfl)))))
def bm.gF (a0 a1:Int) (o8:Bool) (v1 v2:Int):SL:=⟨[(0,(.val dJ a0)),(1,(.val dJ a1)),(5,(.val dJ v1)),(6,(.val dJ v2)),(7,(.val dJ (cP .or .u64 v1 v2))),(35,(.val T4 o8))],[]⟩
def bm.gK (a0 a1 v2 o:Int):SL:=(fun v=>⟨[(0,(.val dJ a0)),(1,(.val dJ a1)),(5,(.val dJ v)),(6,(.val dJ v2))],[]⟩) o
def bm.k8 (o:Int):Ex:=(fun _=>.normal) o
def bm.lg (o:Int):Nat:=(fun _=>0) o
theorem bm.eP (k:Nat) (a0 a1:Int) (o8:Bool) (v1 v2:Int):cf (bm.c3 k o8 v1 v2) fun o=>Triple PR (bm.cx k) (sub bm.code [1,1,0,1,0,0,1,0,0,1,1,1]) 0 (bm.gF a0 a1 o8 v1 v2) (bm.k8 o) (bm.lg o) (bm.gK a0 a1 v2 o):=by unfold bm.c3; exact oF (fun e10=>oS (tW (bm.bh k) hmix [tT] [] [] (via (a6 (aI aL e10) .normal [] (bm.gK a0 a1 v2 (cP .or .u64 v1 v2))) (by kernel_rfl)))) (fun e10=>oS (tW (bm.bh k) hmix [fF] [] [] (via (a6 (aI aL e10) .normal [] (bm.gK a0 a1 v2 v1)) (by kernel_rfl))))
def bm.bL (a0 a1 v1 v2:Int):SL:=⟨[(0,(.val dJ a0)),(1,(.val dJ a1)),(5,(.val dJ v1)),(6,(.val dJ v2))],[]⟩
def bm.cA (o:Int):SL:=(fun v=>⟨[(5,(.val dJ v))],[]⟩) o
def bm.gj (o:Int):Ex:=(fun _=>(.exit 0)) o
def bm.gk (o:Int):Nat:=(fun _=>0) o
theorem bm.aY (k:Nat) (a0 a1:Int):∀ (n:Nat) (v1 v2:Int),cf (bm.c1 k a0 a1 n v1 v2) fun o=>ct PR (bm.cx k) (sub bm.code [1,1,0,1,0,0]) 0 (bm.bL a0 a1 v1 v2) (bm.gj o) (bm.gk o) (bm.cA o) | 0,_,_=>fun _ h=>nomatch h | n+1,v1,v2=>cf.of (bm.c1.eq_2 ..) (oF (fun e3=>oB fun y4 e5=>oB fun o8 e9=>oB fun o11 e12=>fun y hy=>bB (bm.bh k) hmix 0 (bm.bL a0 a1 o11 (dz .u64 v2 1)) [tT,.res (.more (.dp dJ) (.one (.dp dJ))) y4,.cutR 7 ⟨[],[],(bm.ec a0 a1 v1 v2 y4),0,.normal,(bm.eI a0 a1 v1 v2 o8),0⟩,.cut ⟨[],[],(bm.gF a0 a1 o8 v1 v2),0,.normal,(bm.gK a0 a1 v2 o11),0⟩] [] [] (via (bE (aI (aI aL e3) e5) [] (bm.ec a0 a1 v1 v2 y4) (((bm.cL k a0 a1 v1 v2 y4).ap e9)) (bE aL [] (bm.gF a0 a1 o8 v1 v2) (((bm.eP k a0 a1 o8 v1 v2).ap e12)) (a6 (aI aL (by decide:ng (1:Int))) .normal [] (bm.bL a0 a1 o11 (dz .u64 v2 1))))) (by kernel_rfl)) ((bm.aY k a0 a1 n o11 (dz .u64 v2 1)).ap hy)) (fun e3=>oS (bk (bm.bh k) hmix [fF] [] [] (fX 0) (via (a6 (aI aL e3) (.exit 0) [] (bm.cA v1)) (by kernel_rfl)))))
theorem bm.dC (k:Nat) (a0 a1:Int):cf (bm k a0 a1) fun y=>wP (bm.cx k) bm.code (.pair dJ (.pair dJ .unit)) (a0,a1,()) Tryz.f178 (.one (.dp dJ)) y:=by unfold bm; exact oB fun o13 e14=>oS (⟨[.cut ⟨[],[],(bm.bL a0 a1 (0:Int) (9223372036854775808:Int)),0,(.exit 0),(bm.cA o13),0⟩],[],via (bE aL [] (bm.bL a0 a1 (0:Int) (9223372036854775808:Int)) (((bm.aY k a0 a1 k (0:Int) (9223372036854775808:Int)).ap e14).triple) (bO aL (.one (.dp dJ)) (o13:Int))) (by kernel_rfl)⟩)
theorem bm.ok (k:Nat):cW PR 178 (bm.sp k) := fK (bm.bh k) Tryz.func178 (by kernel_rfl) (fun x=>by kernel_rfl) fun x y hy=>(bm.dC k x.1 x.2.1).ap hy
def gd.code:Code:=Func.cd Tryz.f55
def gd (k:Nat) (a0 a1:aB):Option aB := bG (gx k a0.1 a1.1) fun y1=>bG (gx k a0.2.1 a1.2.1) fun y3=>some (y1,y3,())
def gd.sp (k:Nat):Go.Sx.Spec:=⟨fG,(.one (.dp bJ)),fun x=>gd k x.1 x.2.1,false⟩
def gd.cx (k:Nat):Go.Sx.Ctx:=⟨gi,[(119,gx.sp k)],eqs,16,0,[],false⟩
theorem gd.bh (k:Nat):bV PR (gd.cx k):=bD ck cg (fC (gx.ok k) bN.nil) c8.nil
theorem gd.dC (k:Nat) (a0 a1:aB):cf (gd k a0 a1) fun y=>∃ w c0,exec PR (gd.cx k) gd.code 0 (entry fG (a0,a1,())).st w (qE (gd.cx k) Tryz.f55 c0 (.one (.dp bJ)) y):=by unfold gd; exact oB fun y1 e2=>oB fun y3 e4=>oS (⟨[rS T2 y1,rS T2 y3],[],via (bO (aI (aI aL e2) e4) (.one (.dp bJ)) ((y1,y3,()):aB)) (by kernel_rfl)⟩)
theorem gd.ok (k:Nat):cW PR 55 (gd.sp k) := fK (gd.bh k) Tryz.func55 (by kernel_rfl) (fun x=>by kernel_rfl) fun x y hy=>(gd.dC k x.1 x.2.1).ap hy
def fJ.code:Code:=Func.cd Tryz.f198
def fJ (k:Nat):Option (List Int) := some [0,1608,3216,4821,6424,8022,9616,11204,12785,14359,15924,17479,19024,20557,22078,23586,25080,26558,28020,29466,30893,32303,33692,35062,36410,37736,39040,40320,41576,42806,44011,45190,46341,47464,48559,49624,50660,51665,52639,53581,54491,55368,56212,57022,57798,58538,59244,59914,60547,61145,61705,62228,62714,63162,63572,63944,64277,64571,64827,65043,65220,65358,65457,65516,65536]
def fJ.sp (k:Nat):Go.Sx.Spec:=⟨.unit,(.one (.dp (.arr 65 T2))),fun x=>fJ k,false⟩
def fJ.cx (k:Nat):Go.Sx.Ctx:=⟨gi,[],eqs,2,0,[],false⟩
theorem fJ.bh (k:Nat):bV PR (fJ.cx k):=bD ck cg bN.nil c8.nil
theorem fJ.dC (k:Nat):cf (fJ k) fun y=>wP (fJ.cx k) fJ.code .unit () Tryz.f198 (.one (.dp (.arr 65 T2))) y:=by unfold fJ; exact oS (⟨[],[],via (bO aL (.one (.dp (.arr 65 T2))) ([(0:Int),(1608:Int),(3216:Int),(4821:Int),(6424:Int),(8022:Int),(9616:Int),(11204:Int),(12785:Int),(14359:Int),(15924:Int),(17479:Int),(19024:Int),(20557:Int),(22078:Int),(23586:Int),(25080:Int),(26558:Int),(28020:Int),(29466:Int),(30893:Int),(32303:Int),(33692:Int),(35062:Int),(36410:Int),(37736:Int),(39040:Int),(40320:Int),(41576:Int),(42806:Int),(44011:Int),(45190:Int),(46341:Int),(47464:Int),(48559:Int),(49624:Int),(50660:Int),(51665:Int),(52639:Int),(53581:Int),(54491:Int),(55368:Int),(56212:Int),(57022:Int),(57798:Int),(58538:Int),(59244:Int),(59914:Int),(60547:Int),(61145:Int),(61705:Int),(62228:Int),(62714:Int),(63162:Int),(63572:Int),(63944:Int),(64277:Int),(64571:Int),(64827:Int),(65043:Int),(65220:Int),(65358:Int),(65457:Int),(65516:Int),(65536:Int)]:(List Int))) (by kernel_rfl)⟩)
theorem fJ.ok (k:Nat):cW PR 198 (fJ.sp k) := fK (fJ.bh k) Tryz.func198 (by kernel_rfl) (fun x=>by kernel_rfl) fun x y hy=>(fJ.dC k).ap hy
def dY.code:Code:=Func.cd Tryz.f176
def dY (k:Nat) (a0:Int):Option Int := bG (fJ k) fun y1=>aR (gX (cC a0 256) 0) (eB (jc (eu .i64 a0 256) 65) <|some (el 0 y1 (eu .i64 a0 256))) (eB (jc (eu .i64 a0 256) 65) <|eB (jc (ag .i64 (eu .i64 a0 256) 1) 65) <|some (ag .i64 (el 0 y1 (eu .i64 a0 256)) (eu .i64 (ag .i64 (aN .i64 (aU .i64 (el 0 y1 (ag .i64 (eu .i64 a0 256) 1)) (el 0 y1 (eu .i64 a0 256))) (cC a0 256)) 128) 256)))
def dY.sp (k:Nat):Go.Sx.Spec:=⟨(.pair T2 .unit),(.one (.dp T2)),fun x=>dY k x.1,false⟩
def dY.cx (k:Nat):Go.Sx.Ctx:=⟨gi,[(198,fJ.sp k)],eqs,32,0,[],false⟩
theorem dY.bh (k:Nat):bV PR (dY.cx k):=bD ck cg (fC (fJ.ok k) bN.nil) c8.nil
theorem dY.dC (k:Nat) (a0:Int):cf (dY k a0) fun y=>wP (dY.cx k) dY.code (.pair T2 .unit) (a0,()) Tryz.f176 (.one (.dp T2)) y:=by unfold dY; exact oB fun y1 e2=>oF (fun e3=>oR fun h4=>oS (⟨[.res (.one (.dp (.arr 65 T2))) y1,tT],[],via (bO (aI (aI (aI (aI (aI (aI aL e2) (by decide:nz (256:Int))) (by decide:nz (256:Int))) e3) h4) h4) (.one (.dp T2)) ((el (0:Int) y1 (eu .i64 a0 256)):Int)) (by kernel_rfl)⟩)) (fun e3=>oR fun h5=>oR fun h6=>oS (⟨[.res (.one (.dp (.arr 65 T2))) y1,fF],[],via (bO (aI (aI (aI (aI (aI (aI (aI (aI (aI (aI (aI aL e2) (by decide:nz (256:Int))) (by decide:nz (256:Int))) e3) h5) h5) h6) h6) h5) h5) (by decide:nz (256:Int))) (.one (.dp T2)) ((ag .i64 (el (0:Int) y1 (eu .i64 a0 256)) (eu .i64 (ag .i64 (aN .i64 (aU .i64 (el (0:Int) y1 (ag .i64 (eu .i64 a0 256) 1)) (el (0:Int) y1 (eu .i64 a0 256))) (cC a0 256)) 128) 256)):Int)) (by kernel_rfl)⟩))
theorem dY.ok (k:Nat):cW PR 176 (dY.sp k) := fK (dY.bh k) Tryz.func176 (by kernel_rfl) (fun x=>by kernel_rfl) fun x y hy=>(dY.dC k x.1).ap hy
def fO.code:Code:=Func.cd Tryz.f121
def fO (k:Nat) (a0:Int):Option Int := aR (gX (eu .i64 (cP .and .i64 a0 65535) 16384) 0) (bG (dY k (cC (cP .and .i64 a0 65535) 16384)) fun y2=>some y2) (aR (gX (eu .i64 (cP .and .i64 a0 65535) 16384) 1) (bG (dY k (aU .i64 16384 (cC (cP .and .i64 a0 65535) 16384))) fun y5=>some y5) (aR (gX (eu .i64 (cP .and .i64 a0 65535) 16384) 2) (bG (dY k (cC (cP .and .i64 a0 65535) 16384)) fun y8=>some (c9 .i64 y8)) (bG (dY k (aU .i64 16384 (cC (cP .and .i64 a0 65535) 16384))) fun y10=>some (c9 .i64 y10))))
def fO.sp (k:Nat):Go.Sx.Spec:=⟨(.pair T2 .unit),(.one (.dp T2)),fun x=>fO k x.1,false⟩
def fO.cx (k:Nat):Go.Sx.Ctx:=⟨gi,[(176,dY.sp k)],eqs,28,0,[],false⟩
theorem fO.bh (k:Nat):bV PR (fO.cx k):=bD ck cg (fC (dY.ok k) bN.nil) c8.nil
theorem fO.dC (k:Nat) (a0:Int):cf (fO k a0) fun y=>wP (fO.cx k) fO.code (.pair T2 .unit) (a0,()) Tryz.f121 (.one (.dp T2)) y:=by unfold fO; exact oF (fun e1=>oB fun y2 e3=>oS (⟨[tT,rS T2 y2],[],via (bO (aI (aI (aI (aI aL (by decide:nz (16384:Int))) (by decide:nz (16384:Int))) e1) e3) (.one (.dp T2)) (y2:Int)) (by kernel_rfl)⟩)) (fun e1=>oF (fun e4=>oB fun y5 e6=>oS (⟨[fF,tT,rS T2 y5],[],via (bO (aI (aI (aI (aI (aI aL (by decide:nz (16384:Int))) (by decide:nz (16384:Int))) e1) e4) e6) (.one (.dp T2)) (y5:Int)) (by kernel_rfl)⟩)) (fun e4=>oF (fun e7=>oB fun y8 e9=>oS (⟨[fF,fF,tT,rS T2 y8],[],via (bO (aI (aI (aI (aI (aI (aI aL (by decide:nz (16384:Int))) (by decide:nz (16384:Int))) e1) e4) e7) e9) (.one (.dp T2)) ((c9 .i64 y8):Int)) (by kernel_rfl)⟩)) (fun e7=>oB fun y10 e11=>oS (⟨[fF,fF,fF,rS T2 y10],[],via (bO (aI (aI (aI (aI (aI (aI aL (by decide:nz (16384:Int))) (by decide:nz (16384:Int))) e1) e4) e7) e11) (.one (.dp T2)) ((c9 .i64 y10):Int)) (by kernel_rfl)⟩))))
theorem fO.ok (k:Nat):cW PR 121 (fO.sp k) := fK (fO.bh k) Tryz.func121 (by kernel_rfl) (fun x=>by kernel_rfl) fun x y hy=>(fO.dC k x.1).ap hy
def gh.code:Code:=Func.cd Tryz.f120
def gh (k:Nat) (a0:Int):Option Int := bG (fO k (ag .i64 (cP .and .i64 a0 65535) 16384)) fun y1=>some y1
def gh.sp (k:Nat):Go.Sx.Spec:=⟨(.pair T2 .unit),(.one (.dp T2)),fun x=>gh k x.1,false⟩
def gh.cx (k:Nat):Go.Sx.Ctx:=⟨gi,[(121,fO.sp k)],eqs,7,0,[],false⟩
theorem gh.bh (k:Nat):bV PR (gh.cx k):=bD ck cg (fC (fO.ok k) bN.nil) c8.nil
theorem gh.dC (k:Nat) (a0:Int):cf (gh k a0) fun y=>wP (gh.cx k) gh.code (.pair T2 .unit) (a0,()) Tryz.f120 (.one (.dp T2)) y:=by unfold gh; exact oB fun y1 e2=>oS (⟨[rS T2 y1],[],via (bO (aI aL e2) (.one (.dp T2)) (y1:Int)) (by kernel_rfl)⟩)
theorem gh.ok (k:Nat):cW PR 120 (gh.sp k) := fK (gh.bh k) Tryz.func120 (by kernel_rfl) (fun x=>by kernel_rfl) fun x y hy=>(gh.dC k x.1).ap hy
def gf.code:Code:=Func.cd Tryz.f56
def gf (k:Nat) (a0:aB) (a1:Int):Option aB := bG (gh k a1) fun y1=>bG (fO k a1) fun y3=>bG (ez k a0.1 y1) fun y5=>bG (ez k a0.2.1 y3) fun y7=>bG (gw k y5 y7) fun y9=>bG (ez k a0.1 y3) fun y11=>bG (ez k a0.2.1 y1) fun y13=>bG (gx k y11 y13) fun y15=>some (y9,y15,())
def gf.sp (k:Nat):Go.Sx.Spec:=⟨(.pair bJ (.pair T2 .unit)),(.one (.dp bJ)),fun x=>gf k x.1 x.2.1,false⟩
def gf.cx (k:Nat):Go.Sx.Ctx:=⟨gi,[(120,gh.sp k),(121,fO.sp k),(51,ez.sp k),(122,gw.sp k),(119,gx.sp k)],eqs,30,0,[],false⟩
theorem gf.bh (k:Nat):bV PR (gf.cx k):=bD ck cg (fC (gh.ok k) (fC (fO.ok k) (fC (ez.ok k) (fC (gw.ok k) (fC (gx.ok k) bN.nil))))) c8.nil
theorem gf.dC (k:Nat) (a0:aB) (a1:Int):cf (gf k a0 a1) fun y=>wP (gf.cx k) gf.code (.pair bJ (.pair T2 .unit)) (a0,a1,()) Tryz.f56 (.one (.dp bJ)) y:=by unfold gf; exact oB fun y1 e2=>oB fun y3 e4=>oB fun y5 e6=>oB fun y7 e8=>oB fun y9 e10=>oB fun y11 e12=>oB fun y13 e14=>oB fun y15 e16=>oS (⟨[rS T2 y1,rS T2 y3,rS T2 y5,rS T2 y7,rS T2 y9,rS T2 y11,rS T2 y13,rS T2 y15],[],via (bO (aI (aI (aI (aI (aI (aI (aI (aI aL e2) e4) e6) e8) e10) e12) e14) e16) (.one (.dp bJ)) ((y9,y15,()):aB)) (by kernel_rfl)⟩)
theorem gf.ok (k:Nat):cW PR 56 (gf.sp k) := fK (gf.bh k) Tryz.func56 (by kernel_rfl) (fun x=>by kernel_rfl) fun x y hy=>(gf.dC k x.1 x.2.1).ap hy
def gb.code:Code:=Func.cd Tryz.f126
def gb (k:Nat) (a0:Int):Option Int := some (cU .u64 (imax a0 (c9 .i64 a0)))
def gb.sp (k:Nat):Go.Sx.Spec:=⟨(.pair T2 .unit),(.one (.dp dJ)),fun x=>gb k x.1,false⟩
def gb.cx (k:Nat):Go.Sx.Ctx:=⟨gi,[],eqs,8,0,[],false⟩
theorem gb.bh (k:Nat):bV PR (gb.cx k):=bD ck cg bN.nil c8.nil
theorem gb.dC (k:Nat) (a0:Int):cf (gb k a0) fun y=>wP (gb.cx k) gb.code (.pair T2 .unit) (a0,()) Tryz.f126 (.one (.dp dJ)) y:=by unfold gb; exact oS (⟨[],[],via (bO aL (.one (.dp dJ)) ((cU .u64 (imax a0 (c9 .i64 a0))):Int)) (by kernel_rfl)⟩)
theorem gb.ok (k:Nat):cW PR 126 (gb.sp k) := fK (gb.bh k) Tryz.func126 (by kernel_rfl) (fun x=>by kernel_rfl) fun x y hy=>(gb.dC k x.1).ap hy
def eE.code:Code:=Func.cd Tryz.f127
def eE (k:Nat) (a0 a1:Int):Option Int := bG (gb k a0) fun y1=>bG (gb k a0) fun y3=>bG (dx k y1 y3) fun y5=>bG (gb k a1) fun y7=>bG (gb k a1) fun y9=>bG (dx k y7 y9) fun y11=>bG (bits_Add64 k y5.2 y11.2 0) fun y13=>bG (bits_Add64 k y5.1 y11.1 y13.2) fun y15=>bG (bm k y15.1 y13.1) fun y17=>some (cU .i64 y17)
def eE.sp (k:Nat):Go.Sx.Spec:=⟨bJ,(.one (.dp T2)),fun x=>eE k x.1 x.2.1,false⟩
def eE.cx (k:Nat):Go.Sx.Ctx:=⟨gi,[(126,gb.sp k),(145,dx.sp k),(177,bits_Add64.sp k),(178,bm.sp k)],eqs,46,0,[],false⟩
theorem eE.bh (k:Nat):bV PR (eE.cx k):=bD ck cg (fC (gb.ok k) (fC (dx.ok k) (fC (bits_Add64.ok k) (fC (bm.ok k) bN.nil)))) c8.nil
theorem eE.dC (k:Nat) (a0 a1:Int):cf (eE k a0 a1) fun y=>∃ w c0,exec PR (eE.cx k) eE.code 0 (entry bJ (a0,a1,())).st w (qE (eE.cx k) Tryz.f127 c0 (.one (.dp T2)) y):=by unfold eE; exact oB fun y1 e2=>oB fun y3 e4=>oB fun y5 e6=>oB fun y7 e8=>oB fun y9 e10=>oB fun y11 e12=>oB fun y13 e14=>oB fun y15 e16=>oB fun y17 e18=>oS (⟨[rS dJ y1,rS dJ y3,.res (.more (.dp dJ) (.one (.dp dJ))) y5,rS dJ y7,rS dJ y9,.res (.more (.dp dJ) (.one (.dp dJ))) y11,.res (.more (.dp dJ) (.one (.dp dJ))) y13,.res (.more (.dp dJ) (.one (.dp dJ))) y15,rS dJ y17],[],via (bO (aI (aI (aI (aI (aI (aI (aI (aI (aI aL e2) e4) e6) e8) e10) e12) e14) e16) e18) (.one (.dp T2)) ((cU .i64 y17):Int)) (by kernel_rfl)⟩)
theorem eE.ok (k:Nat):cW PR 127 (eE.sp k) := fK (eE.bh k) Tryz.func127 (by kernel_rfl) (fun x=>by kernel_rfl) fun x y hy=>(eE.dC k x.1 x.2.1).ap hy
def bU.code:Code:=Func.cd Tryz.f128
def bU.c1 (k:Nat) (a0 a1:Int):Option (Bool) := aR (fq (ag .i64 (aN .i64 (aN .i64 2 a0) 65536) a1) 0) (eB (nz (aN .i64 2 a1)) <|some (j6 (cC (ag .i64 (aN .i64 (aN .i64 2 a0) 65536) a1) (aN .i64 2 a1)) 0)) (some false)
def bU (k:Nat) (a0 a1:Int):Option Int := eB (nz (aN .i64 2 a1)) <|bG (bU.c1 k a0 a1) fun o4=>aR o4 (some (aU .i64 (eu .i64 (ag .i64 (aN .i64 (aN .i64 2 a0) 65536) a1) (aN .i64 2 a1)) 1)) (some (eu .i64 (ag .i64 (aN .i64 (aN .i64 2 a0) 65536) a1) (aN .i64 2 a1)))
def bU.sp (k:Nat):Go.Sx.Spec:=⟨bJ,(.one (.dp T2)),fun x=>bU k x.1 x.2.1,false⟩
def bU.cx (k:Nat):Go.Sx.Ctx:=⟨gi,[],eqs,28,0,[],false⟩
theorem bU.bh (k:Nat):bV PR (bU.cx k):=bD ck cg bN.nil c8.nil
def bU.bL (a0 a1:Int):SL:=⟨[(1,(.val T2 a1)),(5,(.val T2 (ag .i64 (aN .i64 (aN .i64 2 a0) 65536) a1))),(6,(.val T2 (eu .i64 (ag .i64 (aN .i64 (aN .i64 2 a0) 65536) a1) (aN .i64 2 a1))))],[]⟩
def bU.cA (a0 a1:Int) (o:Bool):SL:=(fun v=>⟨[(6,(.val T2 (eu .i64 (ag .i64 (aN .i64 (aN .i64 2 a0) 65536) a1) (aN .i64 2 a1)))),(24,(.val T4 v))],[]⟩) o
def bU.gj (o:Bool):Ex:=(fun _=>.normal) o
def bU.gk (o:Bool):Nat:=(fun _=>0) o
theorem bU.aY (k:Nat) (a0 a1:Int):cf (bU.c1 k a0 a1) fun o=>Triple PR (bU.cx k) (sub bU.code [1,1,1,0,0]) 0 (bU.bL a0 a1) (bU.gj o) (bU.gk o) (bU.cA a0 a1 o):=by unfold bU.c1; exact oF (fun e2=>oR fun h3=>oS (tW (bU.bh k) hmix [tT,tT,tT,tT,tT,tT] [] [] (via (a6 (aI (aI (aI (aI (aI (aI aL e2) e2) e2) (aI e2 h3)) e2) e2) .normal [] (bU.cA a0 a1 (j6 (cC (ag .i64 (aN .i64 (aN .i64 2 a0) 65536) a1) (aN .i64 2 a1)) 0))) (by kernel_rfl)))) (fun e2=>oS (tW (bU.bh k) hmix [fF,fF,fF,fF,fF,fF] [] [] (via (a6 (aI (aI (aI (aI (aI (aI aL e2) e2) e2) e2) e2) e2) .normal [] (bU.cA a0 a1 false)) (by kernel_rfl))))
theorem bU.dC (k:Nat) (a0 a1:Int):cf (bU k a0 a1) fun y=>∃ w c0,exec PR (bU.cx k) bU.code 0 (entry bJ (a0,a1,())).st w (qE (bU.cx k) Tryz.f128 c0 (.one (.dp T2)) y):=by unfold bU; exact oR fun h1=>oB fun o4 e5=>oF (fun e6=>oS (⟨[.cutR 3 ⟨[],[],(bU.bL a0 a1),0,.normal,(bU.cA a0 a1 o4),0⟩,tT],[],via (bE (aI aL h1) [] (bU.bL a0 a1) (((bU.aY k a0 a1).ap e5)) (bO (aI aL e6) (.one (.dp T2)) ((aU .i64 (eu .i64 (ag .i64 (aN .i64 (aN .i64 2 a0) 65536) a1) (aN .i64 2 a1)) 1):Int))) (by kernel_rfl)⟩)) (fun e6=>oS (⟨[.cutR 3 ⟨[],[],(bU.bL a0 a1),0,.normal,(bU.cA a0 a1 o4),0⟩,fF],[],via (bE (aI aL h1) [] (bU.bL a0 a1) (((bU.aY k a0 a1).ap e5)) (bO (aI aL e6) (.one (.dp T2)) ((eu .i64 (ag .i64 (aN .i64 (aN .i64 2 a0) 65536) a1) (aN .i64 2 a1)):Int))) (by kernel_rfl)⟩))
theorem bU.ok (k:Nat):cW PR 128 (bU.sp k) := fK (bU.bh k) Tryz.func128 (by kernel_rfl) (fun x=>by kernel_rfl) fun x y hy=>(bU.dC k x.1 x.2.1).ap hy
def bM.code:Code:=Func.cd Tryz.f59
def bM.c1 (k:Nat) (y1 y3:Int):Option (Bool) := aR (gX y1 0) (some (gX y3 0)) (some false)
def bM.c2 (k:Nat):Nat→Int→Int→Option ((Int × Int)) | 0,_,_=>none | n+1,v9,v10=>bG (gb k v9) fun y11=>bG (gb k v10) fun y13=>aR (fq (imax y11 y13) 1073741824) (bM.c2 k n (aN .i64 2 v9) (aN .i64 2 v10)) (some (v9,v10))
def bM (k:Nat) (a0:aB):Option aB := bG (cX k a0.1) fun y1=>bG (cX k a0.2.1) fun y3=>bG (bM.c1 k y1 y3) fun o6=>aR o6 (some (0,0,())) (bG (bM.c2 k k y1 y3) fun o16=>bG (eE k o16.1 o16.2) fun y18=>bG (bU k o16.1 y18) fun y20=>bG (bU k o16.2 y18) fun y22=>some (y20,y22,()))
def bM.sp (k:Nat):Go.Sx.Spec:=⟨(.pair bJ .unit),(.one (.dp bJ)),fun x=>bM k x.1,false⟩
def bM.cx (k:Nat):Go.Sx.Ctx:=⟨gi,[(125,cX.sp k),(126,gb.sp k),(127,eE.sp k),(128,bU.sp k)],eqs,39,0,[],false⟩
theorem bM.bh (k:Nat):bV PR (bM.cx k):=bD ck cg (fC (cX.ok k) (fC (gb.ok k) (fC (eE.ok k) (fC (bU.ok k) bN.nil)))) c8.nil
def bM.bL (y1 y3:Int):SL:=⟨[(2,(pz 0 0 0)),(3,(.val T2 y1)),(4,(.val T2 y3))],[(0,.cells bJ ((0:Int),(0:Int),()))]⟩
def bM.cA (y1 y3:Int) (o:Bool):SL:=(fun v=>⟨[(2,(pz 0 0 0)),(3,(.val T2 y1)),(4,(.val T2 y3)),(17,(.val T4 v))],[(0,.cells bJ ((0:Int),(0:Int),()))]⟩) o
def bM.gj (o:Bool):Ex:=(fun _=>.normal) o
def bM.gk (o:Bool):Nat:=(fun _=>1) o
theorem bM.aY (k:Nat) (y1 y3:Int):cf (bM.c1 k y1 y3) fun o=>Triple PR (bM.cx k) (sub bM.code [1,1,0,0]) 1 (bM.bL y1 y3) (bM.gj o) (bM.gk o) (bM.cA y1 y3 o):=by unfold bM.c1; exact oF (fun e5=>oS (tW (bM.bh k) hmix [tT,tT,tT] [] [(0,0)] (via (a6 (aI (aI (aI aL e5) e5) e5) .normal [(0,0)] (bM.cA y1 y3 (gX y3 0))) (by kernel_rfl)))) (fun e5=>oS (tW (bM.bh k) hmix [fF,fF,fF] [] [(0,0)] (via (a6 (aI (aI (aI aL e5) e5) e5) .normal [(0,0)] (bM.cA y1 y3 false)) (by kernel_rfl))))
def bM.ec (v9 v10:Int):SL:=⟨[(2,(pz 0 0 0)),(3,(.val T2 v9)),(4,(.val T2 v10))],[(0,.cells bJ ((0:Int),(0:Int),()))]⟩
def bM.eI (o:(Int × Int)):SL:=(fun v=>⟨[(2,(pz 0 0 0)),(3,(.val T2 v.1)),(4,(.val T2 v.2))],[(0,.cells bJ ((0:Int),(0:Int),()))]⟩) o
def bM.iZ (o:(Int × Int)):Ex:=(fun _=>(.exit 0)) o
def bM.iX (o:(Int × Int)):Nat:=(fun _=>1) o
theorem bM.cL (k:Nat):∀ (n:Nat) (v9 v10:Int),cf (bM.c2 k n v9 v10) fun o=>ct PR (bM.cx k) (sub bM.code [1,1,1,0,0,0]) 1 (bM.ec v9 v10) (bM.iZ o) (bM.iX o) (bM.eI o) | 0,_,_=>fun _ h=>nomatch h | n+1,v9,v10=>cf.of (bM.c2.eq_2 ..) (oB fun y11 e12=>oB fun y13 e14=>oF (fun e15=>fun y hy=>bB (bM.bh k) hmix 1 (bM.ec (aN .i64 2 v9) (aN .i64 2 v10)) [rS dJ y11,rS dJ y13,tT] [] [(0,0)] (via (a6 (aI (aI (aI aL e12) e14) e15) .normal [(0,0)] (bM.ec (aN .i64 2 v9) (aN .i64 2 v10))) (by kernel_rfl)) ((bM.cL k n (aN .i64 2 v9) (aN .i64 2 v10)).ap hy)) (fun e15=>oS (bk (bM.bh k) hmix [rS dJ y11,rS dJ y13,fF] [] [(0,0)] (fX 0) (via (a6 (aI (aI (aI aL e12) e14) e15) (.exit 0) [(0,0)] (bM.eI (v9,v10))) (by kernel_rfl)))))
theorem bM.dC (k:Nat) (a0:aB):cf (bM k a0) fun y=>wP (bM.cx k) bM.code (.pair bJ .unit) (a0,()) Tryz.f59 (.one (.dp bJ)) y:=by unfold bM; exact oB fun y1 e2=>oB fun y3 e4=>oB fun o6 e7=>oF (fun e8=>oS (⟨[rS T2 y1,rS T2 y3,.cutR 2 ⟨[],[(0,1)],(bM.bL y1 y3),1,.normal,(bM.cA y1 y3 o6),1⟩,tT],[],via (bE (aI (aI aL e2) e4) [(0,1)] (bM.bL y1 y3) (((bM.aY k y1 y3).ap e7)) (bO (aI aL e8) (.one (.dp bJ)) (((0:Int),(0:Int),()):aB))) (by kernel_rfl)⟩)) (fun e8=>oB fun o16 e17=>oB fun y18 e19=>oB fun y20 e21=>oB fun y22 e23=>oS (⟨[rS T2 y1,rS T2 y3,.cutR 2 ⟨[],[(0,1)],(bM.bL y1 y3),1,.normal,(bM.cA y1 y3 o6),1⟩,fF,.cut ⟨[],[(0,0)],(bM.ec y1 y3),1,(.exit 0),(bM.eI o16),1⟩,rS T2 y18,rS T2 y20,rS T2 y22],[],via (bE (aI (aI aL e2) e4) [(0,1)] (bM.bL y1 y3) (((bM.aY k y1 y3).ap e7)) (bE (aI aL e8) [(0,0)] (bM.ec y1 y3) (((bM.cL k k y1 y3).ap e17).triple) (bO (aI (aI (aI aL e19) e21) e23) (.one (.dp bJ)) ((y20,y22,()):aB)))) (by kernel_rfl)⟩))
theorem bM.ok (k:Nat):cW PR 59 (bM.sp k) := fK (bM.bh k) Tryz.func59 (by kernel_rfl) (fun x=>by kernel_rfl) fun x y hy=>(bM.dC k x.1).ap hy
def gY.code:Code:=Func.cd Tryz.f101
def gY (k:Nat) (a0 a1:aB):Option aB := bG (gw k a0.1 a1.1) fun y1=>bG (gw k a0.2.1 a1.2.1) fun y3=>some (y1,y3,())
def gY.sp (k:Nat):Go.Sx.Spec:=⟨fG,(.one (.dp bJ)),fun x=>gY k x.1 x.2.1,false⟩
def gY.cx (k:Nat):Go.Sx.Ctx:=⟨gi,[(122,gw.sp k)],eqs,16,0,[],false⟩
theorem gY.bh (k:Nat):bV PR (gY.cx k):=bD ck cg (fC (gw.ok k) bN.nil) c8.nil
theorem gY.dC (k:Nat) (a0 a1:aB):cf (gY k a0 a1) fun y=>∃ w c0,exec PR (gY.cx k) gY.code 0 (entry fG (a0,a1,())).st w (qE (gY.cx k) Tryz.f101 c0 (.one (.dp bJ)) y):=by unfold gY; exact oB fun y1 e2=>oB fun y3 e4=>oS (⟨[rS T2 y1,rS T2 y3],[],via (bO (aI (aI aL e2) e4) (.one (.dp bJ)) ((y1,y3,()):aB)) (by kernel_rfl)⟩)
theorem gY.ok (k:Nat):cW PR 101 (gY.sp k) := fK (gY.bh k) Tryz.func101 (by kernel_rfl) (fun x=>by kernel_rfl) fun x y hy=>(gY.dC k x.1 x.2.1).ap hy
def gM.code:Code:=Func.cd Tryz.f103
def gM (k:Nat) (a0:aB):Option Int := bG (cX k a0.1) fun y1=>bG (cX k a0.2.1) fun y3=>bG (eE k y1 y3) fun y5=>bG (cX k y5) fun y7=>some y7
def gM.sp (k:Nat):Go.Sx.Spec:=⟨(.pair bJ .unit),(.one (.dp T2)),fun x=>gM k x.1,false⟩
def gM.cx (k:Nat):Go.Sx.Ctx:=⟨gi,[(125,cX.sp k),(127,eE.sp k)],eqs,11,0,[],false⟩
theorem gM.bh (k:Nat):bV PR (gM.cx k):=bD ck cg (fC (cX.ok k) (fC (eE.ok k) bN.nil)) c8.nil
theorem gM.dC (k:Nat) (a0:aB):cf (gM k a0) fun y=>wP (gM.cx k) gM.code (.pair bJ .unit) (a0,()) Tryz.f103 (.one (.dp T2)) y:=by unfold gM; exact oB fun y1 e2=>oB fun y3 e4=>oB fun y5 e6=>oB fun y7 e8=>oS (⟨[rS T2 y1,rS T2 y3,rS T2 y5,rS T2 y7],[],via (bO (aI (aI (aI (aI aL e2) e4) e6) e8) (.one (.dp T2)) (y7:Int)) (by kernel_rfl)⟩)
theorem gM.ok (k:Nat):cW PR 103 (gM.sp k) := fK (gM.bh k) Tryz.func103 (by kernel_rfl) (fun x=>by kernel_rfl) fun x y hy=>(gM.dC k x.1).ap hy
def eF.code:Code:=Func.cd Tryz.f43
def eF (k:Nat) (a0:(List j5)):Option (List j5) := eB (kl 56 a0) <|some a0
def eF.sp (k:Nat):Go.Sx.Spec:=⟨(.pair (.slice kD) .unit),(.one (.ow kD 73)),fun x=>eF k x.1,false⟩
def eF.cx (k:Nat):Go.Sx.Ctx:=⟨gi,[],eqs,8,0,[],false⟩
theorem eF.bh (k:Nat):bV PR (eF.cx k):=bD ck cg bN.nil c8.nil
theorem eF.dC (k:Nat) (a0:(List j5)):cf (eF k a0) fun y=>wP (eF.cx k) eF.code (.pair (.slice kD) .unit) (a0,()) Tryz.f43 (.one (.ow kD 73)) y:=by unfold eF; exact oR fun h1=>match a0,h1 with | [],h1=>oS (⟨[.fork [] [tT]],[.own 2 kD 73],via (show (True→(True∧(True∧some (dZ.row kD ([]:(List j5)) 73)=some (dZ.row kD ([]:(List j5)) 73))))∧((True∧kl 56 ([]:(List j5)))∧(True∧some (dZ.row kD ([]:(List j5)) 73)=some (dZ.row kD ([]:(List j5)) 73))) from ⟨fun _=>⟨aL,aL,rfl⟩,⟨aL,h1⟩,aL,rfl⟩) (by kernel_rfl)⟩) | a :: l,h1=>oS (⟨[fF,tT],[.own 2 kD 73],via (show ((True∧false=false)∧kl 56 (a :: l))∧(True∧some (dZ.row kD (a :: l:(List j5)) 73)=some (dZ.row kD (a :: l:(List j5)) 73)) from ⟨⟨⟨aL,rfl⟩,h1⟩,aL,rfl⟩) (by kernel_rfl)⟩)
theorem eF.ok (k:Nat):cW PR 43 (eF.sp k) := fK (eF.bh k) Tryz.func43 (by kernel_rfl) (fun x=>by kernel_rfl) fun x y hy=>(eF.dC k x.1).ap hy
def dH.code:Code:=Func.cd Tryz.f44
def dH (k:Nat) (a0:(List cI)):Option (List cI) := eB (kl 120 a0) <|some a0
def dH.sp (k:Nat):Go.Sx.Spec:=⟨(.pair (.slice dG) .unit),(.one (.ow dG 43)),fun x=>dH k x.1,false⟩
def dH.cx (k:Nat):Go.Sx.Ctx:=⟨gi,[],eqs,8,0,[],false⟩
theorem dH.bh (k:Nat):bV PR (dH.cx k):=bD ck cg bN.nil c8.nil
theorem dH.dC (k:Nat) (a0:(List cI)):cf (dH k a0) fun y=>wP (dH.cx k) dH.code (.pair (.slice dG) .unit) (a0,()) Tryz.f44 (.one (.ow dG 43)) y:=by unfold dH; exact oR fun h1=>match a0,h1 with | [],h1=>oS (⟨[.fork [] [tT]],[.own 2 dG 43],via (show (True→(True∧(True∧some (dZ.row dG ([]:(List cI)) 43)=some (dZ.row dG ([]:(List cI)) 43))))∧((True∧kl 120 ([]:(List cI)))∧(True∧some (dZ.row dG ([]:(List cI)) 43)=some (dZ.row dG ([]:(List cI)) 43))) from ⟨fun _=>⟨aL,aL,rfl⟩,⟨aL,h1⟩,aL,rfl⟩) (by kernel_rfl)⟩) | a :: l,h1=>oS (⟨[fF,tT],[.own 2 dG 43],via (show ((True∧false=false)∧kl 120 (a :: l))∧(True∧some (dZ.row dG (a :: l:(List cI)) 43)=some (dZ.row dG (a :: l:(List cI)) 43)) from ⟨⟨⟨aL,rfl⟩,h1⟩,aL,rfl⟩) (by kernel_rfl)⟩)
theorem dH.ok (k:Nat):cW PR 44 (dH.sp k) := fK (dH.bh k) Tryz.func44 (by kernel_rfl) (fun x=>by kernel_rfl) fun x y hy=>(dH.dC k x.1).ap hy
def di.code:Code:=Func.cd Tryz.f95
def di (k:Nat) (a0:(List iA)):Option (List iA) := eB (kl 80 a0) <|some a0
def di.sp (k:Nat):Go.Sx.Spec:=⟨(.pair (.slice ij) .unit),(.one (.ow ij 45)),fun x=>di k x.1,false⟩
def di.cx (k:Nat):Go.Sx.Ctx:=⟨gi,[],eqs,8,0,[],false⟩
theorem di.bh (k:Nat):bV PR (di.cx k):=bD ck cg bN.nil c8.nil
theorem di.dC (k:Nat) (a0:(List iA)):cf (di k a0) fun y=>wP (di.cx k) di.code (.pair (.slice ij) .unit) (a0,()) Tryz.f95 (.one (.ow ij 45)) y:=by unfold di; exact oR fun h1=>match a0,h1 with | [],h1=>oS (⟨[.fork [] [tT]],[.own 2 ij 45],via (show (True→(True∧(True∧some (dZ.row ij ([]:(List iA)) 45)=some (dZ.row ij ([]:(List iA)) 45))))∧((True∧kl 80 ([]:(List iA)))∧(True∧some (dZ.row ij ([]:(List iA)) 45)=some (dZ.row ij ([]:(List iA)) 45))) from ⟨fun _=>⟨aL,aL,rfl⟩,⟨aL,h1⟩,aL,rfl⟩) (by kernel_rfl)⟩) | a :: l,h1=>oS (⟨[fF,tT],[.own 2 ij 45],via (show ((True∧false=false)∧kl 80 (a :: l))∧(True∧some (dZ.row ij (a :: l:(List iA)) 45)=some (dZ.row ij (a :: l:(List iA)) 45)) from ⟨⟨⟨aL,rfl⟩,h1⟩,aL,rfl⟩) (by kernel_rfl)⟩)
theorem di.ok (k:Nat):cW PR 95 (di.sp k) := fK (di.bh k) Tryz.func95 (by kernel_rfl) (fun x=>by kernel_rfl) fun x y hy=>(di.dC k x.1).ap hy
def cQ.code:Code:=Func.cd Tryz.f99
def cQ (k:Nat) (a0:(List aB)):Option (List aB) := eB (kl 16 a0) <|some a0
def cQ.sp (k:Nat):Go.Sx.Spec:=⟨(.pair dS .unit),(.one (.ow bJ 26)),fun x=>cQ k x.1,false⟩
def cQ.cx (k:Nat):Go.Sx.Ctx:=⟨gi,[],eqs,8,0,[],false⟩
theorem cQ.bh (k:Nat):bV PR (cQ.cx k):=bD ck cg bN.nil c8.nil
theorem cQ.dC (k:Nat) (a0:(List aB)):cf (cQ k a0) fun y=>wP (cQ.cx k) cQ.code (.pair dS .unit) (a0,()) Tryz.f99 (.one (.ow bJ 26)) y:=by unfold cQ; exact oR fun h1=>match a0,h1 with | [],h1=>oS (⟨[.fork [] [tT]],[.own 2 bJ 26],via (show (True→(True∧(True∧some (dZ.row bJ ([]:(List aB)) 26)=some (dZ.row bJ ([]:(List aB)) 26))))∧((True∧kl 16 ([]:(List aB)))∧(True∧some (dZ.row bJ ([]:(List aB)) 26)=some (dZ.row bJ ([]:(List aB)) 26))) from ⟨fun _=>⟨aL,aL,rfl⟩,⟨aL,h1⟩,aL,rfl⟩) (by kernel_rfl)⟩) | a :: l,h1=>oS (⟨[fF,tT],[.own 2 bJ 26],via (show ((True∧false=false)∧kl 16 (a :: l))∧(True∧some (dZ.row bJ (a :: l:(List aB)) 26)=some (dZ.row bJ (a :: l:(List aB)) 26)) from ⟨⟨⟨aL,rfl⟩,h1⟩,aL,rfl⟩) (by kernel_rfl)⟩)
theorem cQ.ok (k:Nat):cW PR 99 (cQ.sp k) := fK (cQ.bh k) Tryz.func99 (by kernel_rfl) (fun x=>by kernel_rfl) fun x y hy=>(cQ.dC k x.1).ap hy
def eW.code:Code:=Func.cd Tryz.f183
def eW (k:Nat) (a0 a1:aB):Option Int := some (aU .i64 (aN .i64 a0.1 a1.2.1) (aN .i64 a0.2.1 a1.1))
def eW.sp (k:Nat):Go.Sx.Spec:=⟨fG,(.one (.dp T2)),fun x=>eW k x.1 x.2.1,false⟩
def eW.cx (k:Nat):Go.Sx.Ctx:=⟨gi,[],eqs,16,0,[],false⟩
theorem eW.bh (k:Nat):bV PR (eW.cx k):=bD ck cg bN.nil c8.nil
theorem eW.dC (k:Nat) (a0 a1:aB):cf (eW k a0 a1) fun y=>∃ w c0,exec PR (eW.cx k) eW.code 0 (entry fG (a0,a1,())).st w (qE (eW.cx k) Tryz.f183 c0 (.one (.dp T2)) y):=by unfold eW; exact oS (⟨[],[],via (bO aL (.one (.dp T2)) ((aU .i64 (aN .i64 a0.1 a1.2.1) (aN .i64 a0.2.1 a1.1)):Int)) (by kernel_rfl)⟩)
theorem eW.ok (k:Nat):cW PR 183 (eW.sp k) := fK (eW.bh k) Tryz.func183 (by kernel_rfl) (fun x=>by kernel_rfl) fun x y hy=>(eW.dC k x.1 x.2.1).ap hy
end Go.Proofs.T1
