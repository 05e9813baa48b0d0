import Derived.Test.YteibepmkkplpeaaGreatG0
import Derived.Test.YteibepmkkplpeaaGreatG1
namespace Go.Proofs.T1
open Go Go.Sx Go.Proofs
set_option maxRecDepth 100000
set_option linter.unusedVariables false
noncomputable def bD.code:Code:=Func.cd Tryz.f136
def bD.c1 (k:Nat) (a0 a1:gL):Option (Bool) := aX (fy a0.1 a1.1) (some true) (aX (gI a0.1 a1.1) (some (fy a0.2.1 a1.2.1)) (some false))
def bD (k:Nat) (a0 a1:gL):Option Int := aX (Ty.od gw a0 a1) (some 0) (bO (bD.c1 k a0 a1) fun o4=>aX o4 (some (-1)) (some 1))
noncomputable def bD.sp (k:Nat):Go.Sx.Spec:=⟨(.pair gw (.pair gw .unit)),(.one (.dp T2)),fun x=>bD k x.1 x.2.1,false⟩
noncomputable def bD.cx (k:Nat):Go.Sx.Ctx:=⟨gh,[],eqs,29,0,[],false⟩
theorem bD.bB (k:Nat):cf PR (bD.cx k):=bN cB cC bW.nil de.nil
noncomputable def bD.bY (a0 a1:gL):SL:=⟨[(2,(pz 0 0 0)),(3,(pz 1 0 0))],[(0,.cells gw a0),(1,.cells gw a1)]⟩
noncomputable def bD.cJ (o:Bool):SL:=(fun v=>⟨[(9,(.val T4 v))],[]⟩) o
noncomputable def bD.gj (o:Bool):Ex:=(fun _=>.normal) o
noncomputable def bD.gk (o:Bool):Nat:=(fun _=>0) o
theorem bD.bo (k:Nat) (a0 a1:gL):cy (bD.c1 k a0 a1) fun o=>Triple PR (bD.cx k) (sub bD.code [1,0,0,1,1,0]) 2 (bD.bY a0 a1) (bD.gj o) (bD.gk o) (bD.cJ o):=by unfold bD.c1; exact oF (fun e2=>oS (tW (bD.bB k) hmix [tT,tT,tT,tT,tT,tT,tT,tT,tT,tT,tT,tT,tT,tT] [] [] (via (aT (aI (aI (aI (aI (aI (aI (aI (aI aM e2) e2) e2) e2) e2) e2) e2) e2) .normal [] (bD.cJ true)) (by kernel_rfl)))) (fun e2=>oF (fun e3=>oS (tW (bD.bB k) hmix [fF,fF,fF,fF,fF,fF,tT,tT,tT,tT,tT,fF,tT,fF] [] [] (via (aT (aI (aI (aI (aI (aI (aI (aI (aI (aI (aI (aI (aI (aI aM e2) e2) e2) e2) e2) e2) e3) e3) e3) e3) e3) (aI e2 e3)) e2) .normal [] (bD.cJ (fy a0.2.1 a1.2.1))) (by kernel_rfl)))) (fun e3=>oS (tW (bD.bB k) hmix [fF,fF,fF,fF,fF,fF,fF,fF,fF,fF,fF,fF,fF,fF] [] [] (via (aT (aI (aI (aI (aI (aI (aI (aI (aI (aI (aI (aI (aI (aI aM e2) e2) e2) e2) e2) e2) e3) e3) e3) e3) e3) (aI e2 e3)) e2) .normal [] (bD.cJ false)) (by kernel_rfl)))))
theorem bD.dJ (k:Nat) (a0 a1:gL):cy (bD k a0 a1) fun y=>wP (bD.cx k) bD.code (.pair gw (.pair gw .unit)) (a0,a1,()) Tryz.f136 (.one (.dp T2)) y:=by unfold bD; exact oF (fun e1=>oS (⟨[tT],[],via (ck (aI aM e1) (.one (.dp T2)) ((0:Int):Int)) (by kernel_rfl)⟩)) (fun e1=>oB fun o4 e5=>oF (fun e6=>oS (⟨[fF,.cutR 3 ⟨[],[(0,0),(1,1)],(bD.bY a0 a1),2,.normal,(bD.cJ o4),0⟩,tT],[],via (bH (aI aM e1) [(0,0),(1,1)] (bD.bY a0 a1) (((bD.bo k a0 a1).ap e5)) (ck (aI aM e6) (.one (.dp T2)) ((-1:Int):Int))) (by kernel_rfl)⟩)) (fun e6=>oS (⟨[fF,.cutR 3 ⟨[],[(0,0),(1,1)],(bD.bY a0 a1),2,.normal,(bD.cJ o4),0⟩,fF],[],via (bH (aI aM e1) [(0,0),(1,1)] (bD.bY a0 a1) (((bD.bo k a0 a1).ap e5)) (ck (aI aM e6) (.one (.dp T2)) ((1:Int):Int))) (by kernel_rfl)⟩)))
theorem bD.ok (k:Nat):dh PR 136 (bD.sp k) := fK (bD.bB k) Tryz.func136 (by kernel_rfl) (fun x=>by kernel_rfl) fun x y hy=>(bD.dJ k x.1 x.2.1).ap hy
noncomputable def bk.code:Code:=Func.cd Tryz.f79
def bk.c1 (k:Nat) (a0:(List aV)) (a1:aV):Nat→Int→Int→Option (Int) | 0,_,_=>none | n+1,v4,v5=>aX (fy v5 (len a0)) (ek (fS v5 a0) <|bO (fu k (el dT a0 v5) a1) fun y8=>ek (fS v4 a0) <|bO (fu k (el dT a0 v4) a1) fun y11=>bO (bD k y8 y11) fun y13=>aX (iJ y13 0) (bk.c1 k a0 a1 n v5 (aG .i64 v5 1)) (bk.c1 k a0 a1 n v4 (aG .i64 v5 1))) (some v4)
def bk (k:Nat) (a0:(List aV)) (a1:aV):Option Int := bO (aF k a0) fun y1=>aX (jD y1 0) (some (-1)) (bO (bk.c1 k a0 a1 k 0 0) fun o16=>some o16)
noncomputable def bk.sp (k:Nat):Go.Sx.Spec:=⟨(.pair fM (.pair cq .unit)),(.one (.dp T2)),fun x=>bk k x.1 x.2.1,false⟩
noncomputable def bk.cx (k:Nat):Go.Sx.Ctx:=⟨gh,[(64,aF.sp k),(150,fu.sp k),(136,bD.sp k)],eqs,32,0,[],false⟩
theorem bk.bB (k:Nat):cf PR (bk.cx k):=bN cB cC (fC (aF.ok k) (fC (fu.ok k) (fC (bD.ok k) bW.nil))) de.nil
noncomputable def bk.bY (a0:(List aV)) (a1:aV) (v4 v5:Int):SL:=⟨[(0,(.val fM a0)),(3,(pz 0 0 0)),(5,(.val T2 v4)),(11,(.val fM a0)),(12,(.val T2 (len a0))),(13,(.val T2 v5))],[(0,.cells cq a1)]⟩
noncomputable def bk.cJ (o:Int):SL:=(fun v=>⟨[(5,(.val T2 v))],[]⟩) o
noncomputable def bk.gj (o:Int):Ex:=(fun _=>(.exit 0)) o
noncomputable def bk.gk (o:Int):Nat:=(fun _=>0) o
theorem bk.bo (k:Nat) (a0:(List aV)) (a1:aV):∀ (n:Nat) (v4 v5:Int),cy (bk.c1 k a0 a1 n v4 v5) fun o=>cE PR (bk.cx k) (sub bk.code [1,1,1,0,1,0,0]) 1 (bk.bY a0 a1 v4 v5) (bk.gj o) (bk.gk o) (bk.cJ o) | 0,_,_=>fun _ h=>nomatch h | n+1,v4,v5=>cy.of (bk.c1.eq_2 ..) (oF (fun e6=>oR fun h7=>oB fun y8 e9=>oR fun h10=>oB fun y11 e12=>oB fun y13 e14=>oF (fun e15=>fun y hy=>bI (bk.bB k) hmix 1 (bk.bY a0 a1 v5 (aG .i64 v5 1)) [tT,rS gw y8,rS gw y11,rS T2 y13,tT] [] [(0,0)] (via (aT (aI (aI (aI (aI (aI (aI (aI aM e6) h7) e9) h10) e12) e14) e15) .normal [(0,0)] (bk.bY a0 a1 v5 (aG .i64 v5 1))) (by kernel_rfl)) ((bk.bo k a0 a1 n v5 (aG .i64 v5 1)).ap hy)) (fun e15=>fun y hy=>bI (bk.bB k) hmix 1 (bk.bY a0 a1 v4 (aG .i64 v5 1)) [tT,rS gw y8,rS gw y11,rS T2 y13,fF] [] [(0,0)] (via (aT (aI (aI (aI (aI (aI (aI (aI aM e6) h7) e9) h10) e12) e14) e15) .normal [(0,0)] (bk.bY a0 a1 v4 (aG .i64 v5 1))) (by kernel_rfl)) ((bk.bo k a0 a1 n v4 (aG .i64 v5 1)).ap hy))) (fun e6=>oS (bt (bk.bB k) hmix [fF] [] [] (fV 0) (via (aT (aI aM e6) (.exit 0) [] (bk.cJ v4)) (by kernel_rfl)))))
theorem bk.dJ (k:Nat) (a0:(List aV)) (a1:aV):cy (bk k a0 a1) fun y=>wP (bk.cx k) bk.code (.pair fM (.pair cq .unit)) (a0,a1,()) Tryz.f79 (.one (.dp T2)) y:=by unfold bk; exact oB fun y1 e2=>oF (fun e3=>oS (⟨[rS T2 y1,tT],[],via (ck (aI (aI aM e2) e3) (.one (.dp T2)) ((-1:Int):Int)) (by kernel_rfl)⟩)) (fun e3=>oB fun o16 e17=>oS (⟨[rS T2 y1,fF,.cut ⟨[],[(0,0)],(bk.bY a0 a1 (0:Int) (0:Int)),1,(.exit 0),(bk.cJ o16),0⟩],[],via (bH (aI (aI aM e2) e3) [(0,0)] (bk.bY a0 a1 (0:Int) (0:Int)) (((bk.bo k a0 a1 k (0:Int) (0:Int)).ap e17).triple) (ck aM (.one (.dp T2)) (o16:Int))) (by kernel_rfl)⟩))
theorem bk.ok (k:Nat):dh PR 79 (bk.sp k) := fK (bk.bB k) Tryz.func79 (by kernel_rfl) (fun x=>by kernel_rfl) fun x y hy=>(bk.dJ k x.1 x.2.1).ap hy
noncomputable def bC.code:Code:=Func.cd Tryz.f175
def bC.c1 (k:Nat) (a0:(List aV)) (a1:aV):Option (Bool) := bO (aF k a0) fun y1=>aX (jD y1 0) (some true) (bO (dV k a1) fun y4=>some (!y4))
def bC.c2 (k:Nat) (a0:(List aV)) (a1:aV):Nat→Int→Option (Unit ⊕ Unit) | 0,_=>none | n+1,v9=>aX (fy v9 (len a0)) (ek (fS v9 a0) <|ek (nz (len a0)) <|ek (fS (fw (aG .i64 v9 1) (len a0)) a0) <|bO (eE k (el dT a0 v9) (el dT a0 (fw (aG .i64 v9 1) (len a0))) a1) fun y14=>aX (fy y14 0) (some (.inl ())) (bC.c2 k a0 a1 n (aG .i64 v9 1))) (some (.inr ()))
def bC (k:Nat) (a0:(List aV)) (a1:aV):Option Bool := bO (bC.c1 k a0 a1) fun o6=>aX o6 (some false) (bO (bC.c2 k a0 a1 k 0) fun o17=>two o17 (fun y19=>some false) (fun y21=>some true))
noncomputable def bC.sp (k:Nat):Go.Sx.Spec:=⟨(.pair fM (.pair cq .unit)),(.one (.dp T4)),fun x=>bC k x.1 x.2.1,false⟩
noncomputable def bC.cx (k:Nat):Go.Sx.Ctx:=⟨gh,[(64,aF.sp k),(139,dV.sp k),(140,eE.sp k)],eqs,35,0,[],false⟩
theorem bC.bB (k:Nat):cf PR (bC.cx k):=bN cB cC (fC (aF.ok k) (fC (dV.ok k) (fC (eE.ok k) bW.nil))) de.nil
noncomputable def bC.bY (a0:(List aV)) (a1:aV):SL:=⟨[(0,(.val fM a0)),(3,(pz 0 0 0))],[(0,.cells cq a1)]⟩
noncomputable def bC.cJ (a0:(List aV)) (a1:aV) (o:Bool):SL:=(fun v=>⟨[(0,(.val fM a0)),(3,(pz 0 0 0)),(14,(.val T4 v))],[(0,.cells cq a1)]⟩) o
noncomputable def bC.gj (o:Bool):Ex:=(fun _=>.normal) o
noncomputable def bC.gk (o:Bool):Nat:=(fun _=>1) o
theorem bC.bo (k:Nat) (a0:(List aV)) (a1:aV):cy (bC.c1 k a0 a1) fun o=>Triple PR (bC.cx k) (sub bC.code [1,0,0]) 1 (bC.bY a0 a1) (bC.gj o) (bC.gk o) (bC.cJ a0 a1 o):=by unfold bC.c1; exact oB fun y1 e2=>oF (fun e3=>oS (tW (bC.bB k) hmix [rS T2 y1,tT,tT,tT,tT,tT] [] [(0,0)] (via (aT (aI (aI (aI (aI (aI aM e2) e3) e3) e3) e3) .normal [(0,0)] (bC.cJ a0 a1 true)) (by kernel_rfl)))) (fun e3=>oB fun y4 e5=>oS (tW (bC.bB k) hmix [rS T2 y1,fF,fF,rS T4 y4,fF,fF] [] [(0,0)] (via (aT (aI (aI (aI (aI (aI aM e2) e3) (aI e3 e5)) e3) e3) .normal [(0,0)] (bC.cJ a0 a1 (!y4))) (by kernel_rfl))))
noncomputable def bC.dS (a0:(List aV)) (a1:aV) (v9:Int):SL:=⟨[(0,(.val fM a0)),(3,(pz 0 0 0)),(15,(.val fM a0)),(16,(.val T2 (len a0))),(17,(.val T2 v9))],[(0,.cells cq a1)]⟩
noncomputable def bC.dY (o:Unit ⊕ Unit):SL:=(fun o=>two o (fun v=>⟨[(4,(.val T4 false))],[]⟩) (fun v=>⟨[],[]⟩)) o
noncomputable def bC.iy (o:Unit ⊕ Unit):Ex:=(fun o=>two o (fun _=>.ret) (fun _=>(.exit 0))) o
noncomputable def bC.iu (o:Unit ⊕ Unit):Nat:=(fun o=>two o (fun _=>0) (fun _=>0)) o
theorem bC.cH (k:Nat) (a0:(List aV)) (a1:aV):∀ (n:Nat) (v9:Int),cy (bC.c2 k a0 a1 n v9) fun o=>cE PR (bC.cx k) (sub bC.code [1,1,0,1,0,0]) 1 (bC.dS a0 a1 v9) (bC.iy o) (bC.iu o) (bC.dY o) | 0,_=>fun _ h=>nomatch h | n+1,v9=>cy.of (bC.c2.eq_2 ..) (oF (fun e10=>oR fun h11=>oR fun h12=>oR fun h13=>oB fun y14 e15=>oF (fun e16=>oS (bt (bC.bB k) hmix [tT,rS T2 y14,tT] [] [] fJ (via (aT (aI (aI (aI (aI (aI (aI aM e10) h11) h12) h13) e15) e16) .ret [] (bC.dY (.inl ()))) (by kernel_rfl)))) (fun e16=>fun y hy=>bI (bC.bB k) hmix 1 (bC.dS a0 a1 (aG .i64 v9 1)) [tT,rS T2 y14,fF] [] [(0,0)] (via (aT (aI (aI (aI (aI (aI (aI aM e10) h11) h12) h13) e15) e16) .normal [(0,0)] (bC.dS a0 a1 (aG .i64 v9 1))) (by kernel_rfl)) ((bC.cH k a0 a1 n (aG .i64 v9 1)).ap hy))) (fun e10=>oS (bt (bC.bB k) hmix [fF] [] [] (fV 0) (via (aT (aI aM e10) (.exit 0) [] (bC.dY (.inr ()))) (by kernel_rfl)))))
theorem bC.dJ (k:Nat) (a0:(List aV)) (a1:aV):cy (bC k a0 a1) fun y=>wP (bC.cx k) bC.code (.pair fM (.pair cq .unit)) (a0,a1,()) Tryz.f175 (.one (.dp T4)) y:=by unfold bC; exact oB fun o6 e7=>oF (fun e8=>oS (⟨[.cutR 1 ⟨[],[(0,0)],(bC.bY a0 a1),1,.normal,(bC.cJ a0 a1 o6),1⟩,tT],[],via (bH aM [(0,0)] (bC.bY a0 a1) (((bC.bo k a0 a1).ap e7)) (ck (aI aM e8) (.one (.dp T4)) (false:Bool))) (by kernel_rfl)⟩)) (fun e8=>oB fun o17 e18=>cy.two (fun y19 e20=>oS (⟨[.cutR 1 ⟨[],[(0,0)],(bC.bY a0 a1),1,.normal,(bC.cJ a0 a1 o6),1⟩,fF,.cut ⟨[],[(0,0)],(bC.dS a0 a1 (0:Int)),1,.ret,(bC.dY (.inl ())),0⟩],[],via (bH aM [(0,0)] (bC.bY a0 a1) (((bC.bo k a0 a1).ap e7)) (bH (aI aM e8) [(0,0)] (bC.dS a0 a1 (0:Int)) (((bC.cH k a0 a1 k (0:Int)).ap (e18.trans (congrArg some e20))).triple) (ck aM (.one (.dp T4)) (false:Bool)))) (by kernel_rfl)⟩)) (fun y21 e22=>oS (⟨[.cutR 1 ⟨[],[(0,0)],(bC.bY a0 a1),1,.normal,(bC.cJ a0 a1 o6),1⟩,fF,.cut ⟨[],[(0,0)],(bC.dS a0 a1 (0:Int)),1,(.exit 0),(bC.dY (.inr ())),0⟩],[],via (bH aM [(0,0)] (bC.bY a0 a1) (((bC.bo k a0 a1).ap e7)) (bH (aI aM e8) [(0,0)] (bC.dS a0 a1 (0:Int)) (((bC.cH k a0 a1 k (0:Int)).ap (e18.trans (congrArg some e22))).triple) (ck aM (.one (.dp T4)) (true:Bool)))) (by kernel_rfl)⟩)))
theorem bC.ok (k:Nat):dh PR 175 (bC.sp k) := fK (bC.bB k) Tryz.func175 (by kernel_rfl) (fun x=>by kernel_rfl) fun x y hy=>(bC.dJ k x.1 x.2.1).ap hy
noncomputable def cT.code:Code:=Func.cd Tryz.f125
def cT (k:Nat) (a0:Int):Option Int := some (fH (imax a0 (-1099511627776)) 1099511627776)
noncomputable def cT.sp (k:Nat):Go.Sx.Spec:=⟨(.pair T2 .unit),(.one (.dp T2)),fun x=>cT k x.1,false⟩
noncomputable def cT.cx (k:Nat):Go.Sx.Ctx:=⟨gh,[],eqs,6,0,[],false⟩
theorem cT.bB (k:Nat):cf PR (cT.cx k):=bN cB cC bW.nil de.nil
theorem cT.dJ (k:Nat) (a0:Int):cy (cT k a0) fun y=>wP (cT.cx k) cT.code (.pair T2 .unit) (a0,()) Tryz.f125 (.one (.dp T2)) y:=by unfold cT; exact oS (⟨[],[],via (ck aM (.one (.dp T2)) ((fH (imax a0 (-1099511627776:Int)) (1099511627776:Int)):Int)) (by kernel_rfl)⟩)
theorem cT.ok (k:Nat):dh PR 125 (cT.sp k) := fK (cT.bB k) Tryz.func125 (by kernel_rfl) (fun x=>by kernel_rfl) fun x y hy=>(cT.dJ k x.1).ap hy
noncomputable def gm.code:Code:=Func.cd Tryz.f172
def gm (k:Nat) (a0:Int):Option Int := aX (fy a0 0) (some (cR .u64 (dU .i64 a0))) (some (cR .u64 a0))
noncomputable def gm.sp (k:Nat):Go.Sx.Spec:=⟨(.pair T2 .unit),(.one (.dp dC)),fun x=>gm k x.1,false⟩
noncomputable def gm.cx (k:Nat):Go.Sx.Ctx:=⟨gh,[],eqs,10,0,[],false⟩
theorem gm.bB (k:Nat):cf PR (gm.cx k):=bN cB cC bW.nil de.nil
theorem gm.dJ (k:Nat) (a0:Int):cy (gm k a0) fun y=>wP (gm.cx k) gm.code (.pair T2 .unit) (a0,()) Tryz.f172 (.one (.dp dC)) y:=by unfold gm; exact oF (fun e1=>oS (⟨[tT],[],via (ck (aI aM e1) (.one (.dp dC)) ((cR .u64 (dU .i64 a0)):Int)) (by kernel_rfl)⟩)) (fun e1=>oS (⟨[fF],[],via (ck (aI aM e1) (.one (.dp dC)) ((cR .u64 a0):Int)) (by kernel_rfl)⟩))
theorem gm.ok (k:Nat):dh PR 172 (gm.sp k) := fK (gm.bB k) Tryz.func172 (by kernel_rfl) (fun x=>by kernel_rfl) fun x y hy=>(gm.dJ k x.1).ap hy
noncomputable def ax.code:Code:=Func.cd Tryz.f114
def ax.c1 (k:Nat) (y1 y3:Int):Option (Bool) := aX (fy y3 0) (some (!(fy y1 0))) (some (fy y1 0))
def ax.c2 (k:Nat) (o9:Bool) (y5:Int):Option (Bool) := aX (fy y5 0) (some (!o9)) (some o9)
def ax.c3 (k:Nat) (y24:(Int × Int)):Option ((Int × Int)) := aX (iJ y24.1 1099511627776) (some (1099511627777,0)) (some (y24.1,y24.2))
def ax.c4 (k:Nat) (o27:(Int × Int)) (y14:Int):Option (Int) := aX (iJ o27.2 (bQ .u64 y14 o27.2)) (some (aG .i64 (cR .i64 o27.1) 1)) (some (cR .i64 o27.1))
def ax.c5 (k:Nat) (o27:(Int × Int)) (y14:Int):Option (Int) := aX (iC o27.2 (bQ .u64 y14 o27.2)) (some (aG .i64 (cR .i64 o27.1) 1)) (some (cR .i64 o27.1))
def ax (k:Nat) (a0 a1 a2:Int):Option Int := bO (cT k a0) fun y1=>bO (cT k a1) fun y3=>bO (cT k a2) fun y5=>aX (gI y5 0) (some 0) (bO (ax.c1 k y1 y3) fun o9=>bO (ax.c2 k o9 y5) fun o12=>bO (gm k y5) fun y14=>bO (gm k y1) fun y16=>bO (gm k y3) fun y18=>bO (cY k y16 y18) fun y20=>aX (iC y20.1 y14) (aX o12 (some (-1099511627776)) (some 1099511627776)) (bO (aB k y20.1 y20.2 y14) fun y24=>bO (ax.c3 k y24) fun o27=>aX o12 (bO (ax.c4 k o27 y14) fun o31=>bO (cT k (dU .i64 o31)) fun y33=>some y33) (bO (ax.c5 k o27 y14) fun o36=>bO (cT k o36) fun y38=>some y38)))
noncomputable def ax.sp (k:Nat):Go.Sx.Spec:=⟨(.pair T2 cq),(.one (.dp T2)),fun x=>ax k x.1 x.2.1 x.2.2.1,false⟩
noncomputable def ax.cx (k:Nat):Go.Sx.Ctx:=⟨gh,[(125,cT.sp k),(172,gm.sp k),(145,cY.sp k),(147,aB.sp k)],eqs,78,0,[],false⟩
theorem ax.bB (k:Nat):cf PR (ax.cx k):=bN cB cC (fC (cT.ok k) (fC (gm.ok k) (fC (cY.ok k) (fC (aB.ok k) bW.nil)))) de.nil
noncomputable def ax.bY (y1 y3 y5:Int):SL:=⟨[(0,(.val T2 y1)),(1,(.val T2 y3)),(2,(.val T2 y5)),(7,(.val T4 (fy y1 0))),(25,(.val T4 (fy y3 0)))],[]⟩
noncomputable def ax.cJ (y1 y3 y5:Int) (o:Bool):SL:=(fun v=>⟨[(0,(.val T2 y1)),(1,(.val T2 y3)),(2,(.val T2 y5)),(7,(.val T4 v))],[]⟩) o
noncomputable def ax.gj (o:Bool):Ex:=(fun _=>.normal) o
noncomputable def ax.gk (o:Bool):Nat:=(fun _=>0) o
theorem ax.bo (k:Nat) (y1 y3 y5:Int):cy (ax.c1 k y1 y3) fun o=>Triple PR (ax.cx k) (sub ax.code [1,1,1,1,0,1]) 0 (ax.bY y1 y3 y5) (ax.gj o) (ax.gk o) (ax.cJ y1 y3 y5 o):=by unfold ax.c1; exact oF (fun e8=>oS (tW (ax.bB k) hmix [tT] [] [] (via (aT (aI aM e8) .normal [] (ax.cJ y1 y3 y5 (!(fy y1 0)))) (by kernel_rfl)))) (fun e8=>oS (tW (ax.bB k) hmix [fF] [] [] (via (aT (aI aM e8) .normal [] (ax.cJ y1 y3 y5 (fy y1 0))) (by kernel_rfl))))
noncomputable def ax.dS (o9:Bool) (y1 y3 y5:Int):SL:=⟨[(0,(.val T2 y1)),(1,(.val T2 y3)),(2,(.val T2 y5)),(7,(.val T4 o9)),(29,(.val T4 (fy y5 0)))],[]⟩
noncomputable def ax.dY (y1 y3 y5:Int) (o:Bool):SL:=(fun v=>⟨[(0,(.val T2 y1)),(1,(.val T2 y3)),(2,(.val T2 y5)),(7,(.val T4 v))],[]⟩) o
noncomputable def ax.iy (o:Bool):Ex:=(fun _=>.normal) o
noncomputable def ax.iu (o:Bool):Nat:=(fun _=>0) o
theorem ax.cH (k:Nat) (o9:Bool) (y1 y3 y5:Int):cy (ax.c2 k o9 y5) fun o=>Triple PR (ax.cx k) (sub ax.code [1,1,1,1,1,0,1]) 0 (ax.dS o9 y1 y3 y5) (ax.iy o) (ax.iu o) (ax.dY y1 y3 y5 o):=by unfold ax.c2; exact oF (fun e11=>oS (tW (ax.bB k) hmix [tT] [] [] (via (aT (aI aM e11) .normal [] (ax.dY y1 y3 y5 (!o9))) (by kernel_rfl)))) (fun e11=>oS (tW (ax.bB k) hmix [fF] [] [] (via (aT (aI aM e11) .normal [] (ax.dY y1 y3 y5 o9)) (by kernel_rfl))))
noncomputable def ax.fZ (o12:Bool) (y14:Int) (y24:(Int × Int)):SL:=⟨[(7,(.val T4 o12)),(8,(.val dC y14)),(11,(.val dC y24.1)),(12,(.val dC y24.2)),(54,(.val T4 (iJ y24.1 1099511627776)))],[]⟩
noncomputable def ax.fW (o12:Bool) (y14:Int) (o:(Int × Int)):SL:=(fun v=>⟨[(7,(.val T4 o12)),(8,(.val dC y14)),(11,(.val dC v.1)),(12,(.val dC v.2))],[]⟩) o
noncomputable def ax.j7 (o:(Int × Int)):Ex:=(fun _=>.normal) o
noncomputable def ax.kf (o:(Int × Int)):Nat:=(fun _=>0) o
theorem ax.ez (k:Nat) (o12:Bool) (y14:Int) (y24:(Int × Int)):cy (ax.c3 k y24) fun o=>Triple PR (ax.cx k) (sub ax.code [1,1,1,1,1,1,1,1,1,1,0,1]) 0 (ax.fZ o12 y14 y24) (ax.j7 o) (ax.kf o) (ax.fW o12 y14 o):=by unfold ax.c3; exact oF (fun e26=>oS (tW (ax.bB k) hmix [tT] [] [] (via (aT (aI aM e26) .normal [] (ax.fW o12 y14 ((1099511627777:Int),(0:Int)))) (by kernel_rfl)))) (fun e26=>oS (tW (ax.bB k) hmix [fF] [] [] (via (aT (aI aM e26) .normal [] (ax.fW o12 y14 (y24.1,y24.2))) (by kernel_rfl))))
noncomputable def ax.gX (o27:(Int × Int)) (y14:Int):SL:=⟨[(13,(.val T2 (cR .i64 o27.1))),(72,(.val T4 (iJ o27.2 (bQ .u64 y14 o27.2))))],[]⟩
noncomputable def ax.gZ (o:Int):SL:=(fun v=>⟨[(13,(.val T2 v))],[]⟩) o
noncomputable def ax.pn (o:Int):Ex:=(fun _=>.normal) o
noncomputable def ax.pN (o:Int):Nat:=(fun _=>0) o
theorem ax.gi (k:Nat) (o27:(Int × Int)) (y14:Int):cy (ax.c4 k o27 y14) fun o=>Triple PR (ax.cx k) (sub ax.code [1,1,1,1,1,1,1,1,1,1,1,1,1,0,1]) 0 (ax.gX o27 y14) (ax.pn o) (ax.pN o) (ax.gZ o):=by unfold ax.c4; exact oF (fun e30=>oS (tW (ax.bB k) hmix [tT] [] [] (via (aT (aI aM e30) .normal [] (ax.gZ (aG .i64 (cR .i64 o27.1) 1))) (by kernel_rfl)))) (fun e30=>oS (tW (ax.bB k) hmix [fF] [] [] (via (aT (aI aM e30) .normal [] (ax.gZ (cR .i64 o27.1))) (by kernel_rfl))))
noncomputable def ax.j4 (o27:(Int × Int)) (y14:Int):SL:=⟨[(13,(.val T2 (cR .i64 o27.1))),(63,(.val T4 (iC o27.2 (bQ .u64 y14 o27.2))))],[]⟩
noncomputable def ax.gT (o:Int):SL:=(fun v=>⟨[(13,(.val T2 v))],[]⟩) o
noncomputable def ax.xj (o:Int):Ex:=(fun _=>.normal) o
noncomputable def ax.xH (o:Int):Nat:=(fun _=>0) o
theorem ax.iG (k:Nat) (o27:(Int × Int)) (y14:Int):cy (ax.c5 k o27 y14) fun o=>Triple PR (ax.cx k) (sub ax.code [1,1,1,1,1,1,1,1,1,1,1,1,0,1,0,0,1]) 0 (ax.j4 o27 y14) (ax.xj o) (ax.xH o) (ax.gT o):=by unfold ax.c5; exact oF (fun e35=>oS (tW (ax.bB k) hmix [tT] [] [] (via (aT (aI aM e35) .normal [] (ax.gT (aG .i64 (cR .i64 o27.1) 1))) (by kernel_rfl)))) (fun e35=>oS (tW (ax.bB k) hmix [fF] [] [] (via (aT (aI aM e35) .normal [] (ax.gT (cR .i64 o27.1))) (by kernel_rfl))))
theorem ax.dJ (k:Nat) (a0 a1 a2:Int):cy (ax k a0 a1 a2) fun y=>wP (ax.cx k) ax.code (.pair T2 cq) (a0,a1,a2,()) Tryz.f114 (.one (.dp T2)) y:=by unfold ax; exact oB fun y1 e2=>oB fun y3 e4=>oB fun y5 e6=>oF (fun e7=>oS (⟨[rS T2 y1,rS T2 y3,rS T2 y5,tT],[],via (ck (aI (aI (aI (aI aM e2) e4) e6) e7) (.one (.dp T2)) ((0:Int):Int)) (by kernel_rfl)⟩)) (fun e7=>oB fun o9 e10=>oB fun o12 e13=>oB fun y14 e15=>oB fun y16 e17=>oB fun y18 e19=>oB fun y20 e21=>oF (fun e22=>oF (fun e23=>oS (⟨[rS T2 y1,rS T2 y3,rS T2 y5,fF,.cut ⟨[],[],(ax.bY y1 y3 y5),0,.normal,(ax.cJ y1 y3 y5 o9),0⟩,.cut ⟨[],[],(ax.dS o9 y1 y3 y5),0,.normal,(ax.dY y1 y3 y5 o12),0⟩,rS dC y14,rS dC y16,rS dC y18,.res (.more (.dp dC) (.one (.dp dC))) y20,tT,tT],[],via (bH (aI (aI (aI (aI aM e2) e4) e6) e7) [] (ax.bY y1 y3 y5) (((ax.bo k y1 y3 y5).ap e10)) (bH aM [] (ax.dS o9 y1 y3 y5) (((ax.cH k o9 y1 y3 y5).ap e13)) (ck (aI (aI (aI (aI (aI (aI aM e15) e17) e19) e21) e22) e23) (.one (.dp T2)) ((-1099511627776:Int):Int)))) (by kernel_rfl)⟩)) (fun e23=>oS (⟨[rS T2 y1,rS T2 y3,rS T2 y5,fF,.cut ⟨[],[],(ax.bY y1 y3 y5),0,.normal,(ax.cJ y1 y3 y5 o9),0⟩,.cut ⟨[],[],(ax.dS o9 y1 y3 y5),0,.normal,(ax.dY y1 y3 y5 o12),0⟩,rS dC y14,rS dC y16,rS dC y18,.res (.more (.dp dC) (.one (.dp dC))) y20,tT,fF],[],via (bH (aI (aI (aI (aI aM e2) e4) e6) e7) [] (ax.bY y1 y3 y5) (((ax.bo k y1 y3 y5).ap e10)) (bH aM [] (ax.dS o9 y1 y3 y5) (((ax.cH k o9 y1 y3 y5).ap e13)) (ck (aI (aI (aI (aI (aI (aI aM e15) e17) e19) e21) e22) e23) (.one (.dp T2)) ((1099511627776:Int):Int)))) (by kernel_rfl)⟩))) (fun e22=>oB fun y24 e25=>oB fun o27 e28=>oF (fun e29=>oB fun o31 e32=>oB fun y33 e34=>oS (⟨[rS T2 y1,rS T2 y3,rS T2 y5,fF,.cut ⟨[],[],(ax.bY y1 y3 y5),0,.normal,(ax.cJ y1 y3 y5 o9),0⟩,.cut ⟨[],[],(ax.dS o9 y1 y3 y5),0,.normal,(ax.dY y1 y3 y5 o12),0⟩,rS dC y14,rS dC y16,rS dC y18,.res (.more (.dp dC) (.one (.dp dC))) y20,fF,.res (.more (.dp dC) (.one (.dp dC))) y24,.cut ⟨[],[],(ax.fZ o12 y14 y24),0,.normal,(ax.fW o12 y14 o27),0⟩,fF,.cut ⟨[],[],(ax.gX o27 y14),0,.normal,(ax.gZ o31),0⟩,rS T2 y33],[],via (bH (aI (aI (aI (aI aM e2) e4) e6) e7) [] (ax.bY y1 y3 y5) (((ax.bo k y1 y3 y5).ap e10)) (bH aM [] (ax.dS o9 y1 y3 y5) (((ax.cH k o9 y1 y3 y5).ap e13)) (bH (aI (aI (aI (aI (aI (aI aM e15) e17) e19) e21) e22) e25) [] (ax.fZ o12 y14 y24) (((ax.ez k o12 y14 y24).ap e28)) (bH (aI aM (cn e29)) [] (ax.gX o27 y14) (((ax.gi k o27 y14).ap e32)) (ck (aI aM e34) (.one (.dp T2)) (y33:Int)))))) (by kernel_rfl)⟩)) (fun e29=>oB fun o36 e37=>oB fun y38 e39=>oS (⟨[rS T2 y1,rS T2 y3,rS T2 y5,fF,.cut ⟨[],[],(ax.bY y1 y3 y5),0,.normal,(ax.cJ y1 y3 y5 o9),0⟩,.cut ⟨[],[],(ax.dS o9 y1 y3 y5),0,.normal,(ax.dY y1 y3 y5 o12),0⟩,rS dC y14,rS dC y16,rS dC y18,.res (.more (.dp dC) (.one (.dp dC))) y20,fF,.res (.more (.dp dC) (.one (.dp dC))) y24,.cut ⟨[],[],(ax.fZ o12 y14 y24),0,.normal,(ax.fW o12 y14 o27),0⟩,tT,.cut ⟨[],[],(ax.j4 o27 y14),0,.normal,(ax.gT o36),0⟩,rS T2 y38],[],via (bH (aI (aI (aI (aI aM e2) e4) e6) e7) [] (ax.bY y1 y3 y5) (((ax.bo k y1 y3 y5).ap e10)) (bH aM [] (ax.dS o9 y1 y3 y5) (((ax.cH k o9 y1 y3 y5).ap e13)) (bH (aI (aI (aI (aI (aI (aI aM e15) e17) e19) e21) e22) e25) [] (ax.fZ o12 y14 y24) (((ax.ez k o12 y14 y24).ap e28)) (bH (aI aM (cn e29)) [] (ax.j4 o27 y14) (((ax.iG k o27 y14).ap e37)) (ck (aI aM e39) (.one (.dp T2)) (y38:Int)))))) (by kernel_rfl)⟩))))
theorem ax.ok (k:Nat):dh PR 114 (ax.sp k) := fK (ax.bB k) Tryz.func114 (by kernel_rfl) (fun x=>by kernel_rfl) fun x y hy=>(ax.dJ k x.1 x.2.1 x.2.2.1).ap hy
noncomputable def dW.code:Code:=Func.cd Tryz.f51
def dW (k:Nat) (a0 a1:Int):Option Int := bO (ax k a0 a1 65536) fun y1=>some y1
noncomputable def dW.sp (k:Nat):Go.Sx.Spec:=⟨cq,(.one (.dp T2)),fun x=>dW k x.1 x.2.1,false⟩
noncomputable def dW.cx (k:Nat):Go.Sx.Ctx:=⟨gh,[(114,ax.sp k)],eqs,8,0,[],false⟩
theorem dW.bB (k:Nat):cf PR (dW.cx k):=bN cB cC (fC (ax.ok k) bW.nil) de.nil
theorem dW.dJ (k:Nat) (a0 a1:Int):cy (dW k a0 a1) fun y=>∃ w c0,exec PR (dW.cx k) dW.code 0 (entry cq (a0,a1,())).st w (qE (dW.cx k) Tryz.f51 c0 (.one (.dp T2)) y):=by unfold dW; exact oB fun y1 e2=>oS (⟨[rS T2 y1],[],via (ck (aI aM e2) (.one (.dp T2)) (y1:Int)) (by kernel_rfl)⟩)
theorem dW.ok (k:Nat):dh PR 51 (dW.sp k) := fK (dW.bB k) Tryz.func51 (by kernel_rfl) (fun x=>by kernel_rfl) fun x y hy=>(dW.dJ k x.1 x.2.1).ap hy
noncomputable def fU.code:Code:=Func.cd Tryz.f119
def fU (k:Nat) (a0 a1:Int):Option Int := bO (cT k a0) fun y1=>bO (cT k a1) fun y3=>bO (cT k (aG .i64 y1 y3)) fun y5=>some y5
noncomputable def fU.sp (k:Nat):Go.Sx.Spec:=⟨cq,(.one (.dp T2)),fun x=>fU k x.1 x.2.1,false⟩
noncomputable def fU.cx (k:Nat):Go.Sx.Ctx:=⟨gh,[(125,cT.sp k)],eqs,11,0,[],false⟩
theorem fU.bB (k:Nat):cf PR (fU.cx k):=bN cB cC (fC (cT.ok k) bW.nil) de.nil
theorem fU.dJ (k:Nat) (a0 a1:Int):cy (fU k a0 a1) fun y=>∃ w c0,exec PR (fU.cx k) fU.code 0 (entry cq (a0,a1,())).st w (qE (fU.cx k) Tryz.f119 c0 (.one (.dp T2)) y):=by unfold fU; exact oB fun y1 e2=>oB fun y3 e4=>oB fun y5 e6=>oS (⟨[rS T2 y1,rS T2 y3,rS T2 y5],[],via (ck (aI (aI (aI aM e2) e4) e6) (.one (.dp T2)) (y5:Int)) (by kernel_rfl)⟩)
theorem fU.ok (k:Nat):dh PR 119 (fU.sp k) := fK (fU.bB k) Tryz.func119 (by kernel_rfl) (fun x=>by kernel_rfl) fun x y hy=>(fU.dJ k x.1 x.2.1).ap hy
noncomputable def fT.code:Code:=Func.cd Tryz.f122
def fT (k:Nat) (a0 a1:Int):Option Int := bO (cT k a0) fun y1=>bO (cT k a1) fun y3=>bO (cT k (bQ .i64 y1 y3)) fun y5=>some y5
noncomputable def fT.sp (k:Nat):Go.Sx.Spec:=⟨cq,(.one (.dp T2)),fun x=>fT k x.1 x.2.1,false⟩
noncomputable def fT.cx (k:Nat):Go.Sx.Ctx:=⟨gh,[(125,cT.sp k)],eqs,11,0,[],false⟩
theorem fT.bB (k:Nat):cf PR (fT.cx k):=bN cB cC (fC (cT.ok k) bW.nil) de.nil
theorem fT.dJ (k:Nat) (a0 a1:Int):cy (fT k a0 a1) fun y=>∃ w c0,exec PR (fT.cx k) fT.code 0 (entry cq (a0,a1,())).st w (qE (fT.cx k) Tryz.f122 c0 (.one (.dp T2)) y):=by unfold fT; exact oB fun y1 e2=>oB fun y3 e4=>oB fun y5 e6=>oS (⟨[rS T2 y1,rS T2 y3,rS T2 y5],[],via (ck (aI (aI (aI aM e2) e4) e6) (.one (.dp T2)) (y5:Int)) (by kernel_rfl)⟩)
theorem fT.ok (k:Nat):dh PR 122 (fT.sp k) := fK (fT.bB k) Tryz.func122 (by kernel_rfl) (fun x=>by kernel_rfl) fun x y hy=>(fT.dJ k x.1 x.2.1).ap hy
noncomputable def bm.code:Code:=Func.cd Tryz.f178
def bm.c2 (k:Nat) (a0 a1:Int) (y4:(Int × Int)):Option (Bool) := aX (fy y4.1 a0) (some true) (aX (gI y4.1 a0) (some (jR y4.2 a1)) (some false))
def bm.c3 (k:Nat) (o8:Bool) (v1 v2:Int):Option (Int) := aX o8 (some (cN .or .u64 v1 v2)) (some v1)
def bm.c1 (k:Nat) (a0 a1:Int):Nat→Int→Int→Option (Int) | 0,_,_=>none | n+1,v1,v2=>aX (iJ v2 0) (bO (cY k (cN .or .u64 v1 v2) (cN .or .u64 v1 v2)) fun y4=>bO (bm.c2 k a0 a1 y4) fun o8=>bO (bm.c3 k o8 v1 v2) fun o11=>bm.c1 k a0 a1 n o11 (c8 .u64 v2 1)) (some v1)
def bm (k:Nat) (a0 a1:Int):Option Int := bO (bm.c1 k a0 a1 k 0 9223372036854775808) fun o13=>some o13
noncomputable def bm.sp (k:Nat):Go.Sx.Spec:=⟨(.pair dC (.pair dC .unit)),(.one (.dp dC)),fun x=>bm k x.1 x.2.1,false⟩
noncomputable def bm.cx (k:Nat):Go.Sx.Ctx:=⟨gh,[(145,cY.sp k)],eqs,38,0,[],false⟩
theorem bm.bB (k:Nat):cf PR (bm.cx k):=bN cB cC (fC (cY.ok k) bW.nil) de.nil
noncomputable def bm.dS (a0 a1 v1 v2:Int) (y4:(Int × Int)):SL:=⟨[(0,(.val dC a0)),(1,(.val dC a1)),(5,(.val dC v1)),(6,(.val dC v2)),(7,(.val dC (cN .or .u64 v1 v2))),(8,(.val dC y4.1)),(9,(.val dC y4.2))],[]⟩
noncomputable def bm.dY (a0 a1 v1 v2:Int) (o:Bool):SL:=(fun v=>⟨[(0,(.val dC a0)),(1,(.val dC a1)),(5,(.val dC v1)),(6,(.val dC v2)),(7,(.val dC (cN .or .u64 v1 v2))),(35,(.val T4 v))],[]⟩) o
noncomputable def bm.iy (o:Bool):Ex:=(fun _=>.normal) o
noncomputable def bm.iu (o:Bool):Nat:=(fun _=>0) o
theorem bm.cH (k:Nat) (a0 a1 v1 v2:Int) (y4:(Int × Int)):cy (bm.c2 k a0 a1 y4) fun o=>Triple PR (bm.cx k) (sub bm.code [1,1,0,1,0,0,1,0,0,1,1,0]) 0 (bm.dS a0 a1 v1 v2 y4) (bm.iy o) (bm.iu o) (bm.dY a0 a1 v1 v2 o):=by unfold bm.c2; exact oF (fun e6=>oS (tW (bm.bB k) hmix [tT,tT,tT,tT,tT,tT,tT,tT,tT,tT] [] [] (via (aT (aI (aI (aI (aI (aI (aI aM e6) e6) e6) e6) e6) e6) .normal [] (bm.dY a0 a1 v1 v2 true)) (by kernel_rfl)))) (fun e6=>oF (fun e7=>oS (tW (bm.bB k) hmix [fF,fF,fF,fF,tT,tT,tT,fF,tT,fF] [] [] (via (aT (aI (aI (aI (aI (aI (aI (aI (aI (aI aM e6) e6) e6) e6) e7) e7) e7) (aI e6 e7)) e6) .normal [] (bm.dY a0 a1 v1 v2 (jR y4.2 a1))) (by kernel_rfl)))) (fun e7=>oS (tW (bm.bB k) hmix [fF,fF,fF,fF,fF,fF,fF,fF,fF,fF] [] [] (via (aT (aI (aI (aI (aI (aI (aI (aI (aI (aI aM e6) e6) e6) e6) e7) e7) e7) (aI e6 e7)) e6) .normal [] (bm.dY a0 a1 v1 v2 false)) (by kernel_rfl)))))
noncomputable def bm.fZ (a0 a1:Int) (o8:Bool) (v1 v2:Int):SL:=⟨[(0,(.val dC a0)),(1,(.val dC a1)),(5,(.val dC v1)),(6,(.val dC v2)),(7,(.val dC (cN .or .u64 v1 v2))),(35,(.val T4 o8))],[]⟩
noncomputable def bm.fW (a0 a1 v2 o:Int):SL:=(fun v=>⟨[(0,(.val dC a0)),(1,(.val dC a1)),(5,(.val dC v)),(6,(.val dC v2))],[]⟩) o
noncomputable def bm.j7 (o:Int):Ex:=(fun _=>.normal) o
noncomputable def bm.kf (o:Int):Nat:=(fun _=>0) o
theorem bm.ez (k:Nat) (a0 a1:Int) (o8:Bool) (v1 v2:Int):cy (bm.c3 k o8 v1 v2) fun o=>Triple PR (bm.cx k) (sub bm.code [1,1,0,1,0,0,1,0,0,1,1,1]) 0 (bm.fZ a0 a1 o8 v1 v2) (bm.j7 o) (bm.kf o) (bm.fW a0 a1 v2 o):=by unfold bm.c3; exact oF (fun e10=>oS (tW (bm.bB k) hmix [tT] [] [] (via (aT (aI aM e10) .normal [] (bm.fW a0 a1 v2 (cN .or .u64 v1 v2))) (by kernel_rfl)))) (fun e10=>oS (tW (bm.bB k) hmix [fF] [] [] (via (aT (aI aM e10) .normal [] (bm.fW a0 a1 v2 v1)) (by kernel_rfl))))
noncomputable def bm.bY (a0 a1 v1 v2:Int):SL:=⟨[(0,(.val dC a0)),(1,(.val dC a1)),(5,(.val dC v1)),(6,(.val dC v2))],[]⟩
noncomputable def bm.cJ (o:Int):SL:=(fun v=>⟨[(5,(.val dC v))],[]⟩) o
noncomputable def bm.gj (o:Int):Ex:=(fun _=>(.exit 0)) o
noncomputable def bm.gk (o:Int):Nat:=(fun _=>0) o
theorem bm.bo (k:Nat) (a0 a1:Int):∀ (n:Nat) (v1 v2:Int),cy (bm.c1 k a0 a1 n v1 v2) fun o=>cE PR (bm.cx k) (sub bm.code [1,1,0,1,0,0]) 0 (bm.bY a0 a1 v1 v2) (bm.gj o) (bm.gk o) (bm.cJ o) | 0,_,_=>fun _ h=>nomatch h | n+1,v1,v2=>cy.of (bm.c1.eq_2 ..) (oF (fun e3=>oB fun y4 e5=>oB fun o8 e9=>oB fun o11 e12=>fun y hy=>bI (bm.bB k) hmix 0 (bm.bY a0 a1 o11 (c8 .u64 v2 1)) [tT,.res (.more (.dp dC) (.one (.dp dC))) y4,.cutR 7 ⟨[],[],(bm.dS a0 a1 v1 v2 y4),0,.normal,(bm.dY a0 a1 v1 v2 o8),0⟩,.cut ⟨[],[],(bm.fZ a0 a1 o8 v1 v2),0,.normal,(bm.fW a0 a1 v2 o11),0⟩] [] [] (via (bH (aI (aI aM e3) e5) [] (bm.dS a0 a1 v1 v2 y4) (((bm.cH k a0 a1 v1 v2 y4).ap e9)) (bH aM [] (bm.fZ a0 a1 o8 v1 v2) (((bm.ez k a0 a1 o8 v1 v2).ap e12)) (aT (aI aM (by decide:ng (1:Int))) .normal [] (bm.bY a0 a1 o11 (c8 .u64 v2 1))))) (by kernel_rfl)) ((bm.bo k a0 a1 n o11 (c8 .u64 v2 1)).ap hy)) (fun e3=>oS (bt (bm.bB k) hmix [fF] [] [] (fV 0) (via (aT (aI aM e3) (.exit 0) [] (bm.cJ v1)) (by kernel_rfl)))))
theorem bm.dJ (k:Nat) (a0 a1:Int):cy (bm k a0 a1) fun y=>wP (bm.cx k) bm.code (.pair dC (.pair dC .unit)) (a0,a1,()) Tryz.f178 (.one (.dp dC)) y:=by unfold bm; exact oB fun o13 e14=>oS (⟨[.cut ⟨[],[],(bm.bY a0 a1 (0:Int) (9223372036854775808:Int)),0,(.exit 0),(bm.cJ o13),0⟩],[],via (bH aM [] (bm.bY a0 a1 (0:Int) (9223372036854775808:Int)) (((bm.bo k a0 a1 k (0:Int) (9223372036854775808:Int)).ap e14).triple) (ck aM (.one (.dp dC)) (o13:Int))) (by kernel_rfl)⟩)
theorem bm.ok (k:Nat):dh PR 178 (bm.sp k) := fK (bm.bB k) Tryz.func178 (by kernel_rfl) (fun x=>by kernel_rfl) fun x y hy=>(bm.dJ k x.1 x.2.1).ap hy
noncomputable def fI.code:Code:=Func.cd Tryz.f55
def fI (k:Nat) (a0 a1:aV):Option aV := bO (fU k a0.1 a1.1) fun y1=>bO (fU k a0.2.1 a1.2.1) fun y3=>some (y1,y3,())
noncomputable def fI.sp (k:Nat):Go.Sx.Spec:=⟨fG,(.one (.dp cq)),fun x=>fI k x.1 x.2.1,false⟩
noncomputable def fI.cx (k:Nat):Go.Sx.Ctx:=⟨gh,[(119,fU.sp k)],eqs,16,0,[],false⟩
theorem fI.bB (k:Nat):cf PR (fI.cx k):=bN cB cC (fC (fU.ok k) bW.nil) de.nil
theorem fI.dJ (k:Nat) (a0 a1:aV):cy (fI k a0 a1) fun y=>∃ w c0,exec PR (fI.cx k) fI.code 0 (entry fG (a0,a1,())).st w (qE (fI.cx k) Tryz.f55 c0 (.one (.dp cq)) y):=by unfold fI; exact oB fun y1 e2=>oB fun y3 e4=>oS (⟨[rS T2 y1,rS T2 y3],[],via (ck (aI (aI aM e2) e4) (.one (.dp cq)) ((y1,y3,()):aV)) (by kernel_rfl)⟩)
theorem fI.ok (k:Nat):dh PR 55 (fI.sp k) := fK (fI.bB k) Tryz.func55 (by kernel_rfl) (fun x=>by kernel_rfl) fun x y hy=>(fI.dJ k x.1 x.2.1).ap hy
noncomputable def fg.code:Code:=Func.cd Tryz.f198
def fg (k:Nat):Option (List Int) := some [0,1608,3216,4821,6424,8022,9616,11204,12785,14359,15924,17479,19024,20557,22078,23586,25080,26558,28020,29466,30893,32303,33692,35062,36410,37736,39040,40320,41576,42806,44011,45190,46341,47464,48559,49624,50660,51665,52639,53581,54491,55368,56212,57022,57798,58538,59244,59914,60547,61145,61705,62228,62714,63162,63572,63944,64277,64571,64827,65043,65220,65358,65457,65516,65536]
noncomputable def fg.sp (k:Nat):Go.Sx.Spec:=⟨.unit,(.one (.dp (.arr 65 T2))),fun x=>fg k,false⟩
noncomputable def fg.cx (k:Nat):Go.Sx.Ctx:=⟨gh,[],eqs,2,0,[],false⟩
theorem fg.bB (k:Nat):cf PR (fg.cx k):=bN cB cC bW.nil de.nil
theorem fg.dJ (k:Nat):cy (fg k) fun y=>wP (fg.cx k) fg.code .unit () Tryz.f198 (.one (.dp (.arr 65 T2))) y:=by unfold fg; exact oS (⟨[],[],via (ck aM (.one (.dp (.arr 65 T2))) ([(0:Int),(1608:Int),(3216:Int),(4821:Int),(6424:Int),(8022:Int),(9616:Int),(11204:Int),(12785:Int),(14359:Int),(15924:Int),(17479:Int),(19024:Int),(20557:Int),(22078:Int),(23586:Int),(25080:Int),(26558:Int),(28020:Int),(29466:Int),(30893:Int),(32303:Int),(33692:Int),(35062:Int),(36410:Int),(37736:Int),(39040:Int),(40320:Int),(41576:Int),(42806:Int),(44011:Int),(45190:Int),(46341:Int),(47464:Int),(48559:Int),(49624:Int),(50660:Int),(51665:Int),(52639:Int),(53581:Int),(54491:Int),(55368:Int),(56212:Int),(57022:Int),(57798:Int),(58538:Int),(59244:Int),(59914:Int),(60547:Int),(61145:Int),(61705:Int),(62228:Int),(62714:Int),(63162:Int),(63572:Int),(63944:Int),(64277:Int),(64571:Int),(64827:Int),(65043:Int),(65220:Int),(65358:Int),(65457:Int),(65516:Int),(65536:Int)]:(List Int))) (by kernel_rfl)⟩)
theorem fg.ok (k:Nat):dh PR 198 (fg.sp k) := fK (fg.bB k) Tryz.func198 (by kernel_rfl) (fun x=>by kernel_rfl) fun x y hy=>(fg.dJ k).ap hy
noncomputable def dQ.code:Code:=Func.cd Tryz.f176
def dQ (k:Nat) (a0:Int):Option Int := bO (fg k) fun y1=>aX (gI (fw a0 256) 0) (ek (ia (eo .i64 a0 256) 65) <|some (el 0 y1 (eo .i64 a0 256))) (ek (ia (eo .i64 a0 256) 65) <|ek (ia (aG .i64 (eo .i64 a0 256) 1) 65) <|some (aG .i64 (el 0 y1 (eo .i64 a0 256)) (eo .i64 (aG .i64 (bh .i64 (bQ .i64 (el 0 y1 (aG .i64 (eo .i64 a0 256) 1)) (el 0 y1 (eo .i64 a0 256))) (fw a0 256)) 128) 256)))
noncomputable def dQ.sp (k:Nat):Go.Sx.Spec:=⟨(.pair T2 .unit),(.one (.dp T2)),fun x=>dQ k x.1,false⟩
noncomputable def dQ.cx (k:Nat):Go.Sx.Ctx:=⟨gh,[(198,fg.sp k)],eqs,32,0,[],false⟩
theorem dQ.bB (k:Nat):cf PR (dQ.cx k):=bN cB cC (fC (fg.ok k) bW.nil) de.nil
theorem dQ.dJ (k:Nat) (a0:Int):cy (dQ k a0) fun y=>wP (dQ.cx k) dQ.code (.pair T2 .unit) (a0,()) Tryz.f176 (.one (.dp T2)) y:=by unfold dQ; exact oB fun y1 e2=>oF (fun e3=>oR fun h4=>oS (⟨[.res (.one (.dp (.arr 65 T2))) y1,tT],[],via (ck (aI (aI (aI (aI (aI (aI aM e2) (by decide:nz (256:Int))) (by decide:nz (256:Int))) e3) h4) h4) (.one (.dp T2)) ((el (0:Int) y1 (eo .i64 a0 256)):Int)) (by kernel_rfl)⟩)) (fun e3=>oR fun h5=>oR fun h6=>oS (⟨[.res (.one (.dp (.arr 65 T2))) y1,fF],[],via (ck (aI (aI (aI (aI (aI (aI (aI (aI (aI (aI (aI aM e2) (by decide:nz (256:Int))) (by decide:nz (256:Int))) e3) h5) h5) h6) h6) h5) h5) (by decide:nz (256:Int))) (.one (.dp T2)) ((aG .i64 (el (0:Int) y1 (eo .i64 a0 256)) (eo .i64 (aG .i64 (bh .i64 (bQ .i64 (el (0:Int) y1 (aG .i64 (eo .i64 a0 256) 1)) (el (0:Int) y1 (eo .i64 a0 256))) (fw a0 256)) 128) 256)):Int)) (by kernel_rfl)⟩))
theorem dQ.ok (k:Nat):dh PR 176 (dQ.sp k) := fK (dQ.bB k) Tryz.func176 (by kernel_rfl) (fun x=>by kernel_rfl) fun x y hy=>(dQ.dJ k x.1).ap hy
noncomputable def fk.code:Code:=Func.cd Tryz.f121
def fk (k:Nat) (a0:Int):Option Int := aX (gI (eo .i64 (cN .and .i64 a0 65535) 16384) 0) (bO (dQ k (fw (cN .and .i64 a0 65535) 16384)) fun y2=>some y2) (aX (gI (eo .i64 (cN .and .i64 a0 65535) 16384) 1) (bO (dQ k (bQ .i64 16384 (fw (cN .and .i64 a0 65535) 16384))) fun y5=>some y5) (aX (gI (eo .i64 (cN .and .i64 a0 65535) 16384) 2) (bO (dQ k (fw (cN .and .i64 a0 65535) 16384)) fun y8=>some (dU .i64 y8)) (bO (dQ k (bQ .i64 16384 (fw (cN .and .i64 a0 65535) 16384))) fun y10=>some (dU .i64 y10))))
noncomputable def fk.sp (k:Nat):Go.Sx.Spec:=⟨(.pair T2 .unit),(.one (.dp T2)),fun x=>fk k x.1,false⟩
noncomputable def fk.cx (k:Nat):Go.Sx.Ctx:=⟨gh,[(176,dQ.sp k)],eqs,28,0,[],false⟩
theorem fk.bB (k:Nat):cf PR (fk.cx k):=bN cB cC (fC (dQ.ok k) bW.nil) de.nil
theorem fk.dJ (k:Nat) (a0:Int):cy (fk k a0) fun y=>wP (fk.cx k) fk.code (.pair T2 .unit) (a0,()) Tryz.f121 (.one (.dp T2)) y:=by unfold fk; exact oF (fun e1=>oB fun y2 e3=>oS (⟨[tT,rS T2 y2],[],via (ck (aI (aI (aI (aI aM (by decide:nz (16384:Int))) (by decide:nz (16384:Int))) e1) e3) (.one (.dp T2)) (y2:Int)) (by kernel_rfl)⟩)) (fun e1=>oF (fun e4=>oB fun y5 e6=>oS (⟨[fF,tT,rS T2 y5],[],via (ck (aI (aI (aI (aI (aI aM (by decide:nz (16384:Int))) (by decide:nz (16384:Int))) e1) e4) e6) (.one (.dp T2)) (y5:Int)) (by kernel_rfl)⟩)) (fun e4=>oF (fun e7=>oB fun y8 e9=>oS (⟨[fF,fF,tT,rS T2 y8],[],via (ck (aI (aI (aI (aI (aI (aI aM (by decide:nz (16384:Int))) (by decide:nz (16384:Int))) e1) e4) e7) e9) (.one (.dp T2)) ((dU .i64 y8):Int)) (by kernel_rfl)⟩)) (fun e7=>oB fun y10 e11=>oS (⟨[fF,fF,fF,rS T2 y10],[],via (ck (aI (aI (aI (aI (aI (aI aM (by decide:nz (16384:Int))) (by decide:nz (16384:Int))) e1) e4) e7) e11) (.one (.dp T2)) ((dU .i64 y10):Int)) (by kernel_rfl)⟩))))
theorem fk.ok (k:Nat):dh PR 121 (fk.sp k) := fK (fk.bB k) Tryz.func121 (by kernel_rfl) (fun x=>by kernel_rfl) fun x y hy=>(fk.dJ k x.1).ap hy
noncomputable def fL.code:Code:=Func.cd Tryz.f120
def fL (k:Nat) (a0:Int):Option Int := bO (fk k (aG .i64 (cN .and .i64 a0 65535) 16384)) fun y1=>some y1
noncomputable def fL.sp (k:Nat):Go.Sx.Spec:=⟨(.pair T2 .unit),(.one (.dp T2)),fun x=>fL k x.1,false⟩
noncomputable def fL.cx (k:Nat):Go.Sx.Ctx:=⟨gh,[(121,fk.sp k)],eqs,7,0,[],false⟩
theorem fL.bB (k:Nat):cf PR (fL.cx k):=bN cB cC (fC (fk.ok k) bW.nil) de.nil
theorem fL.dJ (k:Nat) (a0:Int):cy (fL k a0) fun y=>wP (fL.cx k) fL.code (.pair T2 .unit) (a0,()) Tryz.f120 (.one (.dp T2)) y:=by unfold fL; exact oB fun y1 e2=>oS (⟨[rS T2 y1],[],via (ck (aI aM e2) (.one (.dp T2)) (y1:Int)) (by kernel_rfl)⟩)
theorem fL.ok (k:Nat):dh PR 120 (fL.sp k) := fK (fL.bB k) Tryz.func120 (by kernel_rfl) (fun x=>by kernel_rfl) fun x y hy=>(fL.dJ k x.1).ap hy
noncomputable def fQ.code:Code:=Func.cd Tryz.f56
def fQ (k:Nat) (a0:aV) (a1:Int):Option aV := bO (fL k a1) fun y1=>bO (fk k a1) fun y3=>bO (dW k a0.1 y1) fun y5=>bO (dW k a0.2.1 y3) fun y7=>bO (fT k y5 y7) fun y9=>bO (dW k a0.1 y3) fun y11=>bO (dW k a0.2.1 y1) fun y13=>bO (fU k y11 y13) fun y15=>some (y9,y15,())
noncomputable def fQ.sp (k:Nat):Go.Sx.Spec:=⟨(.pair cq (.pair T2 .unit)),(.one (.dp cq)),fun x=>fQ k x.1 x.2.1,false⟩
noncomputable def fQ.cx (k:Nat):Go.Sx.Ctx:=⟨gh,[(120,fL.sp k),(121,fk.sp k),(51,dW.sp k),(122,fT.sp k),(119,fU.sp k)],eqs,30,0,[],false⟩
theorem fQ.bB (k:Nat):cf PR (fQ.cx k):=bN cB cC (fC (fL.ok k) (fC (fk.ok k) (fC (dW.ok k) (fC (fT.ok k) (fC (fU.ok k) bW.nil))))) de.nil
theorem fQ.dJ (k:Nat) (a0:aV) (a1:Int):cy (fQ k a0 a1) fun y=>wP (fQ.cx k) fQ.code (.pair cq (.pair T2 .unit)) (a0,a1,()) Tryz.f56 (.one (.dp cq)) y:=by unfold fQ; exact oB fun y1 e2=>oB fun y3 e4=>oB fun y5 e6=>oB fun y7 e8=>oB fun y9 e10=>oB fun y11 e12=>oB fun y13 e14=>oB fun y15 e16=>oS (⟨[rS T2 y1,rS T2 y3,rS T2 y5,rS T2 y7,rS T2 y9,rS T2 y11,rS T2 y13,rS T2 y15],[],via (ck (aI (aI (aI (aI (aI (aI (aI (aI aM e2) e4) e6) e8) e10) e12) e14) e16) (.one (.dp cq)) ((y9,y15,()):aV)) (by kernel_rfl)⟩)
theorem fQ.ok (k:Nat):dh PR 56 (fQ.sp k) := fK (fQ.bB k) Tryz.func56 (by kernel_rfl) (fun x=>by kernel_rfl) fun x y hy=>(fQ.dJ k x.1 x.2.1).ap hy
noncomputable def fE.code:Code:=Func.cd Tryz.f126
def fE (k:Nat) (a0:Int):Option Int := some (cR .u64 (imax a0 (dU .i64 a0)))
noncomputable def fE.sp (k:Nat):Go.Sx.Spec:=⟨(.pair T2 .unit),(.one (.dp dC)),fun x=>fE k x.1,false⟩
noncomputable def fE.cx (k:Nat):Go.Sx.Ctx:=⟨gh,[],eqs,8,0,[],false⟩
theorem fE.bB (k:Nat):cf PR (fE.cx k):=bN cB cC bW.nil de.nil
theorem fE.dJ (k:Nat) (a0:Int):cy (fE k a0) fun y=>wP (fE.cx k) fE.code (.pair T2 .unit) (a0,()) Tryz.f126 (.one (.dp dC)) y:=by unfold fE; exact oS (⟨[],[],via (ck aM (.one (.dp dC)) ((cR .u64 (imax a0 (dU .i64 a0))):Int)) (by kernel_rfl)⟩)
theorem fE.ok (k:Nat):dh PR 126 (fE.sp k) := fK (fE.bB k) Tryz.func126 (by kernel_rfl) (fun x=>by kernel_rfl) fun x y hy=>(fE.dJ k x.1).ap hy
noncomputable def ef.code:Code:=Func.cd Tryz.f127
def ef (k:Nat) (a0 a1:Int):Option Int := bO (fE k a0) fun y1=>bO (fE k a0) fun y3=>bO (cY k y1 y3) fun y5=>bO (fE k a1) fun y7=>bO (fE k a1) fun y9=>bO (cY k y7 y9) fun y11=>bO (bits_Add64 k y5.2 y11.2 0) fun y13=>bO (bits_Add64 k y5.1 y11.1 y13.2) fun y15=>bO (bm k y15.1 y13.1) fun y17=>some (cR .i64 y17)
noncomputable def ef.sp (k:Nat):Go.Sx.Spec:=⟨cq,(.one (.dp T2)),fun x=>ef k x.1 x.2.1,false⟩
noncomputable def ef.cx (k:Nat):Go.Sx.Ctx:=⟨gh,[(126,fE.sp k),(145,cY.sp k),(177,bits_Add64.sp k),(178,bm.sp k)],eqs,46,0,[],false⟩
theorem ef.bB (k:Nat):cf PR (ef.cx k):=bN cB cC (fC (fE.ok k) (fC (cY.ok k) (fC (bits_Add64.ok k) (fC (bm.ok k) bW.nil)))) de.nil
theorem ef.dJ (k:Nat) (a0 a1:Int):cy (ef k a0 a1) fun y=>∃ w c0,exec PR (ef.cx k) ef.code 0 (entry cq (a0,a1,())).st w (qE (ef.cx k) Tryz.f127 c0 (.one (.dp T2)) y):=by unfold ef; exact oB fun y1 e2=>oB fun y3 e4=>oB fun y5 e6=>oB fun y7 e8=>oB fun y9 e10=>oB fun y11 e12=>oB fun y13 e14=>oB fun y15 e16=>oB fun y17 e18=>oS (⟨[rS dC y1,rS dC y3,.res (.more (.dp dC) (.one (.dp dC))) y5,rS dC y7,rS dC y9,.res (.more (.dp dC) (.one (.dp dC))) y11,.res (.more (.dp dC) (.one (.dp dC))) y13,.res (.more (.dp dC) (.one (.dp dC))) y15,rS dC y17],[],via (ck (aI (aI (aI (aI (aI (aI (aI (aI (aI aM e2) e4) e6) e8) e10) e12) e14) e16) e18) (.one (.dp T2)) ((cR .i64 y17):Int)) (by kernel_rfl)⟩)
theorem ef.ok (k:Nat):dh PR 127 (ef.sp k) := fK (ef.bB k) Tryz.func127 (by kernel_rfl) (fun x=>by kernel_rfl) fun x y hy=>(ef.dJ k x.1 x.2.1).ap hy
noncomputable def bR.code:Code:=Func.cd Tryz.f128
def bR.c1 (k:Nat) (a0 a1:Int):Option (Bool) := aX (fy (aG .i64 (bh .i64 (bh .i64 2 a0) 65536) a1) 0) (ek (nz (bh .i64 2 a1)) <|some (jD (fw (aG .i64 (bh .i64 (bh .i64 2 a0) 65536) a1) (bh .i64 2 a1)) 0)) (some false)
def bR (k:Nat) (a0 a1:Int):Option Int := ek (nz (bh .i64 2 a1)) <|bO (bR.c1 k a0 a1) fun o4=>aX o4 (some (bQ .i64 (eo .i64 (aG .i64 (bh .i64 (bh .i64 2 a0) 65536) a1) (bh .i64 2 a1)) 1)) (some (eo .i64 (aG .i64 (bh .i64 (bh .i64 2 a0) 65536) a1) (bh .i64 2 a1)))
noncomputable def bR.sp (k:Nat):Go.Sx.Spec:=⟨cq,(.one (.dp T2)),fun x=>bR k x.1 x.2.1,false⟩
noncomputable def bR.cx (k:Nat):Go.Sx.Ctx:=⟨gh,[],eqs,28,0,[],false⟩
theorem bR.bB (k:Nat):cf PR (bR.cx k):=bN cB cC bW.nil de.nil
noncomputable def bR.bY (a0 a1:Int):SL:=⟨[(1,(.val T2 a1)),(5,(.val T2 (aG .i64 (bh .i64 (bh .i64 2 a0) 65536) a1))),(6,(.val T2 (eo .i64 (aG .i64 (bh .i64 (bh .i64 2 a0) 65536) a1) (bh .i64 2 a1))))],[]⟩
noncomputable def bR.cJ (a0 a1:Int) (o:Bool):SL:=(fun v=>⟨[(6,(.val T2 (eo .i64 (aG .i64 (bh .i64 (bh .i64 2 a0) 65536) a1) (bh .i64 2 a1)))),(24,(.val T4 v))],[]⟩) o
noncomputable def bR.gj (o:Bool):Ex:=(fun _=>.normal) o
noncomputable def bR.gk (o:Bool):Nat:=(fun _=>0) o
theorem bR.bo (k:Nat) (a0 a1:Int):cy (bR.c1 k a0 a1) fun o=>Triple PR (bR.cx k) (sub bR.code [1,1,1,0,0]) 0 (bR.bY a0 a1) (bR.gj o) (bR.gk o) (bR.cJ a0 a1 o):=by unfold bR.c1; exact oF (fun e2=>oR fun h3=>oS (tW (bR.bB k) hmix [tT,tT,tT,tT,tT,tT] [] [] (via (aT (aI (aI (aI (aI (aI (aI aM e2) e2) e2) (aI e2 h3)) e2) e2) .normal [] (bR.cJ a0 a1 (jD (fw (aG .i64 (bh .i64 (bh .i64 2 a0) 65536) a1) (bh .i64 2 a1)) 0))) (by kernel_rfl)))) (fun e2=>oS (tW (bR.bB k) hmix [fF,fF,fF,fF,fF,fF] [] [] (via (aT (aI (aI (aI (aI (aI (aI aM e2) e2) e2) e2) e2) e2) .normal [] (bR.cJ a0 a1 false)) (by kernel_rfl))))
theorem bR.dJ (k:Nat) (a0 a1:Int):cy (bR k a0 a1) fun y=>∃ w c0,exec PR (bR.cx k) bR.code 0 (entry cq (a0,a1,())).st w (qE (bR.cx k) Tryz.f128 c0 (.one (.dp T2)) y):=by unfold bR; exact oR fun h1=>oB fun o4 e5=>oF (fun e6=>oS (⟨[.cutR 3 ⟨[],[],(bR.bY a0 a1),0,.normal,(bR.cJ a0 a1 o4),0⟩,tT],[],via (bH (aI aM h1) [] (bR.bY a0 a1) (((bR.bo k a0 a1).ap e5)) (ck (aI aM e6) (.one (.dp T2)) ((bQ .i64 (eo .i64 (aG .i64 (bh .i64 (bh .i64 2 a0) 65536) a1) (bh .i64 2 a1)) 1):Int))) (by kernel_rfl)⟩)) (fun e6=>oS (⟨[.cutR 3 ⟨[],[],(bR.bY a0 a1),0,.normal,(bR.cJ a0 a1 o4),0⟩,fF],[],via (bH (aI aM h1) [] (bR.bY a0 a1) (((bR.bo k a0 a1).ap e5)) (ck (aI aM e6) (.one (.dp T2)) ((eo .i64 (aG .i64 (bh .i64 (bh .i64 2 a0) 65536) a1) (bh .i64 2 a1)):Int))) (by kernel_rfl)⟩))
theorem bR.ok (k:Nat):dh PR 128 (bR.sp k) := fK (bR.bB k) Tryz.func128 (by kernel_rfl) (fun x=>by kernel_rfl) fun x y hy=>(bR.dJ k x.1 x.2.1).ap hy
noncomputable def bK.code:Code:=Func.cd Tryz.f59
def bK.c1 (k:Nat) (y1 y3:Int):Option (Bool) := aX (gI y1 0) (some (gI y3 0)) (some false)
def bK.c2 (k:Nat):Nat→Int→Int→Option ((Int × Int)) | 0,_,_=>none | n+1,v9,v10=>bO (fE k v9) fun y11=>bO (fE k v10) fun y13=>aX (fy (imax y11 y13) 1073741824) (bK.c2 k n (bh .i64 2 v9) (bh .i64 2 v10)) (some (v9,v10))
def bK (k:Nat) (a0:aV):Option aV := bO (cT k a0.1) fun y1=>bO (cT k a0.2.1) fun y3=>bO (bK.c1 k y1 y3) fun o6=>aX o6 (some (0,0,())) (bO (bK.c2 k k y1 y3) fun o16=>bO (ef k o16.1 o16.2) fun y18=>bO (bR k o16.1 y18) fun y20=>bO (bR k o16.2 y18) fun y22=>some (y20,y22,()))
noncomputable def bK.sp (k:Nat):Go.Sx.Spec:=⟨(.pair cq .unit),(.one (.dp cq)),fun x=>bK k x.1,false⟩
noncomputable def bK.cx (k:Nat):Go.Sx.Ctx:=⟨gh,[(125,cT.sp k),(126,fE.sp k),(127,ef.sp k),(128,bR.sp k)],eqs,39,0,[],false⟩
theorem bK.bB (k:Nat):cf PR (bK.cx k):=bN cB cC (fC (cT.ok k) (fC (fE.ok k) (fC (ef.ok k) (fC (bR.ok k) bW.nil)))) de.nil
noncomputable def bK.bY (y1 y3:Int):SL:=⟨[(2,(pz 0 0 0)),(3,(.val T2 y1)),(4,(.val T2 y3))],[(0,.cells cq ((0:Int),(0:Int),()))]⟩
noncomputable def bK.cJ (y1 y3:Int) (o:Bool):SL:=(fun v=>⟨[(2,(pz 0 0 0)),(3,(.val T2 y1)),(4,(.val T2 y3)),(17,(.val T4 v))],[(0,.cells cq ((0:Int),(0:Int),()))]⟩) o
noncomputable def bK.gj (o:Bool):Ex:=(fun _=>.normal) o
noncomputable def bK.gk (o:Bool):Nat:=(fun _=>1) o
theorem bK.bo (k:Nat) (y1 y3:Int):cy (bK.c1 k y1 y3) fun o=>Triple PR (bK.cx k) (sub bK.code [1,1,0,0]) 1 (bK.bY y1 y3) (bK.gj o) (bK.gk o) (bK.cJ y1 y3 o):=by unfold bK.c1; exact oF (fun e5=>oS (tW (bK.bB k) hmix [tT,tT,tT] [] [(0,0)] (via (aT (aI (aI (aI aM e5) e5) e5) .normal [(0,0)] (bK.cJ y1 y3 (gI y3 0))) (by kernel_rfl)))) (fun e5=>oS (tW (bK.bB k) hmix [fF,fF,fF] [] [(0,0)] (via (aT (aI (aI (aI aM e5) e5) e5) .normal [(0,0)] (bK.cJ y1 y3 false)) (by kernel_rfl))))
noncomputable def bK.dS (v9 v10:Int):SL:=⟨[(2,(pz 0 0 0)),(3,(.val T2 v9)),(4,(.val T2 v10))],[(0,.cells cq ((0:Int),(0:Int),()))]⟩
noncomputable def bK.dY (o:(Int × Int)):SL:=(fun v=>⟨[(2,(pz 0 0 0)),(3,(.val T2 v.1)),(4,(.val T2 v.2))],[(0,.cells cq ((0:Int),(0:Int),()))]⟩) o
noncomputable def bK.iy (o:(Int × Int)):Ex:=(fun _=>(.exit 0)) o
noncomputable def bK.iu (o:(Int × Int)):Nat:=(fun _=>1) o
theorem bK.cH (k:Nat):∀ (n:Nat) (v9 v10:Int),cy (bK.c2 k n v9 v10) fun o=>cE PR (bK.cx k) (sub bK.code [1,1,1,0,0,0]) 1 (bK.dS v9 v10) (bK.iy o) (bK.iu o) (bK.dY o) | 0,_,_=>fun _ h=>nomatch h | n+1,v9,v10=>cy.of (bK.c2.eq_2 ..) (oB fun y11 e12=>oB fun y13 e14=>oF (fun e15=>fun y hy=>bI (bK.bB k) hmix 1 (bK.dS (bh .i64 2 v9) (bh .i64 2 v10)) [rS dC y11,rS dC y13,tT] [] [(0,0)] (via (aT (aI (aI (aI aM e12) e14) e15) .normal [(0,0)] (bK.dS (bh .i64 2 v9) (bh .i64 2 v10))) (by kernel_rfl)) ((bK.cH k n (bh .i64 2 v9) (bh .i64 2 v10)).ap hy)) (fun e15=>oS (bt (bK.bB k) hmix [rS dC y11,rS dC y13,fF] [] [(0,0)] (fV 0) (via (aT (aI (aI (aI aM e12) e14) e15) (.exit 0) [(0,0)] (bK.dY (v9,v10))) (by kernel_rfl)))))
theorem bK.dJ (k:Nat) (a0:aV):cy (bK k a0) fun y=>wP (bK.cx k) bK.code (.pair cq .unit) (a0,()) Tryz.f59 (.one (.dp cq)) y:=by unfold bK; exact oB fun y1 e2=>oB fun y3 e4=>oB fun o6 e7=>oF (fun e8=>oS (⟨[rS T2 y1,rS T2 y3,.cutR 2 ⟨[],[(0,1)],(bK.bY y1 y3),1,.normal,(bK.cJ y1 y3 o6),1⟩,tT],[],via (bH (aI (aI aM e2) e4) [(0,1)] (bK.bY y1 y3) (((bK.bo k y1 y3).ap e7)) (ck (aI aM e8) (.one (.dp cq)) (((0:Int),(0:Int),()):aV))) (by kernel_rfl)⟩)) (fun e8=>oB fun o16 e17=>oB fun y18 e19=>oB fun y20 e21=>oB fun y22 e23=>oS (⟨[rS T2 y1,rS T2 y3,.cutR 2 ⟨[],[(0,1)],(bK.bY y1 y3),1,.normal,(bK.cJ y1 y3 o6),1⟩,fF,.cut ⟨[],[(0,0)],(bK.dS y1 y3),1,(.exit 0),(bK.dY o16),1⟩,rS T2 y18,rS T2 y20,rS T2 y22],[],via (bH (aI (aI aM e2) e4) [(0,1)] (bK.bY y1 y3) (((bK.bo k y1 y3).ap e7)) (bH (aI aM e8) [(0,0)] (bK.dS y1 y3) (((bK.cH k k y1 y3).ap e17).triple) (ck (aI (aI (aI aM e19) e21) e23) (.one (.dp cq)) ((y20,y22,()):aV)))) (by kernel_rfl)⟩))
theorem bK.ok (k:Nat):dh PR 59 (bK.sp k) := fK (bK.bB k) Tryz.func59 (by kernel_rfl) (fun x=>by kernel_rfl) fun x y hy=>(bK.dJ k x.1).ap hy
noncomputable def gE.code:Code:=Func.cd Tryz.f101
def gE (k:Nat) (a0 a1:aV):Option aV := bO (fT k a0.1 a1.1) fun y1=>bO (fT k a0.2.1 a1.2.1) fun y3=>some (y1,y3,())
noncomputable def gE.sp (k:Nat):Go.Sx.Spec:=⟨fG,(.one (.dp cq)),fun x=>gE k x.1 x.2.1,false⟩
noncomputable def gE.cx (k:Nat):Go.Sx.Ctx:=⟨gh,[(122,fT.sp k)],eqs,16,0,[],false⟩
theorem gE.bB (k:Nat):cf PR (gE.cx k):=bN cB cC (fC (fT.ok k) bW.nil) de.nil
theorem gE.dJ (k:Nat) (a0 a1:aV):cy (gE k a0 a1) fun y=>∃ w c0,exec PR (gE.cx k) gE.code 0 (entry fG (a0,a1,())).st w (qE (gE.cx k) Tryz.f101 c0 (.one (.dp cq)) y):=by unfold gE; exact oB fun y1 e2=>oB fun y3 e4=>oS (⟨[rS T2 y1,rS T2 y3],[],via (ck (aI (aI aM e2) e4) (.one (.dp cq)) ((y1,y3,()):aV)) (by kernel_rfl)⟩)
theorem gE.ok (k:Nat):dh PR 101 (gE.sp k) := fK (gE.bB k) Tryz.func101 (by kernel_rfl) (fun x=>by kernel_rfl) fun x y hy=>(gE.dJ k x.1 x.2.1).ap hy
noncomputable def gn.code:Code:=Func.cd Tryz.f103
def gn (k:Nat) (a0:aV):Option Int := bO (cT k a0.1) fun y1=>bO (cT k a0.2.1) fun y3=>bO (ef k y1 y3) fun y5=>bO (cT k y5) fun y7=>some y7
noncomputable def gn.sp (k:Nat):Go.Sx.Spec:=⟨(.pair cq .unit),(.one (.dp T2)),fun x=>gn k x.1,false⟩
noncomputable def gn.cx (k:Nat):Go.Sx.Ctx:=⟨gh,[(125,cT.sp k),(127,ef.sp k)],eqs,11,0,[],false⟩
theorem gn.bB (k:Nat):cf PR (gn.cx k):=bN cB cC (fC (cT.ok k) (fC (ef.ok k) bW.nil)) de.nil
theorem gn.dJ (k:Nat) (a0:aV):cy (gn k a0) fun y=>wP (gn.cx k) gn.code (.pair cq .unit) (a0,()) Tryz.f103 (.one (.dp T2)) y:=by unfold gn; exact oB fun y1 e2=>oB fun y3 e4=>oB fun y5 e6=>oB fun y7 e8=>oS (⟨[rS T2 y1,rS T2 y3,rS T2 y5,rS T2 y7],[],via (ck (aI (aI (aI (aI aM e2) e4) e6) e8) (.one (.dp T2)) (y7:Int)) (by kernel_rfl)⟩)
theorem gn.ok (k:Nat):dh PR 103 (gn.sp k) := fK (gn.bB k) Tryz.func103 (by kernel_rfl) (fun x=>by kernel_rfl) fun x y hy=>(gn.dJ k x.1).ap hy
noncomputable def dZ.code:Code:=Func.cd Tryz.f43
def dZ (k:Nat) (a0:(List ix)):Option (List ix) := ek (jl 56 a0) <|some a0
noncomputable def dZ.sp (k:Nat):Go.Sx.Spec:=⟨(.pair (.slice jv) .unit),(.one (.ow jv 73)),fun x=>dZ k x.1,false⟩
noncomputable def dZ.cx (k:Nat):Go.Sx.Ctx:=⟨gh,[],eqs,8,0,[],false⟩
theorem dZ.bB (k:Nat):cf PR (dZ.cx k):=bN cB cC bW.nil de.nil
theorem dZ.dJ (k:Nat) (a0:(List ix)):cy (dZ k a0) fun y=>wP (dZ.cx k) dZ.code (.pair (.slice jv) .unit) (a0,()) Tryz.f43 (.one (.ow jv 73)) y:=by unfold dZ; exact oR fun h1=>match a0,h1 with | [],h1=>oS (⟨[.fork [] [tT]],[.own 2 jv 73],via (show (True→(True∧(True∧some (dR.row jv ([]:(List ix)) 73)=some (dR.row jv ([]:(List ix)) 73))))∧((True∧jl 56 ([]:(List ix)))∧(True∧some (dR.row jv ([]:(List ix)) 73)=some (dR.row jv ([]:(List ix)) 73))) from ⟨fun _=>⟨aM,aM,rfl⟩,⟨aM,h1⟩,aM,rfl⟩) (by kernel_rfl)⟩) | a :: l,h1=>oS (⟨[fF,tT],[.own 2 jv 73],via (show ((True∧false=false)∧jl 56 (a :: l))∧(True∧some (dR.row jv (a :: l:(List ix)) 73)=some (dR.row jv (a :: l:(List ix)) 73)) from ⟨⟨⟨aM,rfl⟩,h1⟩,aM,rfl⟩) (by kernel_rfl)⟩)
theorem dZ.ok (k:Nat):dh PR 43 (dZ.sp k) := fK (dZ.bB k) Tryz.func43 (by kernel_rfl) (fun x=>by kernel_rfl) fun x y hy=>(dZ.dJ k x.1).ap hy
noncomputable def dx.code:Code:=Func.cd Tryz.f44
def dx (k:Nat) (a0:(List ct)):Option (List ct) := ek (jl 120 a0) <|some a0
noncomputable def dx.sp (k:Nat):Go.Sx.Spec:=⟨(.pair (.slice dD) .unit),(.one (.ow dD 43)),fun x=>dx k x.1,false⟩
noncomputable def dx.cx (k:Nat):Go.Sx.Ctx:=⟨gh,[],eqs,8,0,[],false⟩
theorem dx.bB (k:Nat):cf PR (dx.cx k):=bN cB cC bW.nil de.nil
theorem dx.dJ (k:Nat) (a0:(List ct)):cy (dx k a0) fun y=>wP (dx.cx k) dx.code (.pair (.slice dD) .unit) (a0,()) Tryz.f44 (.one (.ow dD 43)) y:=by unfold dx; exact oR fun h1=>match a0,h1 with | [],h1=>oS (⟨[.fork [] [tT]],[.own 2 dD 43],via (show (True→(True∧(True∧some (dR.row dD ([]:(List ct)) 43)=some (dR.row dD ([]:(List ct)) 43))))∧((True∧jl 120 ([]:(List ct)))∧(True∧some (dR.row dD ([]:(List ct)) 43)=some (dR.row dD ([]:(List ct)) 43))) from ⟨fun _=>⟨aM,aM,rfl⟩,⟨aM,h1⟩,aM,rfl⟩) (by kernel_rfl)⟩) | a :: l,h1=>oS (⟨[fF,tT],[.own 2 dD 43],via (show ((True∧false=false)∧jl 120 (a :: l))∧(True∧some (dR.row dD (a :: l:(List ct)) 43)=some (dR.row dD (a :: l:(List ct)) 43)) from ⟨⟨⟨aM,rfl⟩,h1⟩,aM,rfl⟩) (by kernel_rfl)⟩)
theorem dx.ok (k:Nat):dh PR 44 (dx.sp k) := fK (dx.bB k) Tryz.func44 (by kernel_rfl) (fun x=>by kernel_rfl) fun x y hy=>(dx.dJ k x.1).ap hy
noncomputable def cS.code:Code:=Func.cd Tryz.f95
def cS (k:Nat) (a0:(List dX)):Option (List dX) := ek (jl 80 a0) <|some a0
noncomputable def cS.sp (k:Nat):Go.Sx.Spec:=⟨(.pair (.slice fi) .unit),(.one (.ow fi 45)),fun x=>cS k x.1,false⟩
noncomputable def cS.cx (k:Nat):Go.Sx.Ctx:=⟨gh,[],eqs,8,0,[],false⟩
theorem cS.bB (k:Nat):cf PR (cS.cx k):=bN cB cC bW.nil de.nil
theorem cS.dJ (k:Nat) (a0:(List dX)):cy (cS k a0) fun y=>wP (cS.cx k) cS.code (.pair (.slice fi) .unit) (a0,()) Tryz.f95 (.one (.ow fi 45)) y:=by unfold cS; exact oR fun h1=>match a0,h1 with | [],h1=>oS (⟨[.fork [] [tT]],[.own 2 fi 45],via (show (True→(True∧(True∧some (dR.row fi ([]:(List dX)) 45)=some (dR.row fi ([]:(List dX)) 45))))∧((True∧jl 80 ([]:(List dX)))∧(True∧some (dR.row fi ([]:(List dX)) 45)=some (dR.row fi ([]:(List dX)) 45))) from ⟨fun _=>⟨aM,aM,rfl⟩,⟨aM,h1⟩,aM,rfl⟩) (by kernel_rfl)⟩) | a :: l,h1=>oS (⟨[fF,tT],[.own 2 fi 45],via (show ((True∧false=false)∧jl 80 (a :: l))∧(True∧some (dR.row fi (a :: l:(List dX)) 45)=some (dR.row fi (a :: l:(List dX)) 45)) from ⟨⟨⟨aM,rfl⟩,h1⟩,aM,rfl⟩) (by kernel_rfl)⟩)
theorem cS.ok (k:Nat):dh PR 95 (cS.sp k) := fK (cS.bB k) Tryz.func95 (by kernel_rfl) (fun x=>by kernel_rfl) fun x y hy=>(cS.dJ k x.1).ap hy
noncomputable def cO.code:Code:=Func.cd Tryz.f99
def cO (k:Nat) (a0:(List aV)):Option (List aV) := ek (jl 16 a0) <|some a0
noncomputable def cO.sp (k:Nat):Go.Sx.Spec:=⟨(.pair fM .unit),(.one (.ow cq 26)),fun x=>cO k x.1,false⟩
noncomputable def cO.cx (k:Nat):Go.Sx.Ctx:=⟨gh,[],eqs,8,0,[],false⟩
theorem cO.bB (k:Nat):cf PR (cO.cx k):=bN cB cC bW.nil de.nil
theorem cO.dJ (k:Nat) (a0:(List aV)):cy (cO k a0) fun y=>wP (cO.cx k) cO.code (.pair fM .unit) (a0,()) Tryz.f99 (.one (.ow cq 26)) y:=by unfold cO; exact oR fun h1=>match a0,h1 with | [],h1=>oS (⟨[.fork [] [tT]],[.own 2 cq 26],via (show (True→(True∧(True∧some (dR.row cq ([]:(List aV)) 26)=some (dR.row cq ([]:(List aV)) 26))))∧((True∧jl 16 ([]:(List aV)))∧(True∧some (dR.row cq ([]:(List aV)) 26)=some (dR.row cq ([]:(List aV)) 26))) from ⟨fun _=>⟨aM,aM,rfl⟩,⟨aM,h1⟩,aM,rfl⟩) (by kernel_rfl)⟩) | a :: l,h1=>oS (⟨[fF,tT],[.own 2 cq 26],via (show ((True∧false=false)∧jl 16 (a :: l))∧(True∧some (dR.row cq (a :: l:(List aV)) 26)=some (dR.row cq (a :: l:(List aV)) 26)) from ⟨⟨⟨aM,rfl⟩,h1⟩,aM,rfl⟩) (by kernel_rfl)⟩)
theorem cO.ok (k:Nat):dh PR 99 (cO.sp k) := fK (cO.bB k) Tryz.func99 (by kernel_rfl) (fun x=>by kernel_rfl) fun x y hy=>(cO.dJ k x.1).ap hy
end Go.Proofs.T1
