import Derived.Test.YteibepmkkplpeaaGreatG0
import Derived.Test.YteibepmkkplpeaaGreatG1
namespace Go.Proofs.T1
open Go Go.Sx Go.Proofs
set_option maxRecDepth 100000
set_option linter.unusedVariables false
noncomputable def bH.code:Code:=Func.cd Tryz.f136
def bH.c1 (k:Nat) (a0 a1:hN):Option (Bool) := aP (eC a0.1 a1.1) (some true) (aP (gK a0.1 a1.1) (some (eC a0.2.1 a1.2.1)) (some false))
def bH (k:Nat) (a0 a1:hN):Option Int := aP (Ty.l5 gh a0 a1) (some 0) (bq (bH.c1 k a0 a1) fun o4=>aP o4 (some (-1)) (some 1))
noncomputable def bH.sp (k:Nat):Go.Sx.Spec:=⟨(.pair gh (.pair gh .unit)),(.one (.dp T2)),fun x=>bH k x.1 x.2.1,false⟩
noncomputable def bH.cx (k:Nat):Go.Sx.Ctx:=⟨eY,[],eqs,29,0,[],false⟩
theorem bH.a7 (k:Nat):bJ PR (bH.cx k):=bu bV bX bG.nil cJ.nil
noncomputable def bH.bD (a0 a1:hN):SL:=⟨[(2,(pz 0 0 0)),(3,(pz 1 0 0))],[(0,.cells gh a0),(1,.cells gh a1)]⟩
noncomputable def bH.cf (o:Bool):SL:=(fun v=>⟨[(9,(.val T4 v))],[]⟩) o
noncomputable def bH.fk (o:Bool):Ex:=(fun _=>.normal) o
noncomputable def bH.fm (o:Bool):Nat:=(fun _=>0) o
theorem bH.aW (k:Nat) (a0 a1:hN):bR (bH.c1 k a0 a1) fun o=>Triple PR (bH.cx k) (sub bH.code [1,0,0,1,1,0]) 2 (bH.bD a0 a1) (bH.fk o) (bH.fm o) (bH.cf o):=by unfold bH.c1; exact oF (fun e2=>oS (tW (bH.a7 k) hmix [tT,tT,tT,tT,tT,tT,tT,tT,tT,tT,tT,tT,tT,tT] [] [] (via (aL (aI (aI (aI (aI (aI (aI (aI (aI ay e2) e2) e2) e2) e2) e2) e2) e2) .normal [] (bH.cf true)) (by kernel_rfl)))) (fun e2=>oF (fun e3=>oS (tW (bH.a7 k) hmix [fF,fF,fF,fF,fF,fF,tT,tT,tT,tT,tT,fF,tT,fF] [] [] (via (aL (aI (aI (aI (aI (aI (aI (aI (aI (aI (aI (aI (aI (aI ay e2) e2) e2) e2) e2) e2) e3) e3) e3) e3) e3) (aI e2 e3)) e2) .normal [] (bH.cf (eC a0.2.1 a1.2.1))) (by kernel_rfl)))) (fun e3=>oS (tW (bH.a7 k) hmix [fF,fF,fF,fF,fF,fF,fF,fF,fF,fF,fF,fF,fF,fF] [] [] (via (aL (aI (aI (aI (aI (aI (aI (aI (aI (aI (aI (aI (aI (aI ay e2) e2) e2) e2) e2) e2) e3) e3) e3) e3) e3) (aI e2 e3)) e2) .normal [] (bH.cf false)) (by kernel_rfl)))))
theorem bH.cY (k:Nat) (a0 a1:hN):bR (bH k a0 a1) fun y=>wP (bH.cx k) bH.code (.pair gh (.pair gh .unit)) (a0,a1,()) Tryz.f136 (.one (.dp T2)) y:=by unfold bH; exact oF (fun e1=>oS (⟨[tT],[],via (bE (aI ay e1) (.one (.dp T2)) ((0:Int):Int)) (by kernel_rfl)⟩)) (fun e1=>oB fun o4 e5=>oF (fun e6=>oS (⟨[fF,.cutR 3 ⟨[],[(0,0),(1,1)],(bH.bD a0 a1),2,.normal,(bH.cf o4),0⟩,tT],[],via (bp (aI ay e1) [(0,0),(1,1)] (bH.bD a0 a1) (((bH.aW k a0 a1).ap e5)) (bE (aI ay e6) (.one (.dp T2)) ((-1:Int):Int))) (by kernel_rfl)⟩)) (fun e6=>oS (⟨[fF,.cutR 3 ⟨[],[(0,0),(1,1)],(bH.bD a0 a1),2,.normal,(bH.cf o4),0⟩,fF],[],via (bp (aI ay e1) [(0,0),(1,1)] (bH.bD a0 a1) (((bH.aW k a0 a1).ap e5)) (bE (aI ay e6) (.one (.dp T2)) ((1:Int):Int))) (by kernel_rfl)⟩)))
theorem bH.ok (k:Nat):cS PR 136 (bH.sp k) := fK (bH.a7 k) Tryz.func136 (by kernel_rfl) (fun x=>by kernel_rfl) fun x y hy=>(bH.cY k x.1 x.2.1).ap hy
noncomputable def bL.code:Code:=Func.cd Tryz.f79
def bL.c1 (k:Nat) (a0:(List bm)) (a1:bm):Nat→Int→Int→Option (Int) | 0,_,_=>none | n+1,v4,v5=>aP (eC v5 (len a0)) (dH (eR v5 a0) <|bq (fN k (el ea a0 v5) a1) fun y8=>dH (eR v4 a0) <|bq (fN k (el ea a0 v4) a1) fun y11=>bq (bH k y8 y11) fun y13=>aP (ib y13 0) (bL.c1 k a0 a1 n v5 (aw .i64 v5 1)) (bL.c1 k a0 a1 n v4 (aw .i64 v5 1))) (some v4)
def bL (k:Nat) (a0:(List bm)) (a1:bm):Option Int := bq (aD k a0) fun y1=>aP (ig y1 0) (some (-1)) (bq (bL.c1 k a0 a1 k 0 0) fun o16=>some o16)
noncomputable def bL.sp (k:Nat):Go.Sx.Spec:=⟨(.pair eW (.pair bN .unit)),(.one (.dp T2)),fun x=>bL k x.1 x.2.1,false⟩
noncomputable def bL.cx (k:Nat):Go.Sx.Ctx:=⟨eY,[(64,aD.sp k),(150,fN.sp k),(136,bH.sp k)],eqs,32,0,[],false⟩
theorem bL.a7 (k:Nat):bJ PR (bL.cx k):=bu bV bX (fC (aD.ok k) (fC (fN.ok k) (fC (bH.ok k) bG.nil))) cJ.nil
noncomputable def bL.bD (a0:(List bm)) (a1:bm) (v4 v5:Int):SL:=⟨[(0,(.val eW a0)),(3,(pz 0 0 0)),(5,(.val T2 v4)),(11,(.val eW a0)),(12,(.val T2 (len a0))),(13,(.val T2 v5))],[(0,.cells bN a1)]⟩
noncomputable def bL.cf (o:Int):SL:=(fun v=>⟨[(5,(.val T2 v))],[]⟩) o
noncomputable def bL.fk (o:Int):Ex:=(fun _=>(.exit 0)) o
noncomputable def bL.fm (o:Int):Nat:=(fun _=>0) o
theorem bL.aW (k:Nat) (a0:(List bm)) (a1:bm):∀ (n:Nat) (v4 v5:Int),bR (bL.c1 k a0 a1 n v4 v5) fun o=>bY PR (bL.cx k) (sub bL.code [1,1,1,0,1,0,0]) 1 (bL.bD a0 a1 v4 v5) (bL.fk o) (bL.fm o) (bL.cf o) | 0,_,_=>fun _ h=>nomatch h | n+1,v4,v5=>bR.of (bL.c1.eq_2 ..) (oF (fun e6=>oR fun h7=>oB fun y8 e9=>oR fun h10=>oB fun y11 e12=>oB fun y13 e14=>oF (fun e15=>fun y hy=>bh (bL.a7 k) hmix 1 (bL.bD a0 a1 v5 (aw .i64 v5 1)) [tT,rS gh y8,rS gh y11,rS T2 y13,tT] [] [(0,0)] (via (aL (aI (aI (aI (aI (aI (aI (aI ay e6) h7) e9) h10) e12) e14) e15) .normal [(0,0)] (bL.bD a0 a1 v5 (aw .i64 v5 1))) (by kernel_rfl)) ((bL.aW k a0 a1 n v5 (aw .i64 v5 1)).ap hy)) (fun e15=>fun y hy=>bh (bL.a7 k) hmix 1 (bL.bD a0 a1 v4 (aw .i64 v5 1)) [tT,rS gh y8,rS gh y11,rS T2 y13,fF] [] [(0,0)] (via (aL (aI (aI (aI (aI (aI (aI (aI ay e6) h7) e9) h10) e12) e14) e15) .normal [(0,0)] (bL.bD a0 a1 v4 (aw .i64 v5 1))) (by kernel_rfl)) ((bL.aW k a0 a1 n v4 (aw .i64 v5 1)).ap hy))) (fun e6=>oS (aR (bL.a7 k) hmix [fF] [] [] (eH 0) (via (aL (aI ay e6) (.exit 0) [] (bL.cf v4)) (by kernel_rfl)))))
theorem bL.cY (k:Nat) (a0:(List bm)) (a1:bm):bR (bL k a0 a1) fun y=>wP (bL.cx k) bL.code (.pair eW (.pair bN .unit)) (a0,a1,()) Tryz.f79 (.one (.dp T2)) y:=by unfold bL; exact oB fun y1 e2=>oF (fun e3=>oS (⟨[rS T2 y1,tT],[],via (bE (aI (aI ay e2) e3) (.one (.dp T2)) ((-1:Int):Int)) (by kernel_rfl)⟩)) (fun e3=>oB fun o16 e17=>oS (⟨[rS T2 y1,fF,.cut ⟨[],[(0,0)],(bL.bD a0 a1 (0:Int) (0:Int)),1,(.exit 0),(bL.cf o16),0⟩],[],via (bp (aI (aI ay e2) e3) [(0,0)] (bL.bD a0 a1 (0:Int) (0:Int)) (((bL.aW k a0 a1 k (0:Int) (0:Int)).ap e17).triple) (bE ay (.one (.dp T2)) (o16:Int))) (by kernel_rfl)⟩))
theorem bL.ok (k:Nat):cS PR 79 (bL.sp k) := fK (bL.a7 k) Tryz.func79 (by kernel_rfl) (fun x=>by kernel_rfl) fun x y hy=>(bL.cY k x.1 x.2.1).ap hy
noncomputable def bz.code:Code:=Func.cd Tryz.f175
def bz.c1 (k:Nat) (a0:(List bm)) (a1:bm):Option (Bool) := bq (aD k a0) fun y1=>aP (ig y1 0) (some true) (bq (dV k a1) fun y4=>some (!y4))
def bz.c2 (k:Nat) (a0:(List bm)) (a1:bm):Nat→Int→Option (Unit ⊕ Unit) | 0,_=>none | n+1,v9=>aP (eC v9 (len a0)) (dH (eR v9 a0) <|dH (nz (len a0)) <|dH (eR (fM (aw .i64 v9 1) (len a0)) a0) <|bq (eB k (el ea a0 v9) (el ea a0 (fM (aw .i64 v9 1) (len a0))) a1) fun y14=>aP (eC y14 0) (some (.inl ())) (bz.c2 k a0 a1 n (aw .i64 v9 1))) (some (.inr ()))
def bz (k:Nat) (a0:(List bm)) (a1:bm):Option Bool := bq (bz.c1 k a0 a1) fun o6=>aP o6 (some false) (bq (bz.c2 k a0 a1 k 0) fun o17=>two o17 (fun y19=>some false) (fun y21=>some true))
noncomputable def bz.sp (k:Nat):Go.Sx.Spec:=⟨(.pair eW (.pair bN .unit)),(.one (.dp T4)),fun x=>bz k x.1 x.2.1,false⟩
noncomputable def bz.cx (k:Nat):Go.Sx.Ctx:=⟨eY,[(64,aD.sp k),(139,dV.sp k),(140,eB.sp k)],eqs,35,0,[],false⟩
theorem bz.a7 (k:Nat):bJ PR (bz.cx k):=bu bV bX (fC (aD.ok k) (fC (dV.ok k) (fC (eB.ok k) bG.nil))) cJ.nil
noncomputable def bz.bD (a0:(List bm)) (a1:bm):SL:=⟨[(0,(.val eW a0)),(3,(pz 0 0 0))],[(0,.cells bN a1)]⟩
noncomputable def bz.cf (a0:(List bm)) (a1:bm) (o:Bool):SL:=(fun v=>⟨[(0,(.val eW a0)),(3,(pz 0 0 0)),(14,(.val T4 v))],[(0,.cells bN a1)]⟩) o
noncomputable def bz.fk (o:Bool):Ex:=(fun _=>.normal) o
noncomputable def bz.fm (o:Bool):Nat:=(fun _=>1) o
theorem bz.aW (k:Nat) (a0:(List bm)) (a1:bm):bR (bz.c1 k a0 a1) fun o=>Triple PR (bz.cx k) (sub bz.code [1,0,0]) 1 (bz.bD a0 a1) (bz.fk o) (bz.fm o) (bz.cf a0 a1 o):=by unfold bz.c1; exact oB fun y1 e2=>oF (fun e3=>oS (tW (bz.a7 k) hmix [rS T2 y1,tT,tT,tT,tT,tT] [] [(0,0)] (via (aL (aI (aI (aI (aI (aI ay e2) e3) e3) e3) e3) .normal [(0,0)] (bz.cf a0 a1 true)) (by kernel_rfl)))) (fun e3=>oB fun y4 e5=>oS (tW (bz.a7 k) hmix [rS T2 y1,fF,fF,rS T4 y4,fF,fF] [] [(0,0)] (via (aL (aI (aI (aI (aI (aI ay e2) e3) (aI e3 e5)) e3) e3) .normal [(0,0)] (bz.cf a0 a1 (!y4))) (by kernel_rfl))))
noncomputable def bz.dd (a0:(List bm)) (a1:bm) (v9:Int):SL:=⟨[(0,(.val eW a0)),(3,(pz 0 0 0)),(15,(.val eW a0)),(16,(.val T2 (len a0))),(17,(.val T2 v9))],[(0,.cells bN a1)]⟩
noncomputable def bz.dw (o:Unit ⊕ Unit):SL:=(fun o=>two o (fun v=>⟨[(4,(.val T4 false))],[]⟩) (fun v=>⟨[],[]⟩)) o
noncomputable def bz.gG (o:Unit ⊕ Unit):Ex:=(fun o=>two o (fun _=>.ret) (fun _=>(.exit 0))) o
noncomputable def bz.gF (o:Unit ⊕ Unit):Nat:=(fun o=>two o (fun _=>0) (fun _=>0)) o
theorem bz.cm (k:Nat) (a0:(List bm)) (a1:bm):∀ (n:Nat) (v9:Int),bR (bz.c2 k a0 a1 n v9) fun o=>bY PR (bz.cx k) (sub bz.code [1,1,0,1,0,0]) 1 (bz.dd a0 a1 v9) (bz.gG o) (bz.gF o) (bz.dw o) | 0,_=>fun _ h=>nomatch h | n+1,v9=>bR.of (bz.c2.eq_2 ..) (oF (fun e10=>oR fun h11=>oR fun h12=>oR fun h13=>oB fun y14 e15=>oF (fun e16=>oS (aR (bz.a7 k) hmix [tT,rS T2 y14,tT] [] [] dP (via (aL (aI (aI (aI (aI (aI (aI ay e10) h11) h12) h13) e15) e16) .ret [] (bz.dw (.inl ()))) (by kernel_rfl)))) (fun e16=>fun y hy=>bh (bz.a7 k) hmix 1 (bz.dd a0 a1 (aw .i64 v9 1)) [tT,rS T2 y14,fF] [] [(0,0)] (via (aL (aI (aI (aI (aI (aI (aI ay e10) h11) h12) h13) e15) e16) .normal [(0,0)] (bz.dd a0 a1 (aw .i64 v9 1))) (by kernel_rfl)) ((bz.cm k a0 a1 n (aw .i64 v9 1)).ap hy))) (fun e10=>oS (aR (bz.a7 k) hmix [fF] [] [] (eH 0) (via (aL (aI ay e10) (.exit 0) [] (bz.dw (.inr ()))) (by kernel_rfl)))))
theorem bz.cY (k:Nat) (a0:(List bm)) (a1:bm):bR (bz k a0 a1) fun y=>wP (bz.cx k) bz.code (.pair eW (.pair bN .unit)) (a0,a1,()) Tryz.f175 (.one (.dp T4)) y:=by unfold bz; exact oB fun o6 e7=>oF (fun e8=>oS (⟨[.cutR 1 ⟨[],[(0,0)],(bz.bD a0 a1),1,.normal,(bz.cf a0 a1 o6),1⟩,tT],[],via (bp ay [(0,0)] (bz.bD a0 a1) (((bz.aW k a0 a1).ap e7)) (bE (aI ay e8) (.one (.dp T4)) (false:Bool))) (by kernel_rfl)⟩)) (fun e8=>oB fun o17 e18=>bR.two (fun y19 e20=>oS (⟨[.cutR 1 ⟨[],[(0,0)],(bz.bD a0 a1),1,.normal,(bz.cf a0 a1 o6),1⟩,fF,.cut ⟨[],[(0,0)],(bz.dd a0 a1 (0:Int)),1,.ret,(bz.dw (.inl ())),0⟩],[],via (bp ay [(0,0)] (bz.bD a0 a1) (((bz.aW k a0 a1).ap e7)) (bp (aI ay e8) [(0,0)] (bz.dd a0 a1 (0:Int)) (((bz.cm k a0 a1 k (0:Int)).ap (e18.trans (congrArg some e20))).triple) (bE ay (.one (.dp T4)) (false:Bool)))) (by kernel_rfl)⟩)) (fun y21 e22=>oS (⟨[.cutR 1 ⟨[],[(0,0)],(bz.bD a0 a1),1,.normal,(bz.cf a0 a1 o6),1⟩,fF,.cut ⟨[],[(0,0)],(bz.dd a0 a1 (0:Int)),1,(.exit 0),(bz.dw (.inr ())),0⟩],[],via (bp ay [(0,0)] (bz.bD a0 a1) (((bz.aW k a0 a1).ap e7)) (bp (aI ay e8) [(0,0)] (bz.dd a0 a1 (0:Int)) (((bz.cm k a0 a1 k (0:Int)).ap (e18.trans (congrArg some e22))).triple) (bE ay (.one (.dp T4)) (true:Bool)))) (by kernel_rfl)⟩)))
theorem bz.ok (k:Nat):cS PR 175 (bz.sp k) := fK (bz.a7 k) Tryz.func175 (by kernel_rfl) (fun x=>by kernel_rfl) fun x y hy=>(bz.cY k x.1 x.2.1).ap hy
noncomputable def c9.code:Code:=Func.cd Tryz.f125
def c9 (k:Nat) (a0:Int):Option Int := some (fl (imax a0 (-1099511627776)) 1099511627776)
noncomputable def c9.sp (k:Nat):Go.Sx.Spec:=⟨(.pair T2 .unit),(.one (.dp T2)),fun x=>c9 k x.1,false⟩
noncomputable def c9.cx (k:Nat):Go.Sx.Ctx:=⟨eY,[],eqs,6,0,[],false⟩
theorem c9.a7 (k:Nat):bJ PR (c9.cx k):=bu bV bX bG.nil cJ.nil
theorem c9.cY (k:Nat) (a0:Int):bR (c9 k a0) fun y=>wP (c9.cx k) c9.code (.pair T2 .unit) (a0,()) Tryz.f125 (.one (.dp T2)) y:=by unfold c9; exact oS (⟨[],[],via (bE ay (.one (.dp T2)) ((fl (imax a0 (-1099511627776:Int)) (1099511627776:Int)):Int)) (by kernel_rfl)⟩)
theorem c9.ok (k:Nat):cS PR 125 (c9.sp k) := fK (c9.a7 k) Tryz.func125 (by kernel_rfl) (fun x=>by kernel_rfl) fun x y hy=>(c9.cY k x.1).ap hy
noncomputable def gl.code:Code:=Func.cd Tryz.f172
def gl (k:Nat) (a0:Int):Option Int := aP (eC a0 0) (some (cP .u64 (fV .i64 a0))) (some (cP .u64 a0))
noncomputable def gl.sp (k:Nat):Go.Sx.Spec:=⟨(.pair T2 .unit),(.one (.dp dx)),fun x=>gl k x.1,false⟩
noncomputable def gl.cx (k:Nat):Go.Sx.Ctx:=⟨eY,[],eqs,10,0,[],false⟩
theorem gl.a7 (k:Nat):bJ PR (gl.cx k):=bu bV bX bG.nil cJ.nil
theorem gl.cY (k:Nat) (a0:Int):bR (gl k a0) fun y=>wP (gl.cx k) gl.code (.pair T2 .unit) (a0,()) Tryz.f172 (.one (.dp dx)) y:=by unfold gl; exact oF (fun e1=>oS (⟨[tT],[],via (bE (aI ay e1) (.one (.dp dx)) ((cP .u64 (fV .i64 a0)):Int)) (by kernel_rfl)⟩)) (fun e1=>oS (⟨[fF],[],via (bE (aI ay e1) (.one (.dp dx)) ((cP .u64 a0):Int)) (by kernel_rfl)⟩))
theorem gl.ok (k:Nat):cS PR 172 (gl.sp k) := fK (gl.a7 k) Tryz.func172 (by kernel_rfl) (fun x=>by kernel_rfl) fun x y hy=>(gl.cY k x.1).ap hy
noncomputable def ax.code:Code:=Func.cd Tryz.f114
def ax.c1 (k:Nat) (y1 y3:Int):Option (Bool) := aP (eC y3 0) (some (!(eC y1 0))) (some (eC y1 0))
def ax.c2 (k:Nat) (o9:Bool) (y5:Int):Option (Bool) := aP (eC y5 0) (some (!o9)) (some o9)
def ax.c3 (k:Nat) (y24:(Int × Int)):Option ((Int × Int)) := aP (ib y24.1 1099511627776) (some (1099511627777,0)) (some (y24.1,y24.2))
def ax.c4 (k:Nat) (o27:(Int × Int)) (y14:Int):Option (Int) := aP (ib o27.2 (cE .u64 y14 o27.2)) (some (aw .i64 (cP .i64 o27.1) 1)) (some (cP .i64 o27.1))
def ax.c5 (k:Nat) (o27:(Int × Int)) (y14:Int):Option (Int) := aP (iB o27.2 (cE .u64 y14 o27.2)) (some (aw .i64 (cP .i64 o27.1) 1)) (some (cP .i64 o27.1))
def ax (k:Nat) (a0 a1 a2:Int):Option Int := bq (c9 k a0) fun y1=>bq (c9 k a1) fun y3=>bq (c9 k a2) fun y5=>aP (gK y5 0) (some 0) (bq (ax.c1 k y1 y3) fun o9=>bq (ax.c2 k o9 y5) fun o12=>bq (gl k y5) fun y14=>bq (gl k y1) fun y16=>bq (gl k y3) fun y18=>bq (dv k y16 y18) fun y20=>aP (iB y20.1 y14) (aP o12 (some (-1099511627776)) (some 1099511627776)) (bq (aG k y20.1 y20.2 y14) fun y24=>bq (ax.c3 k y24) fun o27=>aP o12 (bq (ax.c4 k o27 y14) fun o31=>bq (c9 k (fV .i64 o31)) fun y33=>some y33) (bq (ax.c5 k o27 y14) fun o36=>bq (c9 k o36) fun y38=>some y38)))
noncomputable def ax.sp (k:Nat):Go.Sx.Spec:=⟨(.pair T2 bN),(.one (.dp T2)),fun x=>ax k x.1 x.2.1 x.2.2.1,false⟩
noncomputable def ax.cx (k:Nat):Go.Sx.Ctx:=⟨eY,[(125,c9.sp k),(172,gl.sp k),(145,dv.sp k),(147,aG.sp k)],eqs,78,0,[],false⟩
theorem ax.a7 (k:Nat):bJ PR (ax.cx k):=bu bV bX (fC (c9.ok k) (fC (gl.ok k) (fC (dv.ok k) (fC (aG.ok k) bG.nil)))) cJ.nil
noncomputable def ax.bD (y1 y3 y5:Int):SL:=⟨[(0,(.val T2 y1)),(1,(.val T2 y3)),(2,(.val T2 y5)),(7,(.val T4 (eC y1 0))),(25,(.val T4 (eC y3 0)))],[]⟩
noncomputable def ax.cf (y1 y3 y5:Int) (o:Bool):SL:=(fun v=>⟨[(0,(.val T2 y1)),(1,(.val T2 y3)),(2,(.val T2 y5)),(7,(.val T4 v))],[]⟩) o
noncomputable def ax.fk (o:Bool):Ex:=(fun _=>.normal) o
noncomputable def ax.fm (o:Bool):Nat:=(fun _=>0) o
theorem ax.aW (k:Nat) (y1 y3 y5:Int):bR (ax.c1 k y1 y3) fun o=>Triple PR (ax.cx k) (sub ax.code [1,1,1,1,0,1]) 0 (ax.bD y1 y3 y5) (ax.fk o) (ax.fm o) (ax.cf y1 y3 y5 o):=by unfold ax.c1; exact oF (fun e8=>oS (tW (ax.a7 k) hmix [tT] [] [] (via (aL (aI ay e8) .normal [] (ax.cf y1 y3 y5 (!(eC y1 0)))) (by kernel_rfl)))) (fun e8=>oS (tW (ax.a7 k) hmix [fF] [] [] (via (aL (aI ay e8) .normal [] (ax.cf y1 y3 y5 (eC y1 0))) (by kernel_rfl))))
noncomputable def ax.dd (o9:Bool) (y1 y3 y5:Int):SL:=⟨[(0,(.val T2 y1)),(1,(.val T2 y3)),(2,(.val T2 y5)),(7,(.val T4 o9)),(29,(.val T4 (eC y5 0)))],[]⟩
noncomputable def ax.dw (y1 y3 y5:Int) (o:Bool):SL:=(fun v=>⟨[(0,(.val T2 y1)),(1,(.val T2 y3)),(2,(.val T2 y5)),(7,(.val T4 v))],[]⟩) o
noncomputable def ax.gG (o:Bool):Ex:=(fun _=>.normal) o
noncomputable def ax.gF (o:Bool):Nat:=(fun _=>0) o
theorem ax.cm (k:Nat) (o9:Bool) (y1 y3 y5:Int):bR (ax.c2 k o9 y5) fun o=>Triple PR (ax.cx k) (sub ax.code [1,1,1,1,1,0,1]) 0 (ax.dd o9 y1 y3 y5) (ax.gG o) (ax.gF o) (ax.dw y1 y3 y5 o):=by unfold ax.c2; exact oF (fun e11=>oS (tW (ax.a7 k) hmix [tT] [] [] (via (aL (aI ay e11) .normal [] (ax.dw y1 y3 y5 (!o9))) (by kernel_rfl)))) (fun e11=>oS (tW (ax.a7 k) hmix [fF] [] [] (via (aL (aI ay e11) .normal [] (ax.dw y1 y3 y5 o9)) (by kernel_rfl))))
noncomputable def ax.eU (o12:Bool) (y14:Int) (y24:(Int × Int)):SL:=⟨[(7,(.val T4 o12)),(8,(.val dx y14)),(11,(.val dx y24.1)),(12,(.val dx y24.2)),(54,(.val T4 (ib y24.1 1099511627776)))],[]⟩
noncomputable def ax.fe (o12:Bool) (y14:Int) (o:(Int × Int)):SL:=(fun v=>⟨[(7,(.val T4 o12)),(8,(.val dx y14)),(11,(.val dx v.1)),(12,(.val dx v.2))],[]⟩) o
noncomputable def ax.jd (o:(Int × Int)):Ex:=(fun _=>.normal) o
noncomputable def ax.iZ (o:(Int × Int)):Nat:=(fun _=>0) o
theorem ax.dK (k:Nat) (o12:Bool) (y14:Int) (y24:(Int × Int)):bR (ax.c3 k y24) fun o=>Triple PR (ax.cx k) (sub ax.code [1,1,1,1,1,1,1,1,1,1,0,1]) 0 (ax.eU o12 y14 y24) (ax.jd o) (ax.iZ o) (ax.fe o12 y14 o):=by unfold ax.c3; exact oF (fun e26=>oS (tW (ax.a7 k) hmix [tT] [] [] (via (aL (aI ay e26) .normal [] (ax.fe o12 y14 ((1099511627777:Int),(0:Int)))) (by kernel_rfl)))) (fun e26=>oS (tW (ax.a7 k) hmix [fF] [] [] (via (aL (aI ay e26) .normal [] (ax.fe o12 y14 (y24.1,y24.2))) (by kernel_rfl))))
noncomputable def ax.gj (o27:(Int × Int)) (y14:Int):SL:=⟨[(13,(.val T2 (cP .i64 o27.1))),(72,(.val T4 (ib o27.2 (cE .u64 y14 o27.2))))],[]⟩
noncomputable def ax.gq (o:Int):SL:=(fun v=>⟨[(13,(.val T2 v))],[]⟩) o
noncomputable def ax.lA (o:Int):Ex:=(fun _=>.normal) o
noncomputable def ax.k7 (o:Int):Nat:=(fun _=>0) o
theorem ax.eV (k:Nat) (o27:(Int × Int)) (y14:Int):bR (ax.c4 k o27 y14) fun o=>Triple PR (ax.cx k) (sub ax.code [1,1,1,1,1,1,1,1,1,1,1,1,1,0,1]) 0 (ax.gj o27 y14) (ax.lA o) (ax.k7 o) (ax.gq o):=by unfold ax.c4; exact oF (fun e30=>oS (tW (ax.a7 k) hmix [tT] [] [] (via (aL (aI ay e30) .normal [] (ax.gq (aw .i64 (cP .i64 o27.1) 1))) (by kernel_rfl)))) (fun e30=>oS (tW (ax.a7 k) hmix [fF] [] [] (via (aL (aI ay e30) .normal [] (ax.gq (cP .i64 o27.1))) (by kernel_rfl))))
noncomputable def ax.iI (o27:(Int × Int)) (y14:Int):SL:=⟨[(13,(.val T2 (cP .i64 o27.1))),(63,(.val T4 (iB o27.2 (cE .u64 y14 o27.2))))],[]⟩
noncomputable def ax.gw (o:Int):SL:=(fun v=>⟨[(13,(.val T2 v))],[]⟩) o
noncomputable def ax.rp (o:Int):Ex:=(fun _=>.normal) o
noncomputable def ax.ri (o:Int):Nat:=(fun _=>0) o
theorem ax.gC (k:Nat) (o27:(Int × Int)) (y14:Int):bR (ax.c5 k o27 y14) fun o=>Triple PR (ax.cx k) (sub ax.code [1,1,1,1,1,1,1,1,1,1,1,1,0,1,0,0,1]) 0 (ax.iI o27 y14) (ax.rp o) (ax.ri o) (ax.gw o):=by unfold ax.c5; exact oF (fun e35=>oS (tW (ax.a7 k) hmix [tT] [] [] (via (aL (aI ay e35) .normal [] (ax.gw (aw .i64 (cP .i64 o27.1) 1))) (by kernel_rfl)))) (fun e35=>oS (tW (ax.a7 k) hmix [fF] [] [] (via (aL (aI ay e35) .normal [] (ax.gw (cP .i64 o27.1))) (by kernel_rfl))))
theorem ax.cY (k:Nat) (a0 a1 a2:Int):bR (ax k a0 a1 a2) fun y=>wP (ax.cx k) ax.code (.pair T2 bN) (a0,a1,a2,()) Tryz.f114 (.one (.dp T2)) y:=by unfold ax; exact oB fun y1 e2=>oB fun y3 e4=>oB fun y5 e6=>oF (fun e7=>oS (⟨[rS T2 y1,rS T2 y3,rS T2 y5,tT],[],via (bE (aI (aI (aI (aI ay e2) e4) e6) e7) (.one (.dp T2)) ((0:Int):Int)) (by kernel_rfl)⟩)) (fun e7=>oB fun o9 e10=>oB fun o12 e13=>oB fun y14 e15=>oB fun y16 e17=>oB fun y18 e19=>oB fun y20 e21=>oF (fun e22=>oF (fun e23=>oS (⟨[rS T2 y1,rS T2 y3,rS T2 y5,fF,.cut ⟨[],[],(ax.bD y1 y3 y5),0,.normal,(ax.cf y1 y3 y5 o9),0⟩,.cut ⟨[],[],(ax.dd o9 y1 y3 y5),0,.normal,(ax.dw y1 y3 y5 o12),0⟩,rS dx y14,rS dx y16,rS dx y18,.res (.more (.dp dx) (.one (.dp dx))) y20,tT,tT],[],via (bp (aI (aI (aI (aI ay e2) e4) e6) e7) [] (ax.bD y1 y3 y5) (((ax.aW k y1 y3 y5).ap e10)) (bp ay [] (ax.dd o9 y1 y3 y5) (((ax.cm k o9 y1 y3 y5).ap e13)) (bE (aI (aI (aI (aI (aI (aI ay e15) e17) e19) e21) e22) e23) (.one (.dp T2)) ((-1099511627776:Int):Int)))) (by kernel_rfl)⟩)) (fun e23=>oS (⟨[rS T2 y1,rS T2 y3,rS T2 y5,fF,.cut ⟨[],[],(ax.bD y1 y3 y5),0,.normal,(ax.cf y1 y3 y5 o9),0⟩,.cut ⟨[],[],(ax.dd o9 y1 y3 y5),0,.normal,(ax.dw y1 y3 y5 o12),0⟩,rS dx y14,rS dx y16,rS dx y18,.res (.more (.dp dx) (.one (.dp dx))) y20,tT,fF],[],via (bp (aI (aI (aI (aI ay e2) e4) e6) e7) [] (ax.bD y1 y3 y5) (((ax.aW k y1 y3 y5).ap e10)) (bp ay [] (ax.dd o9 y1 y3 y5) (((ax.cm k o9 y1 y3 y5).ap e13)) (bE (aI (aI (aI (aI (aI (aI ay e15) e17) e19) e21) e22) e23) (.one (.dp T2)) ((1099511627776:Int):Int)))) (by kernel_rfl)⟩))) (fun e22=>oB fun y24 e25=>oB fun o27 e28=>oF (fun e29=>oB fun o31 e32=>oB fun y33 e34=>oS (⟨[rS T2 y1,rS T2 y3,rS T2 y5,fF,.cut ⟨[],[],(ax.bD y1 y3 y5),0,.normal,(ax.cf y1 y3 y5 o9),0⟩,.cut ⟨[],[],(ax.dd o9 y1 y3 y5),0,.normal,(ax.dw y1 y3 y5 o12),0⟩,rS dx y14,rS dx y16,rS dx y18,.res (.more (.dp dx) (.one (.dp dx))) y20,fF,.res (.more (.dp dx) (.one (.dp dx))) y24,.cut ⟨[],[],(ax.eU o12 y14 y24),0,.normal,(ax.fe o12 y14 o27),0⟩,fF,.cut ⟨[],[],(ax.gj o27 y14),0,.normal,(ax.gq o31),0⟩,rS T2 y33],[],via (bp (aI (aI (aI (aI ay e2) e4) e6) e7) [] (ax.bD y1 y3 y5) (((ax.aW k y1 y3 y5).ap e10)) (bp ay [] (ax.dd o9 y1 y3 y5) (((ax.cm k o9 y1 y3 y5).ap e13)) (bp (aI (aI (aI (aI (aI (aI ay e15) e17) e19) e21) e22) e25) [] (ax.eU o12 y14 y24) (((ax.dK k o12 y14 y24).ap e28)) (bp (aI ay (cn e29)) [] (ax.gj o27 y14) (((ax.eV k o27 y14).ap e32)) (bE (aI ay e34) (.one (.dp T2)) (y33:Int)))))) (by kernel_rfl)⟩)) (fun e29=>oB fun o36 e37=>oB fun y38 e39=>oS (⟨[rS T2 y1,rS T2 y3,rS T2 y5,fF,.cut ⟨[],[],(ax.bD y1 y3 y5),0,.normal,(ax.cf y1 y3 y5 o9),0⟩,.cut ⟨[],[],(ax.dd o9 y1 y3 y5),0,.normal,(ax.dw y1 y3 y5 o12),0⟩,rS dx y14,rS dx y16,rS dx y18,.res (.more (.dp dx) (.one (.dp dx))) y20,fF,.res (.more (.dp dx) (.one (.dp dx))) y24,.cut ⟨[],[],(ax.eU o12 y14 y24),0,.normal,(ax.fe o12 y14 o27),0⟩,tT,.cut ⟨[],[],(ax.iI o27 y14),0,.normal,(ax.gw o36),0⟩,rS T2 y38],[],via (bp (aI (aI (aI (aI ay e2) e4) e6) e7) [] (ax.bD y1 y3 y5) (((ax.aW k y1 y3 y5).ap e10)) (bp ay [] (ax.dd o9 y1 y3 y5) (((ax.cm k o9 y1 y3 y5).ap e13)) (bp (aI (aI (aI (aI (aI (aI ay e15) e17) e19) e21) e22) e25) [] (ax.eU o12 y14 y24) (((ax.dK k o12 y14 y24).ap e28)) (bp (aI ay (cn e29)) [] (ax.iI o27 y14) (((ax.gC k o27 y14).ap e37)) (bE (aI ay e39) (.one (.dp T2)) (y38:Int)))))) (by kernel_rfl)⟩))))
theorem ax.ok (k:Nat):cS PR 114 (ax.sp k) := fK (ax.a7 k) Tryz.func114 (by kernel_rfl) (fun x=>by kernel_rfl) fun x y hy=>(ax.cY k x.1 x.2.1 x.2.2.1).ap hy
noncomputable def cL.code:Code:=Func.cd Tryz.f51
def cL (k:Nat) (a0 a1:Int):Option Int := bq (ax k a0 a1 65536) fun y1=>some y1
noncomputable def cL.sp (k:Nat):Go.Sx.Spec:=⟨bN,(.one (.dp T2)),fun x=>cL k x.1 x.2.1,false⟩
noncomputable def cL.cx (k:Nat):Go.Sx.Ctx:=⟨eY,[(114,ax.sp k)],eqs,8,0,[],false⟩
theorem cL.a7 (k:Nat):bJ PR (cL.cx k):=bu bV bX (fC (ax.ok k) bG.nil) cJ.nil
theorem cL.cY (k:Nat) (a0 a1:Int):bR (cL k a0 a1) fun y=>∃ w c0,exec PR (cL.cx k) cL.code 0 (entry bN (a0,a1,())).st w (l4 (cL.cx k) Tryz.f51 c0 (.one (.dp T2)) y):=by unfold cL; exact oB fun y1 e2=>oS (⟨[rS T2 y1],[],via (bE (aI ay e2) (.one (.dp T2)) (y1:Int)) (by kernel_rfl)⟩)
theorem cL.ok (k:Nat):cS PR 51 (cL.sp k) := fK (cL.a7 k) Tryz.func51 (by kernel_rfl) (fun x=>by kernel_rfl) fun x y hy=>(cL.cY k x.1 x.2.1).ap hy
noncomputable def dB.code:Code:=Func.cd Tryz.f119
def dB (k:Nat) (a0 a1:Int):Option Int := bq (c9 k a0) fun y1=>bq (c9 k a1) fun y3=>bq (c9 k (aw .i64 y1 y3)) fun y5=>some y5
noncomputable def dB.sp (k:Nat):Go.Sx.Spec:=⟨bN,(.one (.dp T2)),fun x=>dB k x.1 x.2.1,false⟩
noncomputable def dB.cx (k:Nat):Go.Sx.Ctx:=⟨eY,[(125,c9.sp k)],eqs,11,0,[],false⟩
theorem dB.a7 (k:Nat):bJ PR (dB.cx k):=bu bV bX (fC (c9.ok k) bG.nil) cJ.nil
theorem dB.cY (k:Nat) (a0 a1:Int):bR (dB k a0 a1) fun y=>∃ w c0,exec PR (dB.cx k) dB.code 0 (entry bN (a0,a1,())).st w (l4 (dB.cx k) Tryz.f119 c0 (.one (.dp T2)) y):=by unfold dB; exact oB fun y1 e2=>oB fun y3 e4=>oB fun y5 e6=>oS (⟨[rS T2 y1,rS T2 y3,rS T2 y5],[],via (bE (aI (aI (aI ay e2) e4) e6) (.one (.dp T2)) (y5:Int)) (by kernel_rfl)⟩)
theorem dB.ok (k:Nat):cS PR 119 (dB.sp k) := fK (dB.a7 k) Tryz.func119 (by kernel_rfl) (fun x=>by kernel_rfl) fun x y hy=>(dB.cY k x.1 x.2.1).ap hy
noncomputable def ec.code:Code:=Func.cd Tryz.f122
def ec (k:Nat) (a0 a1:Int):Option Int := bq (c9 k a0) fun y1=>bq (c9 k a1) fun y3=>bq (c9 k (cE .i64 y1 y3)) fun y5=>some y5
noncomputable def ec.sp (k:Nat):Go.Sx.Spec:=⟨bN,(.one (.dp T2)),fun x=>ec k x.1 x.2.1,false⟩
noncomputable def ec.cx (k:Nat):Go.Sx.Ctx:=⟨eY,[(125,c9.sp k)],eqs,11,0,[],false⟩
theorem ec.a7 (k:Nat):bJ PR (ec.cx k):=bu bV bX (fC (c9.ok k) bG.nil) cJ.nil
theorem ec.cY (k:Nat) (a0 a1:Int):bR (ec k a0 a1) fun y=>∃ w c0,exec PR (ec.cx k) ec.code 0 (entry bN (a0,a1,())).st w (l4 (ec.cx k) Tryz.f122 c0 (.one (.dp T2)) y):=by unfold ec; exact oB fun y1 e2=>oB fun y3 e4=>oB fun y5 e6=>oS (⟨[rS T2 y1,rS T2 y3,rS T2 y5],[],via (bE (aI (aI (aI ay e2) e4) e6) (.one (.dp T2)) (y5:Int)) (by kernel_rfl)⟩)
theorem ec.ok (k:Nat):cS PR 122 (ec.sp k) := fK (ec.a7 k) Tryz.func122 (by kernel_rfl) (fun x=>by kernel_rfl) fun x y hy=>(ec.cY k x.1 x.2.1).ap hy
noncomputable def bA.code:Code:=Func.cd Tryz.f178
def bA.c2 (k:Nat) (a0 a1:Int) (y4:(Int × Int)):Option (Bool) := aP (eC y4.1 a0) (some true) (aP (gK y4.1 a0) (some (jf y4.2 a1)) (some false))
def bA.c3 (k:Nat) (o8:Bool) (v1 v2:Int):Option (Int) := aP o8 (some (cH .or .u64 v1 v2)) (some v1)
def bA.c1 (k:Nat) (a0 a1:Int):Nat→Int→Int→Option (Int) | 0,_,_=>none | n+1,v1,v2=>aP (ib v2 0) (bq (dv k (cH .or .u64 v1 v2) (cH .or .u64 v1 v2)) fun y4=>bq (bA.c2 k a0 a1 y4) fun o8=>bq (bA.c3 k o8 v1 v2) fun o11=>bA.c1 k a0 a1 n o11 (cU .u64 v2 1)) (some v1)
def bA (k:Nat) (a0 a1:Int):Option Int := bq (bA.c1 k a0 a1 k 0 9223372036854775808) fun o13=>some o13
noncomputable def bA.sp (k:Nat):Go.Sx.Spec:=⟨(.pair dx (.pair dx .unit)),(.one (.dp dx)),fun x=>bA k x.1 x.2.1,false⟩
noncomputable def bA.cx (k:Nat):Go.Sx.Ctx:=⟨eY,[(145,dv.sp k)],eqs,38,0,[],false⟩
theorem bA.a7 (k:Nat):bJ PR (bA.cx k):=bu bV bX (fC (dv.ok k) bG.nil) cJ.nil
noncomputable def bA.dd (a0 a1 v1 v2:Int) (y4:(Int × Int)):SL:=⟨[(0,(.val dx a0)),(1,(.val dx a1)),(5,(.val dx v1)),(6,(.val dx v2)),(7,(.val dx (cH .or .u64 v1 v2))),(8,(.val dx y4.1)),(9,(.val dx y4.2))],[]⟩
noncomputable def bA.dw (a0 a1 v1 v2:Int) (o:Bool):SL:=(fun v=>⟨[(0,(.val dx a0)),(1,(.val dx a1)),(5,(.val dx v1)),(6,(.val dx v2)),(7,(.val dx (cH .or .u64 v1 v2))),(35,(.val T4 v))],[]⟩) o
noncomputable def bA.gG (o:Bool):Ex:=(fun _=>.normal) o
noncomputable def bA.gF (o:Bool):Nat:=(fun _=>0) o
theorem bA.cm (k:Nat) (a0 a1 v1 v2:Int) (y4:(Int × Int)):bR (bA.c2 k a0 a1 y4) fun o=>Triple PR (bA.cx k) (sub bA.code [1,1,0,1,0,0,1,0,0,1,1,0]) 0 (bA.dd a0 a1 v1 v2 y4) (bA.gG o) (bA.gF o) (bA.dw a0 a1 v1 v2 o):=by unfold bA.c2; exact oF (fun e6=>oS (tW (bA.a7 k) hmix [tT,tT,tT,tT,tT,tT,tT,tT,tT,tT] [] [] (via (aL (aI (aI (aI (aI (aI (aI ay e6) e6) e6) e6) e6) e6) .normal [] (bA.dw a0 a1 v1 v2 true)) (by kernel_rfl)))) (fun e6=>oF (fun e7=>oS (tW (bA.a7 k) hmix [fF,fF,fF,fF,tT,tT,tT,fF,tT,fF] [] [] (via (aL (aI (aI (aI (aI (aI (aI (aI (aI (aI ay e6) e6) e6) e6) e7) e7) e7) (aI e6 e7)) e6) .normal [] (bA.dw a0 a1 v1 v2 (jf y4.2 a1))) (by kernel_rfl)))) (fun e7=>oS (tW (bA.a7 k) hmix [fF,fF,fF,fF,fF,fF,fF,fF,fF,fF] [] [] (via (aL (aI (aI (aI (aI (aI (aI (aI (aI (aI ay e6) e6) e6) e6) e7) e7) e7) (aI e6 e7)) e6) .normal [] (bA.dw a0 a1 v1 v2 false)) (by kernel_rfl)))))
noncomputable def bA.eU (a0 a1:Int) (o8:Bool) (v1 v2:Int):SL:=⟨[(0,(.val dx a0)),(1,(.val dx a1)),(5,(.val dx v1)),(6,(.val dx v2)),(7,(.val dx (cH .or .u64 v1 v2))),(35,(.val T4 o8))],[]⟩
noncomputable def bA.fe (a0 a1 v2 o:Int):SL:=(fun v=>⟨[(0,(.val dx a0)),(1,(.val dx a1)),(5,(.val dx v)),(6,(.val dx v2))],[]⟩) o
noncomputable def bA.jd (o:Int):Ex:=(fun _=>.normal) o
noncomputable def bA.iZ (o:Int):Nat:=(fun _=>0) o
theorem bA.dK (k:Nat) (a0 a1:Int) (o8:Bool) (v1 v2:Int):bR (bA.c3 k o8 v1 v2) fun o=>Triple PR (bA.cx k) (sub bA.code [1,1,0,1,0,0,1,0,0,1,1,1]) 0 (bA.eU a0 a1 o8 v1 v2) (bA.jd o) (bA.iZ o) (bA.fe a0 a1 v2 o):=by unfold bA.c3; exact oF (fun e10=>oS (tW (bA.a7 k) hmix [tT] [] [] (via (aL (aI ay e10) .normal [] (bA.fe a0 a1 v2 (cH .or .u64 v1 v2))) (by kernel_rfl)))) (fun e10=>oS (tW (bA.a7 k) hmix [fF] [] [] (via (aL (aI ay e10) .normal [] (bA.fe a0 a1 v2 v1)) (by kernel_rfl))))
noncomputable def bA.bD (a0 a1 v1 v2:Int):SL:=⟨[(0,(.val dx a0)),(1,(.val dx a1)),(5,(.val dx v1)),(6,(.val dx v2))],[]⟩
noncomputable def bA.cf (o:Int):SL:=(fun v=>⟨[(5,(.val dx v))],[]⟩) o
noncomputable def bA.fk (o:Int):Ex:=(fun _=>(.exit 0)) o
noncomputable def bA.fm (o:Int):Nat:=(fun _=>0) o
theorem bA.aW (k:Nat) (a0 a1:Int):∀ (n:Nat) (v1 v2:Int),bR (bA.c1 k a0 a1 n v1 v2) fun o=>bY PR (bA.cx k) (sub bA.code [1,1,0,1,0,0]) 0 (bA.bD a0 a1 v1 v2) (bA.fk o) (bA.fm o) (bA.cf o) | 0,_,_=>fun _ h=>nomatch h | n+1,v1,v2=>bR.of (bA.c1.eq_2 ..) (oF (fun e3=>oB fun y4 e5=>oB fun o8 e9=>oB fun o11 e12=>fun y hy=>bh (bA.a7 k) hmix 0 (bA.bD a0 a1 o11 (cU .u64 v2 1)) [tT,.res (.more (.dp dx) (.one (.dp dx))) y4,.cutR 7 ⟨[],[],(bA.dd a0 a1 v1 v2 y4),0,.normal,(bA.dw a0 a1 v1 v2 o8),0⟩,.cut ⟨[],[],(bA.eU a0 a1 o8 v1 v2),0,.normal,(bA.fe a0 a1 v2 o11),0⟩] [] [] (via (bp (aI (aI ay e3) e5) [] (bA.dd a0 a1 v1 v2 y4) (((bA.cm k a0 a1 v1 v2 y4).ap e9)) (bp ay [] (bA.eU a0 a1 o8 v1 v2) (((bA.dK k a0 a1 o8 v1 v2).ap e12)) (aL (aI ay (by decide:ng (1:Int))) .normal [] (bA.bD a0 a1 o11 (cU .u64 v2 1))))) (by kernel_rfl)) ((bA.aW k a0 a1 n o11 (cU .u64 v2 1)).ap hy)) (fun e3=>oS (aR (bA.a7 k) hmix [fF] [] [] (eH 0) (via (aL (aI ay e3) (.exit 0) [] (bA.cf v1)) (by kernel_rfl)))))
theorem bA.cY (k:Nat) (a0 a1:Int):bR (bA k a0 a1) fun y=>wP (bA.cx k) bA.code (.pair dx (.pair dx .unit)) (a0,a1,()) Tryz.f178 (.one (.dp dx)) y:=by unfold bA; exact oB fun o13 e14=>oS (⟨[.cut ⟨[],[],(bA.bD a0 a1 (0:Int) (9223372036854775808:Int)),0,(.exit 0),(bA.cf o13),0⟩],[],via (bp ay [] (bA.bD a0 a1 (0:Int) (9223372036854775808:Int)) (((bA.aW k a0 a1 k (0:Int) (9223372036854775808:Int)).ap e14).triple) (bE ay (.one (.dp dx)) (o13:Int))) (by kernel_rfl)⟩)
theorem bA.ok (k:Nat):cS PR 178 (bA.sp k) := fK (bA.a7 k) Tryz.func178 (by kernel_rfl) (fun x=>by kernel_rfl) fun x y hy=>(bA.cY k x.1 x.2.1).ap hy
noncomputable def fG.code:Code:=Func.cd Tryz.f194
def fG (k:Nat) (a0 a1:Int):Option (Int × Int) := aP (gK a1 0) (some (0,17)) (bq (ax k a0 65536 a1) fun y2=>some (y2,0))
noncomputable def fG.sp (k:Nat):Go.Sx.Spec:=⟨bN,(.more (.dp T2) (.one (.dp T2))),fun x=>fG k x.1 x.2.1,false⟩
noncomputable def fG.cx (k:Nat):Go.Sx.Ctx:=⟨eY,[(114,ax.sp k)],eqs,11,0,[],false⟩
theorem fG.a7 (k:Nat):bJ PR (fG.cx k):=bu bV bX (fC (ax.ok k) bG.nil) cJ.nil
theorem fG.cY (k:Nat) (a0 a1:Int):bR (fG k a0 a1) fun y=>∃ w c0,exec PR (fG.cx k) fG.code 0 (entry bN (a0,a1,())).st w (l4 (fG.cx k) Tryz.f194 c0 (.more (.dp T2) (.one (.dp T2))) y):=by unfold fG; exact oF (fun e1=>oS (⟨[tT],[],via (bE (aI ay e1) (.more (.dp T2) (.one (.dp T2))) (((0:Int),(17:Int)):(Int × Int))) (by kernel_rfl)⟩)) (fun e1=>oB fun y2 e3=>oS (⟨[fF,rS T2 y2],[],via (bE (aI (aI ay e1) e3) (.more (.dp T2) (.one (.dp T2))) ((y2,(0:Int)):(Int × Int))) (by kernel_rfl)⟩))
theorem fG.ok (k:Nat):cS PR 194 (fG.sp k) := fK (fG.a7 k) Tryz.func194 (by kernel_rfl) (fun x=>by kernel_rfl) fun x y hy=>(fG.cY k x.1 x.2.1).ap hy
noncomputable def eQ.code:Code:=Func.cd Tryz.f55
def eQ (k:Nat) (a0 a1:bm):Option bm := bq (dB k a0.1 a1.1) fun y1=>bq (dB k a0.2.1 a1.2.1) fun y3=>some (y1,y3,())
noncomputable def eQ.sp (k:Nat):Go.Sx.Spec:=⟨eN,(.one (.dp bN)),fun x=>eQ k x.1 x.2.1,false⟩
noncomputable def eQ.cx (k:Nat):Go.Sx.Ctx:=⟨eY,[(119,dB.sp k)],eqs,16,0,[],false⟩
theorem eQ.a7 (k:Nat):bJ PR (eQ.cx k):=bu bV bX (fC (dB.ok k) bG.nil) cJ.nil
theorem eQ.cY (k:Nat) (a0 a1:bm):bR (eQ k a0 a1) fun y=>∃ w c0,exec PR (eQ.cx k) eQ.code 0 (entry eN (a0,a1,())).st w (l4 (eQ.cx k) Tryz.f55 c0 (.one (.dp bN)) y):=by unfold eQ; exact oB fun y1 e2=>oB fun y3 e4=>oS (⟨[rS T2 y1,rS T2 y3],[],via (bE (aI (aI ay e2) e4) (.one (.dp bN)) ((y1,y3,()):bm)) (by kernel_rfl)⟩)
theorem eQ.ok (k:Nat):cS PR 55 (eQ.sp k) := fK (eQ.a7 k) Tryz.func55 (by kernel_rfl) (fun x=>by kernel_rfl) fun x y hy=>(eQ.cY k x.1 x.2.1).ap hy
noncomputable def fa.code:Code:=Func.cd Tryz.f198
def fa (k:Nat):Option (List Int) := some [0,1608,3216,4821,6424,8022,9616,11204,12785,14359,15924,17479,19024,20557,22078,23586,25080,26558,28020,29466,30893,32303,33692,35062,36410,37736,39040,40320,41576,42806,44011,45190,46341,47464,48559,49624,50660,51665,52639,53581,54491,55368,56212,57022,57798,58538,59244,59914,60547,61145,61705,62228,62714,63162,63572,63944,64277,64571,64827,65043,65220,65358,65457,65516,65536]
noncomputable def fa.sp (k:Nat):Go.Sx.Spec:=⟨.unit,(.one (.dp (.arr 65 T2))),fun x=>fa k,false⟩
noncomputable def fa.cx (k:Nat):Go.Sx.Ctx:=⟨eY,[],eqs,2,0,[],false⟩
theorem fa.a7 (k:Nat):bJ PR (fa.cx k):=bu bV bX bG.nil cJ.nil
theorem fa.cY (k:Nat):bR (fa k) fun y=>wP (fa.cx k) fa.code .unit () Tryz.f198 (.one (.dp (.arr 65 T2))) y:=by unfold fa; exact oS (⟨[],[],via (bE ay (.one (.dp (.arr 65 T2))) ([(0:Int),(1608:Int),(3216:Int),(4821:Int),(6424:Int),(8022:Int),(9616:Int),(11204:Int),(12785:Int),(14359:Int),(15924:Int),(17479:Int),(19024:Int),(20557:Int),(22078:Int),(23586:Int),(25080:Int),(26558:Int),(28020:Int),(29466:Int),(30893:Int),(32303:Int),(33692:Int),(35062:Int),(36410:Int),(37736:Int),(39040:Int),(40320:Int),(41576:Int),(42806:Int),(44011:Int),(45190:Int),(46341:Int),(47464:Int),(48559:Int),(49624:Int),(50660:Int),(51665:Int),(52639:Int),(53581:Int),(54491:Int),(55368:Int),(56212:Int),(57022:Int),(57798:Int),(58538:Int),(59244:Int),(59914:Int),(60547:Int),(61145:Int),(61705:Int),(62228:Int),(62714:Int),(63162:Int),(63572:Int),(63944:Int),(64277:Int),(64571:Int),(64827:Int),(65043:Int),(65220:Int),(65358:Int),(65457:Int),(65516:Int),(65536:Int)]:(List Int))) (by kernel_rfl)⟩)
theorem fa.ok (k:Nat):cS PR 198 (fa.sp k) := fK (fa.a7 k) Tryz.func198 (by kernel_rfl) (fun x=>by kernel_rfl) fun x y hy=>(fa.cY k).ap hy
noncomputable def eE.code:Code:=Func.cd Tryz.f176
def eE (k:Nat) (a0:Int):Option Int := bq (fa k) fun y1=>aP (gK (fM a0 256) 0) (dH (gk (gg .i64 a0 256) 65) <|some (el 0 y1 (gg .i64 a0 256))) (dH (gk (gg .i64 a0 256) 65) <|dH (gk (aw .i64 (gg .i64 a0 256) 1) 65) <|some (aw .i64 (el 0 y1 (gg .i64 a0 256)) (gg .i64 (aw .i64 (bQ .i64 (cE .i64 (el 0 y1 (aw .i64 (gg .i64 a0 256) 1)) (el 0 y1 (gg .i64 a0 256))) (fM a0 256)) 128) 256)))
noncomputable def eE.sp (k:Nat):Go.Sx.Spec:=⟨(.pair T2 .unit),(.one (.dp T2)),fun x=>eE k x.1,false⟩
noncomputable def eE.cx (k:Nat):Go.Sx.Ctx:=⟨eY,[(198,fa.sp k)],eqs,32,0,[],false⟩
theorem eE.a7 (k:Nat):bJ PR (eE.cx k):=bu bV bX (fC (fa.ok k) bG.nil) cJ.nil
theorem eE.cY (k:Nat) (a0:Int):bR (eE k a0) fun y=>wP (eE.cx k) eE.code (.pair T2 .unit) (a0,()) Tryz.f176 (.one (.dp T2)) y:=by unfold eE; exact oB fun y1 e2=>oF (fun e3=>oR fun h4=>oS (⟨[.res (.one (.dp (.arr 65 T2))) y1,tT],[],via (bE (aI (aI (aI (aI (aI (aI ay e2) (by decide:nz (256:Int))) (by decide:nz (256:Int))) e3) h4) h4) (.one (.dp T2)) ((el (0:Int) y1 (gg .i64 a0 256)):Int)) (by kernel_rfl)⟩)) (fun e3=>oR fun h5=>oR fun h6=>oS (⟨[.res (.one (.dp (.arr 65 T2))) y1,fF],[],via (bE (aI (aI (aI (aI (aI (aI (aI (aI (aI (aI (aI ay e2) (by decide:nz (256:Int))) (by decide:nz (256:Int))) e3) h5) h5) h6) h6) h5) h5) (by decide:nz (256:Int))) (.one (.dp T2)) ((aw .i64 (el (0:Int) y1 (gg .i64 a0 256)) (gg .i64 (aw .i64 (bQ .i64 (cE .i64 (el (0:Int) y1 (aw .i64 (gg .i64 a0 256) 1)) (el (0:Int) y1 (gg .i64 a0 256))) (fM a0 256)) 128) 256)):Int)) (by kernel_rfl)⟩))
theorem eE.ok (k:Nat):cS PR 176 (eE.sp k) := fK (eE.a7 k) Tryz.func176 (by kernel_rfl) (fun x=>by kernel_rfl) fun x y hy=>(eE.cY k x.1).ap hy
noncomputable def fB.code:Code:=Func.cd Tryz.f121
def fB (k:Nat) (a0:Int):Option Int := aP (gK (gg .i64 (cH .and .i64 a0 65535) 16384) 0) (bq (eE k (fM (cH .and .i64 a0 65535) 16384)) fun y2=>some y2) (aP (gK (gg .i64 (cH .and .i64 a0 65535) 16384) 1) (bq (eE k (cE .i64 16384 (fM (cH .and .i64 a0 65535) 16384))) fun y5=>some y5) (aP (gK (gg .i64 (cH .and .i64 a0 65535) 16384) 2) (bq (eE k (fM (cH .and .i64 a0 65535) 16384)) fun y8=>some (fV .i64 y8)) (bq (eE k (cE .i64 16384 (fM (cH .and .i64 a0 65535) 16384))) fun y10=>some (fV .i64 y10))))
noncomputable def fB.sp (k:Nat):Go.Sx.Spec:=⟨(.pair T2 .unit),(.one (.dp T2)),fun x=>fB k x.1,false⟩
noncomputable def fB.cx (k:Nat):Go.Sx.Ctx:=⟨eY,[(176,eE.sp k)],eqs,28,0,[],false⟩
theorem fB.a7 (k:Nat):bJ PR (fB.cx k):=bu bV bX (fC (eE.ok k) bG.nil) cJ.nil
theorem fB.cY (k:Nat) (a0:Int):bR (fB k a0) fun y=>wP (fB.cx k) fB.code (.pair T2 .unit) (a0,()) Tryz.f121 (.one (.dp T2)) y:=by unfold fB; exact oF (fun e1=>oB fun y2 e3=>oS (⟨[tT,rS T2 y2],[],via (bE (aI (aI (aI (aI ay (by decide:nz (16384:Int))) (by decide:nz (16384:Int))) e1) e3) (.one (.dp T2)) (y2:Int)) (by kernel_rfl)⟩)) (fun e1=>oF (fun e4=>oB fun y5 e6=>oS (⟨[fF,tT,rS T2 y5],[],via (bE (aI (aI (aI (aI (aI ay (by decide:nz (16384:Int))) (by decide:nz (16384:Int))) e1) e4) e6) (.one (.dp T2)) (y5:Int)) (by kernel_rfl)⟩)) (fun e4=>oF (fun e7=>oB fun y8 e9=>oS (⟨[fF,fF,tT,rS T2 y8],[],via (bE (aI (aI (aI (aI (aI (aI ay (by decide:nz (16384:Int))) (by decide:nz (16384:Int))) e1) e4) e7) e9) (.one (.dp T2)) ((fV .i64 y8):Int)) (by kernel_rfl)⟩)) (fun e7=>oB fun y10 e11=>oS (⟨[fF,fF,fF,rS T2 y10],[],via (bE (aI (aI (aI (aI (aI (aI ay (by decide:nz (16384:Int))) (by decide:nz (16384:Int))) e1) e4) e7) e11) (.one (.dp T2)) ((fV .i64 y10):Int)) (by kernel_rfl)⟩))))
theorem fB.ok (k:Nat):cS PR 121 (fB.sp k) := fK (fB.a7 k) Tryz.func121 (by kernel_rfl) (fun x=>by kernel_rfl) fun x y hy=>(fB.cY k x.1).ap hy
noncomputable def fW.code:Code:=Func.cd Tryz.f120
def fW (k:Nat) (a0:Int):Option Int := bq (fB k (aw .i64 (cH .and .i64 a0 65535) 16384)) fun y1=>some y1
noncomputable def fW.sp (k:Nat):Go.Sx.Spec:=⟨(.pair T2 .unit),(.one (.dp T2)),fun x=>fW k x.1,false⟩
noncomputable def fW.cx (k:Nat):Go.Sx.Ctx:=⟨eY,[(121,fB.sp k)],eqs,7,0,[],false⟩
theorem fW.a7 (k:Nat):bJ PR (fW.cx k):=bu bV bX (fC (fB.ok k) bG.nil) cJ.nil
theorem fW.cY (k:Nat) (a0:Int):bR (fW k a0) fun y=>wP (fW.cx k) fW.code (.pair T2 .unit) (a0,()) Tryz.f120 (.one (.dp T2)) y:=by unfold fW; exact oB fun y1 e2=>oS (⟨[rS T2 y1],[],via (bE (aI ay e2) (.one (.dp T2)) (y1:Int)) (by kernel_rfl)⟩)
theorem fW.ok (k:Nat):cS PR 120 (fW.sp k) := fK (fW.a7 k) Tryz.func120 (by kernel_rfl) (fun x=>by kernel_rfl) fun x y hy=>(fW.cY k x.1).ap hy
noncomputable def fx.code:Code:=Func.cd Tryz.f56
def fx (k:Nat) (a0:bm) (a1:Int):Option bm := bq (fW k a1) fun y1=>bq (fB k a1) fun y3=>bq (cL k a0.1 y1) fun y5=>bq (cL k a0.2.1 y3) fun y7=>bq (ec k y5 y7) fun y9=>bq (cL k a0.1 y3) fun y11=>bq (cL k a0.2.1 y1) fun y13=>bq (dB k y11 y13) fun y15=>some (y9,y15,())
noncomputable def fx.sp (k:Nat):Go.Sx.Spec:=⟨(.pair bN (.pair T2 .unit)),(.one (.dp bN)),fun x=>fx k x.1 x.2.1,false⟩
noncomputable def fx.cx (k:Nat):Go.Sx.Ctx:=⟨eY,[(120,fW.sp k),(121,fB.sp k),(51,cL.sp k),(122,ec.sp k),(119,dB.sp k)],eqs,30,0,[],false⟩
theorem fx.a7 (k:Nat):bJ PR (fx.cx k):=bu bV bX (fC (fW.ok k) (fC (fB.ok k) (fC (cL.ok k) (fC (ec.ok k) (fC (dB.ok k) bG.nil))))) cJ.nil
theorem fx.cY (k:Nat) (a0:bm) (a1:Int):bR (fx k a0 a1) fun y=>wP (fx.cx k) fx.code (.pair bN (.pair T2 .unit)) (a0,a1,()) Tryz.f56 (.one (.dp bN)) y:=by unfold fx; exact oB fun y1 e2=>oB fun y3 e4=>oB fun y5 e6=>oB fun y7 e8=>oB fun y9 e10=>oB fun y11 e12=>oB fun y13 e14=>oB fun y15 e16=>oS (⟨[rS T2 y1,rS T2 y3,rS T2 y5,rS T2 y7,rS T2 y9,rS T2 y11,rS T2 y13,rS T2 y15],[],via (bE (aI (aI (aI (aI (aI (aI (aI (aI ay e2) e4) e6) e8) e10) e12) e14) e16) (.one (.dp bN)) ((y9,y15,()):bm)) (by kernel_rfl)⟩)
theorem fx.ok (k:Nat):cS PR 56 (fx.sp k) := fK (fx.a7 k) Tryz.func56 (by kernel_rfl) (fun x=>by kernel_rfl) fun x y hy=>(fx.cY k x.1 x.2.1).ap hy
noncomputable def fI.code:Code:=Func.cd Tryz.f126
def fI (k:Nat) (a0:Int):Option Int := some (cP .u64 (imax a0 (fV .i64 a0)))
noncomputable def fI.sp (k:Nat):Go.Sx.Spec:=⟨(.pair T2 .unit),(.one (.dp dx)),fun x=>fI k x.1,false⟩
noncomputable def fI.cx (k:Nat):Go.Sx.Ctx:=⟨eY,[],eqs,8,0,[],false⟩
theorem fI.a7 (k:Nat):bJ PR (fI.cx k):=bu bV bX bG.nil cJ.nil
theorem fI.cY (k:Nat) (a0:Int):bR (fI k a0) fun y=>wP (fI.cx k) fI.code (.pair T2 .unit) (a0,()) Tryz.f126 (.one (.dp dx)) y:=by unfold fI; exact oS (⟨[],[],via (bE ay (.one (.dp dx)) ((cP .u64 (imax a0 (fV .i64 a0))):Int)) (by kernel_rfl)⟩)
theorem fI.ok (k:Nat):cS PR 126 (fI.sp k) := fK (fI.a7 k) Tryz.func126 (by kernel_rfl) (fun x=>by kernel_rfl) fun x y hy=>(fI.cY k x.1).ap hy
noncomputable def ez.code:Code:=Func.cd Tryz.f127
def ez (k:Nat) (a0 a1:Int):Option Int := bq (fI k a0) fun y1=>bq (fI k a0) fun y3=>bq (dv k y1 y3) fun y5=>bq (fI k a1) fun y7=>bq (fI k a1) fun y9=>bq (dv k y7 y9) fun y11=>bq (bits_Add64 k y5.2 y11.2 0) fun y13=>bq (bits_Add64 k y5.1 y11.1 y13.2) fun y15=>bq (bA k y15.1 y13.1) fun y17=>some (cP .i64 y17)
noncomputable def ez.sp (k:Nat):Go.Sx.Spec:=⟨bN,(.one (.dp T2)),fun x=>ez k x.1 x.2.1,false⟩
noncomputable def ez.cx (k:Nat):Go.Sx.Ctx:=⟨eY,[(126,fI.sp k),(145,dv.sp k),(177,bits_Add64.sp k),(178,bA.sp k)],eqs,46,0,[],false⟩
theorem ez.a7 (k:Nat):bJ PR (ez.cx k):=bu bV bX (fC (fI.ok k) (fC (dv.ok k) (fC (bits_Add64.ok k) (fC (bA.ok k) bG.nil)))) cJ.nil
theorem ez.cY (k:Nat) (a0 a1:Int):bR (ez k a0 a1) fun y=>∃ w c0,exec PR (ez.cx k) ez.code 0 (entry bN (a0,a1,())).st w (l4 (ez.cx k) Tryz.f127 c0 (.one (.dp T2)) y):=by unfold ez; exact oB fun y1 e2=>oB fun y3 e4=>oB fun y5 e6=>oB fun y7 e8=>oB fun y9 e10=>oB fun y11 e12=>oB fun y13 e14=>oB fun y15 e16=>oB fun y17 e18=>oS (⟨[rS dx y1,rS dx y3,.res (.more (.dp dx) (.one (.dp dx))) y5,rS dx y7,rS dx y9,.res (.more (.dp dx) (.one (.dp dx))) y11,.res (.more (.dp dx) (.one (.dp dx))) y13,.res (.more (.dp dx) (.one (.dp dx))) y15,rS dx y17],[],via (bE (aI (aI (aI (aI (aI (aI (aI (aI (aI ay e2) e4) e6) e8) e10) e12) e14) e16) e18) (.one (.dp T2)) ((cP .i64 y17):Int)) (by kernel_rfl)⟩)
theorem ez.ok (k:Nat):cS PR 127 (ez.sp k) := fK (ez.a7 k) Tryz.func127 (by kernel_rfl) (fun x=>by kernel_rfl) fun x y hy=>(ez.cY k x.1 x.2.1).ap hy
noncomputable def b8.code:Code:=Func.cd Tryz.f128
def b8.c1 (k:Nat) (a0 a1:Int):Option (Bool) := aP (eC (aw .i64 (bQ .i64 (bQ .i64 2 a0) 65536) a1) 0) (dH (nz (bQ .i64 2 a1)) <|some (ig (fM (aw .i64 (bQ .i64 (bQ .i64 2 a0) 65536) a1) (bQ .i64 2 a1)) 0)) (some false)
def b8 (k:Nat) (a0 a1:Int):Option Int := dH (nz (bQ .i64 2 a1)) <|bq (b8.c1 k a0 a1) fun o4=>aP o4 (some (cE .i64 (gg .i64 (aw .i64 (bQ .i64 (bQ .i64 2 a0) 65536) a1) (bQ .i64 2 a1)) 1)) (some (gg .i64 (aw .i64 (bQ .i64 (bQ .i64 2 a0) 65536) a1) (bQ .i64 2 a1)))
noncomputable def b8.sp (k:Nat):Go.Sx.Spec:=⟨bN,(.one (.dp T2)),fun x=>b8 k x.1 x.2.1,false⟩
noncomputable def b8.cx (k:Nat):Go.Sx.Ctx:=⟨eY,[],eqs,28,0,[],false⟩
theorem b8.a7 (k:Nat):bJ PR (b8.cx k):=bu bV bX bG.nil cJ.nil
noncomputable def b8.bD (a0 a1:Int):SL:=⟨[(1,(.val T2 a1)),(5,(.val T2 (aw .i64 (bQ .i64 (bQ .i64 2 a0) 65536) a1))),(6,(.val T2 (gg .i64 (aw .i64 (bQ .i64 (bQ .i64 2 a0) 65536) a1) (bQ .i64 2 a1))))],[]⟩
noncomputable def b8.cf (a0 a1:Int) (o:Bool):SL:=(fun v=>⟨[(6,(.val T2 (gg .i64 (aw .i64 (bQ .i64 (bQ .i64 2 a0) 65536) a1) (bQ .i64 2 a1)))),(24,(.val T4 v))],[]⟩) o
noncomputable def b8.fk (o:Bool):Ex:=(fun _=>.normal) o
noncomputable def b8.fm (o:Bool):Nat:=(fun _=>0) o
theorem b8.aW (k:Nat) (a0 a1:Int):bR (b8.c1 k a0 a1) fun o=>Triple PR (b8.cx k) (sub b8.code [1,1,1,0,0]) 0 (b8.bD a0 a1) (b8.fk o) (b8.fm o) (b8.cf a0 a1 o):=by unfold b8.c1; exact oF (fun e2=>oR fun h3=>oS (tW (b8.a7 k) hmix [tT,tT,tT,tT,tT,tT] [] [] (via (aL (aI (aI (aI (aI (aI (aI ay e2) e2) e2) (aI e2 h3)) e2) e2) .normal [] (b8.cf a0 a1 (ig (fM (aw .i64 (bQ .i64 (bQ .i64 2 a0) 65536) a1) (bQ .i64 2 a1)) 0))) (by kernel_rfl)))) (fun e2=>oS (tW (b8.a7 k) hmix [fF,fF,fF,fF,fF,fF] [] [] (via (aL (aI (aI (aI (aI (aI (aI ay e2) e2) e2) e2) e2) e2) .normal [] (b8.cf a0 a1 false)) (by kernel_rfl))))
theorem b8.cY (k:Nat) (a0 a1:Int):bR (b8 k a0 a1) fun y=>∃ w c0,exec PR (b8.cx k) b8.code 0 (entry bN (a0,a1,())).st w (l4 (b8.cx k) Tryz.f128 c0 (.one (.dp T2)) y):=by unfold b8; exact oR fun h1=>oB fun o4 e5=>oF (fun e6=>oS (⟨[.cutR 3 ⟨[],[],(b8.bD a0 a1),0,.normal,(b8.cf a0 a1 o4),0⟩,tT],[],via (bp (aI ay h1) [] (b8.bD a0 a1) (((b8.aW k a0 a1).ap e5)) (bE (aI ay e6) (.one (.dp T2)) ((cE .i64 (gg .i64 (aw .i64 (bQ .i64 (bQ .i64 2 a0) 65536) a1) (bQ .i64 2 a1)) 1):Int))) (by kernel_rfl)⟩)) (fun e6=>oS (⟨[.cutR 3 ⟨[],[],(b8.bD a0 a1),0,.normal,(b8.cf a0 a1 o4),0⟩,fF],[],via (bp (aI ay h1) [] (b8.bD a0 a1) (((b8.aW k a0 a1).ap e5)) (bE (aI ay e6) (.one (.dp T2)) ((gg .i64 (aw .i64 (bQ .i64 (bQ .i64 2 a0) 65536) a1) (bQ .i64 2 a1)):Int))) (by kernel_rfl)⟩))
theorem b8.ok (k:Nat):cS PR 128 (b8.sp k) := fK (b8.a7 k) Tryz.func128 (by kernel_rfl) (fun x=>by kernel_rfl) fun x y hy=>(b8.cY k x.1 x.2.1).ap hy
noncomputable def bW.code:Code:=Func.cd Tryz.f59
def bW.c1 (k:Nat) (y1 y3:Int):Option (Bool) := aP (gK y1 0) (some (gK y3 0)) (some false)
def bW.c2 (k:Nat):Nat→Int→Int→Option ((Int × Int)) | 0,_,_=>none | n+1,v9,v10=>bq (fI k v9) fun y11=>bq (fI k v10) fun y13=>aP (eC (imax y11 y13) 1073741824) (bW.c2 k n (bQ .i64 2 v9) (bQ .i64 2 v10)) (some (v9,v10))
def bW (k:Nat) (a0:bm):Option bm := bq (c9 k a0.1) fun y1=>bq (c9 k a0.2.1) fun y3=>bq (bW.c1 k y1 y3) fun o6=>aP o6 (some (0,0,())) (bq (bW.c2 k k y1 y3) fun o16=>bq (ez k o16.1 o16.2) fun y18=>bq (b8 k o16.1 y18) fun y20=>bq (b8 k o16.2 y18) fun y22=>some (y20,y22,()))
noncomputable def bW.sp (k:Nat):Go.Sx.Spec:=⟨(.pair bN .unit),(.one (.dp bN)),fun x=>bW k x.1,false⟩
noncomputable def bW.cx (k:Nat):Go.Sx.Ctx:=⟨eY,[(125,c9.sp k),(126,fI.sp k),(127,ez.sp k),(128,b8.sp k)],eqs,39,0,[],false⟩
theorem bW.a7 (k:Nat):bJ PR (bW.cx k):=bu bV bX (fC (c9.ok k) (fC (fI.ok k) (fC (ez.ok k) (fC (b8.ok k) bG.nil)))) cJ.nil
noncomputable def bW.bD (y1 y3:Int):SL:=⟨[(2,(pz 0 0 0)),(3,(.val T2 y1)),(4,(.val T2 y3))],[(0,.cells bN ((0:Int),(0:Int),()))]⟩
noncomputable def bW.cf (y1 y3:Int) (o:Bool):SL:=(fun v=>⟨[(2,(pz 0 0 0)),(3,(.val T2 y1)),(4,(.val T2 y3)),(17,(.val T4 v))],[(0,.cells bN ((0:Int),(0:Int),()))]⟩) o
noncomputable def bW.fk (o:Bool):Ex:=(fun _=>.normal) o
noncomputable def bW.fm (o:Bool):Nat:=(fun _=>1) o
theorem bW.aW (k:Nat) (y1 y3:Int):bR (bW.c1 k y1 y3) fun o=>Triple PR (bW.cx k) (sub bW.code [1,1,0,0]) 1 (bW.bD y1 y3) (bW.fk o) (bW.fm o) (bW.cf y1 y3 o):=by unfold bW.c1; exact oF (fun e5=>oS (tW (bW.a7 k) hmix [tT,tT,tT] [] [(0,0)] (via (aL (aI (aI (aI ay e5) e5) e5) .normal [(0,0)] (bW.cf y1 y3 (gK y3 0))) (by kernel_rfl)))) (fun e5=>oS (tW (bW.a7 k) hmix [fF,fF,fF] [] [(0,0)] (via (aL (aI (aI (aI ay e5) e5) e5) .normal [(0,0)] (bW.cf y1 y3 false)) (by kernel_rfl))))
noncomputable def bW.dd (v9 v10:Int):SL:=⟨[(2,(pz 0 0 0)),(3,(.val T2 v9)),(4,(.val T2 v10))],[(0,.cells bN ((0:Int),(0:Int),()))]⟩
noncomputable def bW.dw (o:(Int × Int)):SL:=(fun v=>⟨[(2,(pz 0 0 0)),(3,(.val T2 v.1)),(4,(.val T2 v.2))],[(0,.cells bN ((0:Int),(0:Int),()))]⟩) o
noncomputable def bW.gG (o:(Int × Int)):Ex:=(fun _=>(.exit 0)) o
noncomputable def bW.gF (o:(Int × Int)):Nat:=(fun _=>1) o
theorem bW.cm (k:Nat):∀ (n:Nat) (v9 v10:Int),bR (bW.c2 k n v9 v10) fun o=>bY PR (bW.cx k) (sub bW.code [1,1,1,0,0,0]) 1 (bW.dd v9 v10) (bW.gG o) (bW.gF o) (bW.dw o) | 0,_,_=>fun _ h=>nomatch h | n+1,v9,v10=>bR.of (bW.c2.eq_2 ..) (oB fun y11 e12=>oB fun y13 e14=>oF (fun e15=>fun y hy=>bh (bW.a7 k) hmix 1 (bW.dd (bQ .i64 2 v9) (bQ .i64 2 v10)) [rS dx y11,rS dx y13,tT] [] [(0,0)] (via (aL (aI (aI (aI ay e12) e14) e15) .normal [(0,0)] (bW.dd (bQ .i64 2 v9) (bQ .i64 2 v10))) (by kernel_rfl)) ((bW.cm k n (bQ .i64 2 v9) (bQ .i64 2 v10)).ap hy)) (fun e15=>oS (aR (bW.a7 k) hmix [rS dx y11,rS dx y13,fF] [] [(0,0)] (eH 0) (via (aL (aI (aI (aI ay e12) e14) e15) (.exit 0) [(0,0)] (bW.dw (v9,v10))) (by kernel_rfl)))))
theorem bW.cY (k:Nat) (a0:bm):bR (bW k a0) fun y=>wP (bW.cx k) bW.code (.pair bN .unit) (a0,()) Tryz.f59 (.one (.dp bN)) y:=by unfold bW; exact oB fun y1 e2=>oB fun y3 e4=>oB fun o6 e7=>oF (fun e8=>oS (⟨[rS T2 y1,rS T2 y3,.cutR 2 ⟨[],[(0,1)],(bW.bD y1 y3),1,.normal,(bW.cf y1 y3 o6),1⟩,tT],[],via (bp (aI (aI ay e2) e4) [(0,1)] (bW.bD y1 y3) (((bW.aW k y1 y3).ap e7)) (bE (aI ay e8) (.one (.dp bN)) (((0:Int),(0:Int),()):bm))) (by kernel_rfl)⟩)) (fun e8=>oB fun o16 e17=>oB fun y18 e19=>oB fun y20 e21=>oB fun y22 e23=>oS (⟨[rS T2 y1,rS T2 y3,.cutR 2 ⟨[],[(0,1)],(bW.bD y1 y3),1,.normal,(bW.cf y1 y3 o6),1⟩,fF,.cut ⟨[],[(0,0)],(bW.dd y1 y3),1,(.exit 0),(bW.dw o16),1⟩,rS T2 y18,rS T2 y20,rS T2 y22],[],via (bp (aI (aI ay e2) e4) [(0,1)] (bW.bD y1 y3) (((bW.aW k y1 y3).ap e7)) (bp (aI ay e8) [(0,0)] (bW.dd y1 y3) (((bW.cm k k y1 y3).ap e17).triple) (bE (aI (aI (aI ay e19) e21) e23) (.one (.dp bN)) ((y20,y22,()):bm)))) (by kernel_rfl)⟩))
theorem bW.ok (k:Nat):cS PR 59 (bW.sp k) := fK (bW.a7 k) Tryz.func59 (by kernel_rfl) (fun x=>by kernel_rfl) fun x y hy=>(bW.cY k x.1).ap hy
noncomputable def en.code:Code:=Func.cd Tryz.f101
def en (k:Nat) (a0 a1:bm):Option bm := bq (ec k a0.1 a1.1) fun y1=>bq (ec k a0.2.1 a1.2.1) fun y3=>some (y1,y3,())
noncomputable def en.sp (k:Nat):Go.Sx.Spec:=⟨eN,(.one (.dp bN)),fun x=>en k x.1 x.2.1,false⟩
noncomputable def en.cx (k:Nat):Go.Sx.Ctx:=⟨eY,[(122,ec.sp k)],eqs,16,0,[],false⟩
theorem en.a7 (k:Nat):bJ PR (en.cx k):=bu bV bX (fC (ec.ok k) bG.nil) cJ.nil
theorem en.cY (k:Nat) (a0 a1:bm):bR (en k a0 a1) fun y=>∃ w c0,exec PR (en.cx k) en.code 0 (entry eN (a0,a1,())).st w (l4 (en.cx k) Tryz.f101 c0 (.one (.dp bN)) y):=by unfold en; exact oB fun y1 e2=>oB fun y3 e4=>oS (⟨[rS T2 y1,rS T2 y3],[],via (bE (aI (aI ay e2) e4) (.one (.dp bN)) ((y1,y3,()):bm)) (by kernel_rfl)⟩)
theorem en.ok (k:Nat):cS PR 101 (en.sp k) := fK (en.a7 k) Tryz.func101 (by kernel_rfl) (fun x=>by kernel_rfl) fun x y hy=>(en.cY k x.1 x.2.1).ap hy
noncomputable def fJ.code:Code:=Func.cd Tryz.f103
def fJ (k:Nat) (a0:bm):Option Int := bq (c9 k a0.1) fun y1=>bq (c9 k a0.2.1) fun y3=>bq (ez k y1 y3) fun y5=>bq (c9 k y5) fun y7=>some y7
noncomputable def fJ.sp (k:Nat):Go.Sx.Spec:=⟨(.pair bN .unit),(.one (.dp T2)),fun x=>fJ k x.1,false⟩
noncomputable def fJ.cx (k:Nat):Go.Sx.Ctx:=⟨eY,[(125,c9.sp k),(127,ez.sp k)],eqs,11,0,[],false⟩
theorem fJ.a7 (k:Nat):bJ PR (fJ.cx k):=bu bV bX (fC (c9.ok k) (fC (ez.ok k) bG.nil)) cJ.nil
theorem fJ.cY (k:Nat) (a0:bm):bR (fJ k a0) fun y=>wP (fJ.cx k) fJ.code (.pair bN .unit) (a0,()) Tryz.f103 (.one (.dp T2)) y:=by unfold fJ; exact oB fun y1 e2=>oB fun y3 e4=>oB fun y5 e6=>oB fun y7 e8=>oS (⟨[rS T2 y1,rS T2 y3,rS T2 y5,rS T2 y7],[],via (bE (aI (aI (aI (aI ay e2) e4) e6) e8) (.one (.dp T2)) (y7:Int)) (by kernel_rfl)⟩)
theorem fJ.ok (k:Nat):cS PR 103 (fJ.sp k) := fK (fJ.a7 k) Tryz.func103 (by kernel_rfl) (fun x=>by kernel_rfl) fun x y hy=>(fJ.cY k x.1).ap hy
noncomputable def eo.code:Code:=Func.cd Tryz.f106
def eo (k:Nat) (a0:bm) (a1:Int):Option bm := bq (cL k a0.1 a1) fun y1=>bq (cL k a0.2.1 a1) fun y3=>some (y1,y3,())
noncomputable def eo.sp (k:Nat):Go.Sx.Spec:=⟨(.pair bN (.pair T2 .unit)),(.one (.dp bN)),fun x=>eo k x.1 x.2.1,false⟩
noncomputable def eo.cx (k:Nat):Go.Sx.Ctx:=⟨eY,[(51,cL.sp k)],eqs,14,0,[],false⟩
theorem eo.a7 (k:Nat):bJ PR (eo.cx k):=bu bV bX (fC (cL.ok k) bG.nil) cJ.nil
theorem eo.cY (k:Nat) (a0:bm) (a1:Int):bR (eo k a0 a1) fun y=>wP (eo.cx k) eo.code (.pair bN (.pair T2 .unit)) (a0,a1,()) Tryz.f106 (.one (.dp bN)) y:=by unfold eo; exact oB fun y1 e2=>oB fun y3 e4=>oS (⟨[rS T2 y1,rS T2 y3],[],via (bE (aI (aI ay e2) e4) (.one (.dp bN)) ((y1,y3,()):bm)) (by kernel_rfl)⟩)
theorem eo.ok (k:Nat):cS PR 106 (eo.sp k) := fK (eo.a7 k) Tryz.func106 (by kernel_rfl) (fun x=>by kernel_rfl) fun x y hy=>(eo.cY k x.1 x.2.1).ap hy
noncomputable def fA.code:Code:=Func.cd Tryz.f162
def fA (k:Nat) (a0 a1:bm):Option Int := bq (cL k a0.1 a1.1) fun y1=>bq (cL k a0.2.1 a1.2.1) fun y3=>bq (dB k y1 y3) fun y5=>some y5
noncomputable def fA.sp (k:Nat):Go.Sx.Spec:=⟨eN,(.one (.dp T2)),fun x=>fA k x.1 x.2.1,false⟩
noncomputable def fA.cx (k:Nat):Go.Sx.Ctx:=⟨eY,[(51,cL.sp k),(119,dB.sp k)],eqs,16,0,[],false⟩
theorem fA.a7 (k:Nat):bJ PR (fA.cx k):=bu bV bX (fC (cL.ok k) (fC (dB.ok k) bG.nil)) cJ.nil
theorem fA.cY (k:Nat) (a0 a1:bm):bR (fA k a0 a1) fun y=>∃ w c0,exec PR (fA.cx k) fA.code 0 (entry eN (a0,a1,())).st w (l4 (fA.cx k) Tryz.f162 c0 (.one (.dp T2)) y):=by unfold fA; exact oB fun y1 e2=>oB fun y3 e4=>oB fun y5 e6=>oS (⟨[rS T2 y1,rS T2 y3,rS T2 y5],[],via (bE (aI (aI (aI ay e2) e4) e6) (.one (.dp T2)) (y5:Int)) (by kernel_rfl)⟩)
theorem fA.ok (k:Nat):cS PR 162 (fA.sp k) := fK (fA.a7 k) Tryz.func162 (by kernel_rfl) (fun x=>by kernel_rfl) fun x y hy=>(fA.cY k x.1 x.2.1).ap hy
noncomputable def eT.code:Code:=Func.cd Tryz.f192
def eT (k:Nat) (a0 a1:bm):Option Int := bq (cL k a0.1 a1.2.1) fun y1=>bq (cL k a0.2.1 a1.1) fun y3=>bq (ec k y1 y3) fun y5=>some y5
noncomputable def eT.sp (k:Nat):Go.Sx.Spec:=⟨eN,(.one (.dp T2)),fun x=>eT k x.1 x.2.1,false⟩
noncomputable def eT.cx (k:Nat):Go.Sx.Ctx:=⟨eY,[(51,cL.sp k),(122,ec.sp k)],eqs,16,0,[],false⟩
theorem eT.a7 (k:Nat):bJ PR (eT.cx k):=bu bV bX (fC (cL.ok k) (fC (ec.ok k) bG.nil)) cJ.nil
theorem eT.cY (k:Nat) (a0 a1:bm):bR (eT k a0 a1) fun y=>∃ w c0,exec PR (eT.cx k) eT.code 0 (entry eN (a0,a1,())).st w (l4 (eT.cx k) Tryz.f192 c0 (.one (.dp T2)) y):=by unfold eT; exact oB fun y1 e2=>oB fun y3 e4=>oB fun y5 e6=>oS (⟨[rS T2 y1,rS T2 y3,rS T2 y5],[],via (bE (aI (aI (aI ay e2) e4) e6) (.one (.dp T2)) (y5:Int)) (by kernel_rfl)⟩)
theorem eT.ok (k:Nat):cS PR 192 (eT.sp k) := fK (eT.a7 k) Tryz.func192 (by kernel_rfl) (fun x=>by kernel_rfl) fun x y hy=>(eT.cY k x.1 x.2.1).ap hy
noncomputable def eb.code:Code:=Func.cd Tryz.f43
def eb (k:Nat) (a0:(List gu)):Option (List gu) := dH (jD 56 a0) <|some a0
noncomputable def eb.sp (k:Nat):Go.Sx.Spec:=⟨(.pair (.slice gQ) .unit),(.one (.ow gQ 73)),fun x=>eb k x.1,false⟩
noncomputable def eb.cx (k:Nat):Go.Sx.Ctx:=⟨eY,[],eqs,8,0,[],false⟩
theorem eb.a7 (k:Nat):bJ PR (eb.cx k):=bu bV bX bG.nil cJ.nil
theorem eb.cY (k:Nat) (a0:(List gu)):bR (eb k a0) fun y=>wP (eb.cx k) eb.code (.pair (.slice gQ) .unit) (a0,()) Tryz.f43 (.one (.ow gQ 73)) y:=by unfold eb; exact oR fun h1=>match a0,h1 with | [],h1=>oS (⟨[.fork [] [tT]],[.own 2 gQ 73],via (show (True→(True∧(True∧some (dS.row gQ ([]:(List gu)) 73)=some (dS.row gQ ([]:(List gu)) 73))))∧((True∧jD 56 ([]:(List gu)))∧(True∧some (dS.row gQ ([]:(List gu)) 73)=some (dS.row gQ ([]:(List gu)) 73))) from ⟨fun _=>⟨ay,ay,rfl⟩,⟨ay,h1⟩,ay,rfl⟩) (by kernel_rfl)⟩) | a :: l,h1=>oS (⟨[fF,tT],[.own 2 gQ 73],via (show ((True∧false=false)∧jD 56 (a :: l))∧(True∧some (dS.row gQ (a :: l:(List gu)) 73)=some (dS.row gQ (a :: l:(List gu)) 73)) from ⟨⟨⟨ay,rfl⟩,h1⟩,ay,rfl⟩) (by kernel_rfl)⟩)
theorem eb.ok (k:Nat):cS PR 43 (eb.sp k) := fK (eb.a7 k) Tryz.func43 (by kernel_rfl) (fun x=>by kernel_rfl) fun x y hy=>(eb.cY k x.1).ap hy
noncomputable def dt.code:Code:=Func.cd Tryz.f44
def dt (k:Nat) (a0:(List bK)):Option (List bK) := dH (jD 120 a0) <|some a0
noncomputable def dt.sp (k:Nat):Go.Sx.Spec:=⟨(.pair (.slice cK) .unit),(.one (.ow cK 43)),fun x=>dt k x.1,false⟩
noncomputable def dt.cx (k:Nat):Go.Sx.Ctx:=⟨eY,[],eqs,8,0,[],false⟩
theorem dt.a7 (k:Nat):bJ PR (dt.cx k):=bu bV bX bG.nil cJ.nil
theorem dt.cY (k:Nat) (a0:(List bK)):bR (dt k a0) fun y=>wP (dt.cx k) dt.code (.pair (.slice cK) .unit) (a0,()) Tryz.f44 (.one (.ow cK 43)) y:=by unfold dt; exact oR fun h1=>match a0,h1 with | [],h1=>oS (⟨[.fork [] [tT]],[.own 2 cK 43],via (show (True→(True∧(True∧some (dS.row cK ([]:(List bK)) 43)=some (dS.row cK ([]:(List bK)) 43))))∧((True∧jD 120 ([]:(List bK)))∧(True∧some (dS.row cK ([]:(List bK)) 43)=some (dS.row cK ([]:(List bK)) 43))) from ⟨fun _=>⟨ay,ay,rfl⟩,⟨ay,h1⟩,ay,rfl⟩) (by kernel_rfl)⟩) | a :: l,h1=>oS (⟨[fF,tT],[.own 2 cK 43],via (show ((True∧false=false)∧jD 120 (a :: l))∧(True∧some (dS.row cK (a :: l:(List bK)) 43)=some (dS.row cK (a :: l:(List bK)) 43)) from ⟨⟨⟨ay,rfl⟩,h1⟩,ay,rfl⟩) (by kernel_rfl)⟩)
theorem dt.ok (k:Nat):cS PR 44 (dt.sp k) := fK (dt.a7 k) Tryz.func44 (by kernel_rfl) (fun x=>by kernel_rfl) fun x y hy=>(dt.cY k x.1).ap hy
noncomputable def da.code:Code:=Func.cd Tryz.f95
def da (k:Nat) (a0:(List dA)):Option (List dA) := dH (jD 80 a0) <|some a0
noncomputable def da.sp (k:Nat):Go.Sx.Spec:=⟨(.pair (.slice dW) .unit),(.one (.ow dW 45)),fun x=>da k x.1,false⟩
noncomputable def da.cx (k:Nat):Go.Sx.Ctx:=⟨eY,[],eqs,8,0,[],false⟩
theorem da.a7 (k:Nat):bJ PR (da.cx k):=bu bV bX bG.nil cJ.nil
theorem da.cY (k:Nat) (a0:(List dA)):bR (da k a0) fun y=>wP (da.cx k) da.code (.pair (.slice dW) .unit) (a0,()) Tryz.f95 (.one (.ow dW 45)) y:=by unfold da; exact oR fun h1=>match a0,h1 with | [],h1=>oS (⟨[.fork [] [tT]],[.own 2 dW 45],via (show (True→(True∧(True∧some (dS.row dW ([]:(List dA)) 45)=some (dS.row dW ([]:(List dA)) 45))))∧((True∧jD 80 ([]:(List dA)))∧(True∧some (dS.row dW ([]:(List dA)) 45)=some (dS.row dW ([]:(List dA)) 45))) from ⟨fun _=>⟨ay,ay,rfl⟩,⟨ay,h1⟩,ay,rfl⟩) (by kernel_rfl)⟩) | a :: l,h1=>oS (⟨[fF,tT],[.own 2 dW 45],via (show ((True∧false=false)∧jD 80 (a :: l))∧(True∧some (dS.row dW (a :: l:(List dA)) 45)=some (dS.row dW (a :: l:(List dA)) 45)) from ⟨⟨⟨ay,rfl⟩,h1⟩,ay,rfl⟩) (by kernel_rfl)⟩)
theorem da.ok (k:Nat):cS PR 95 (da.sp k) := fK (da.a7 k) Tryz.func95 (by kernel_rfl) (fun x=>by kernel_rfl) fun x y hy=>(da.cY k x.1).ap hy
end Go.Proofs.T1
