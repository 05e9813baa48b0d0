import Derived.Test.YtipddonkkhjegaaGreatG0
import Derived.Test.YtipddonkkhjegaaGreatG1
noncomputable section
namespace Go.Proofs.T1
open Go Go.Sx Go.Proofs
set_option maxRecDepth 100000
set_option linter.unusedVariables false
def bt.code:Code:=Func.cd Tryz.f123
def bt.c1 (k:Nat) (a0 a1:gV):Option (Bool) := aM (eK a0.1 a1.1) (some true) (aM (gB a0.1 a1.1) (some (eK a0.2.1 a1.2.1)) (some false))
def bt (k:Nat) (a0 a1:gV):Option Int := aM (Ty.kY gg a0 a1) (some 0) (bB (bt.c1 k a0 a1) fun o4=>aM o4 (some (-1)) (some 1))
def bt.sp (k:Nat):Go.Sx.Spec:=⟨(.pair gg (.pair gg .unit)),(.one (.dp T2)),fun x=>bt k x.1 x.2.1,false⟩
def bt.cx (k:Nat):Go.Sx.Ctx:=⟨fX,[],eqs,29,0,[],false⟩
theorem bt.bf (k:Nat):b9 PR (bt.cx k):=bI cp cm bV.nil cX.nil
def bt.bH (a0 a1:gV):SL:=⟨[(2,(pz 0 0 0)),(3,(pz 1 0 0))],[(0,.cells gg a0),(1,.cells gg a1)]⟩
def bt.cy (o:Bool):SL:=(fun v=>⟨[(9,(.val T4 v))],[]⟩) o
def bt.fV (o:Bool):Ex:=(fun _=>.normal) o
def bt.fW (o:Bool):Nat:=(fun _=>0) o
theorem bt.aP (k:Nat) (a0 a1:gV):cj (bt.c1 k a0 a1) fun o=>Triple PR (bt.cx k) (sub bt.code [1,0,0,1,1,0]) 2 (bt.bH a0 a1) (bt.fV o) (bt.fW o) (bt.cy o):=by unfold bt.c1; exact oF (fun e2=>oS (tW (bt.bf k) hmix [tT,tT,tT,tT,tT,tT,tT,tT,tT,tT,tT,tT,tT,tT] [] [] (via (aT (aI (aI (aI (aI (aI (aI (aI (aI aK e2) e2) e2) e2) e2) e2) e2) e2) .normal [] (bt.cy true)) (by kernel_rfl)))) (fun e2=>oF (fun e3=>oS (tW (bt.bf k) hmix [fF,fF,fF,fF,fF,fF,tT,tT,tT,tT,tT,fF,tT,fF] [] [] (via (aT (aI (aI (aI (aI (aI (aI (aI (aI (aI (aI (aI (aI (aI aK e2) e2) e2) e2) e2) e2) e3) e3) e3) e3) e3) (aI e2 e3)) e2) .normal [] (bt.cy (eK a0.2.1 a1.2.1))) (by kernel_rfl)))) (fun e3=>oS (tW (bt.bf k) hmix [fF,fF,fF,fF,fF,fF,fF,fF,fF,fF,fF,fF,fF,fF] [] [] (via (aT (aI (aI (aI (aI (aI (aI (aI (aI (aI (aI (aI (aI (aI aK e2) e2) e2) e2) e2) e2) e3) e3) e3) e3) e3) (aI e2 e3)) e2) .normal [] (bt.cy false)) (by kernel_rfl)))))
theorem bt.di (k:Nat) (a0 a1:gV):cj (bt k a0 a1) fun y=>wP (bt.cx k) bt.code (.pair gg (.pair gg .unit)) (a0,a1,()) Tryz.f123 (.one (.dp T2)) y:=by unfold bt; exact oF (fun e1=>oS (⟨[tT],[],via (bM (aI aK e1) (.one (.dp T2)) ((0:Int):Int)) (by kernel_rfl)⟩)) (fun e1=>oB fun o4 e5=>oF (fun e6=>oS (⟨[fF,.cutR 3 ⟨[],[(0,0),(1,1)],(bt.bH a0 a1),2,.normal,(bt.cy o4),0⟩,tT],[],via (br (aI aK e1) [(0,0),(1,1)] (bt.bH a0 a1) (((bt.aP k a0 a1).ap e5)) (bM (aI aK e6) (.one (.dp T2)) ((-1:Int):Int))) (by kernel_rfl)⟩)) (fun e6=>oS (⟨[fF,.cutR 3 ⟨[],[(0,0),(1,1)],(bt.bH a0 a1),2,.normal,(bt.cy o4),0⟩,fF],[],via (br (aI aK e1) [(0,0),(1,1)] (bt.bH a0 a1) (((bt.aP k a0 a1).ap e5)) (bM (aI aK e6) (.one (.dp T2)) ((1:Int):Int))) (by kernel_rfl)⟩)))
theorem bt.ok (k:Nat):cT PR 123 (bt.sp k) := fK (bt.bf k) Tryz.func123 (by kernel_rfl) (fun x=>by kernel_rfl) fun x y hy=>(bt.di k x.1 x.2.1).ap hy
def bm.code:Code:=Func.cd Tryz.f71
def bm.c1 (k:Nat) (a0:(List ay)) (a1:ay):Nat→Int→Int→Option (Int) | 0,_,_=>none | n+1,v4,v5=>aM (eK v5 (len a0)) (dU (gi v5 a0) <|bB (fG k (el cH a0 v5) a1) fun y8=>dU (gi v4 a0) <|bB (fG k (el cH a0 v4) a1) fun y11=>bB (bt k y8 y11) fun y13=>aM (kZ y13 0) (bm.c1 k a0 a1 n v5 (ao .i64 v5 1)) (bm.c1 k a0 a1 n v4 (ao .i64 v5 1))) (some v4)
def bm (k:Nat) (a0:(List ay)) (a1:ay):Option Int := bB (aA k a0) fun y1=>aM (j8 y1 0) (some (-1)) (bB (bm.c1 k a0 a1 k 0 0) fun o16=>some o16)
def bm.sp (k:Nat):Go.Sx.Spec:=⟨(.pair dy (.pair bE .unit)),(.one (.dp T2)),fun x=>bm k x.1 x.2.1,false⟩
def bm.cx (k:Nat):Go.Sx.Ctx:=⟨fX,[(121,aA.sp k),(122,fG.sp k),(123,bt.sp k)],eqs,32,0,[],false⟩
theorem bm.bf (k:Nat):b9 PR (bm.cx k):=bI cp cm (fC (aA.ok k) (fC (fG.ok k) (fC (bt.ok k) bV.nil))) cX.nil
def bm.bH (a0:(List ay)) (a1:ay) (v4 v5:Int):SL:=⟨[(0,(.val dy a0)),(3,(pz 0 0 0)),(5,(.val T2 v4)),(11,(.val dy a0)),(12,(.val T2 (len a0))),(13,(.val T2 v5))],[(0,.cells bE a1)]⟩
def bm.cy (o:Int):SL:=(fun v=>⟨[(5,(.val T2 v))],[]⟩) o
def bm.fV (o:Int):Ex:=(fun _=>(.exit 0)) o
def bm.fW (o:Int):Nat:=(fun _=>0) o
theorem bm.aP (k:Nat) (a0:(List ay)) (a1:ay):∀ (n:Nat) (v4 v5:Int),cj (bm.c1 k a0 a1 n v4 v5) fun o=>ck PR (bm.cx k) (sub bm.code [1,1,1,0,1,0,0]) 1 (bm.bH a0 a1 v4 v5) (bm.fV o) (bm.fW o) (bm.cy o) | 0,_,_=>fun _ h=>nomatch h | n+1,v4,v5=>cj.of (bm.c1.eq_2 ..) (oF (fun e6=>oR fun h7=>oB fun y8 e9=>oR fun h10=>oB fun y11 e12=>oB fun y13 e14=>oF (fun e15=>fun y hy=>bc (bm.bf k) hmix 1 (bm.bH a0 a1 v5 (ao .i64 v5 1)) [tT,rS gg y8,rS gg y11,rS T2 y13,tT] [] [(0,0)] (via (aT (aI (aI (aI (aI (aI (aI (aI aK e6) h7) e9) h10) e12) e14) e15) .normal [(0,0)] (bm.bH a0 a1 v5 (ao .i64 v5 1))) (by kernel_rfl)) ((bm.aP k a0 a1 n v5 (ao .i64 v5 1)).ap hy)) (fun e15=>fun y hy=>bc (bm.bf k) hmix 1 (bm.bH a0 a1 v4 (ao .i64 v5 1)) [tT,rS gg y8,rS gg y11,rS T2 y13,fF] [] [(0,0)] (via (aT (aI (aI (aI (aI (aI (aI (aI aK e6) h7) e9) h10) e12) e14) e15) .normal [(0,0)] (bm.bH a0 a1 v4 (ao .i64 v5 1))) (by kernel_rfl)) ((bm.aP k a0 a1 n v4 (ao .i64 v5 1)).ap hy))) (fun e6=>oS (aO (bm.bf k) hmix [fF] [] [] (fq 0) (via (aT (aI aK e6) (.exit 0) [] (bm.cy v4)) (by kernel_rfl)))))
theorem bm.di (k:Nat) (a0:(List ay)) (a1:ay):cj (bm k a0 a1) fun y=>wP (bm.cx k) bm.code (.pair dy (.pair bE .unit)) (a0,a1,()) Tryz.f71 (.one (.dp T2)) y:=by unfold bm; exact oB fun y1 e2=>oF (fun e3=>oS (⟨[rS T2 y1,tT],[],via (bM (aI (aI aK e2) e3) (.one (.dp T2)) ((-1:Int):Int)) (by kernel_rfl)⟩)) (fun e3=>oB fun o16 e17=>oS (⟨[rS T2 y1,fF,.cut ⟨[],[(0,0)],(bm.bH a0 a1 (0:Int) (0:Int)),1,(.exit 0),(bm.cy o16),0⟩],[],via (br (aI (aI aK e2) e3) [(0,0)] (bm.bH a0 a1 (0:Int) (0:Int)) (((bm.aP k a0 a1 k (0:Int) (0:Int)).ap e17).triple) (bM aK (.one (.dp T2)) (o16:Int))) (by kernel_rfl)⟩))
theorem bm.ok (k:Nat):cT PR 71 (bm.sp k) := fK (bm.bf k) Tryz.func71 (by kernel_rfl) (fun x=>by kernel_rfl) fun x y hy=>(bm.di k x.1 x.2.1).ap hy
def bw.code:Code:=Func.cd Tryz.f137
def bw.c1 (k:Nat) (a0:(List ay)) (a1:ay):Option (Bool) := bB (aA k a0) fun y1=>aM (j8 y1 0) (some true) (bB (dN k a1) fun y4=>some (!y4))
def bw.c2 (k:Nat) (a0:(List ay)) (a1:ay):Nat→Int→Option (Unit ⊕ Unit) | 0,_=>none | n+1,v9=>aM (eK v9 (len a0)) (dU (gi v9 a0) <|dU (nz (len a0)) <|dU (gi (en (ao .i64 v9 1) (len a0)) a0) <|bB (eI k (el cH a0 v9) (el cH a0 (en (ao .i64 v9 1) (len a0))) a1) fun y14=>aM (eK y14 0) (some (.inl ())) (bw.c2 k a0 a1 n (ao .i64 v9 1))) (some (.inr ()))
def bw (k:Nat) (a0:(List ay)) (a1:ay):Option Bool := bB (bw.c1 k a0 a1) fun o6=>aM o6 (some false) (bB (bw.c2 k a0 a1 k 0) fun o17=>two o17 (fun y19=>some false) (fun y21=>some true))
def bw.sp (k:Nat):Go.Sx.Spec:=⟨(.pair dy (.pair bE .unit)),(.one (.dp T4)),fun x=>bw k x.1 x.2.1,false⟩
def bw.cx (k:Nat):Go.Sx.Ctx:=⟨fX,[(121,aA.sp k),(162,dN.sp k),(163,eI.sp k)],eqs,35,0,[],false⟩
theorem bw.bf (k:Nat):b9 PR (bw.cx k):=bI cp cm (fC (aA.ok k) (fC (dN.ok k) (fC (eI.ok k) bV.nil))) cX.nil
def bw.bH (a0:(List ay)) (a1:ay):SL:=⟨[(0,(.val dy a0)),(3,(pz 0 0 0))],[(0,.cells bE a1)]⟩
def bw.cy (a0:(List ay)) (a1:ay) (o:Bool):SL:=(fun v=>⟨[(0,(.val dy a0)),(3,(pz 0 0 0)),(14,(.val T4 v))],[(0,.cells bE a1)]⟩) o
def bw.fV (o:Bool):Ex:=(fun _=>.normal) o
def bw.fW (o:Bool):Nat:=(fun _=>1) o
theorem bw.aP (k:Nat) (a0:(List ay)) (a1:ay):cj (bw.c1 k a0 a1) fun o=>Triple PR (bw.cx k) (sub bw.code [1,0,0]) 1 (bw.bH a0 a1) (bw.fV o) (bw.fW o) (bw.cy a0 a1 o):=by unfold bw.c1; exact oB fun y1 e2=>oF (fun e3=>oS (tW (bw.bf k) hmix [rS T2 y1,tT,tT,tT,tT,tT] [] [(0,0)] (via (aT (aI (aI (aI (aI (aI aK e2) e3) e3) e3) e3) .normal [(0,0)] (bw.cy a0 a1 true)) (by kernel_rfl)))) (fun e3=>oB fun y4 e5=>oS (tW (bw.bf k) hmix [rS T2 y1,fF,fF,rS T4 y4,fF,fF] [] [(0,0)] (via (aT (aI (aI (aI (aI (aI aK e2) e3) (aI e3 e5)) e3) e3) .normal [(0,0)] (bw.cy a0 a1 (!y4))) (by kernel_rfl))))
def bw.du (a0:(List ay)) (a1:ay) (v9:Int):SL:=⟨[(0,(.val dy a0)),(3,(pz 0 0 0)),(15,(.val dy a0)),(16,(.val T2 (len a0))),(17,(.val T2 v9))],[(0,.cells bE a1)]⟩
def bw.dS (o:Unit ⊕ Unit):SL:=(fun o=>two o (fun v=>⟨[(4,(.val T4 false))],[]⟩) (fun v=>⟨[],[]⟩)) o
def bw.iy (o:Unit ⊕ Unit):Ex:=(fun o=>two o (fun _=>.ret) (fun _=>(.exit 0))) o
def bw.iA (o:Unit ⊕ Unit):Nat:=(fun o=>two o (fun _=>0) (fun _=>0)) o
theorem bw.cC (k:Nat) (a0:(List ay)) (a1:ay):∀ (n:Nat) (v9:Int),cj (bw.c2 k a0 a1 n v9) fun o=>ck PR (bw.cx k) (sub bw.code [1,1,0,1,0,0]) 1 (bw.du a0 a1 v9) (bw.iy o) (bw.iA o) (bw.dS o) | 0,_=>fun _ h=>nomatch h | n+1,v9=>cj.of (bw.c2.eq_2 ..) (oF (fun e10=>oR fun h11=>oR fun h12=>oR fun h13=>oB fun y14 e15=>oF (fun e16=>oS (aO (bw.bf k) hmix [tT,rS T2 y14,tT] [] [] dQ (via (aT (aI (aI (aI (aI (aI (aI aK e10) h11) h12) h13) e15) e16) .ret [] (bw.dS (.inl ()))) (by kernel_rfl)))) (fun e16=>fun y hy=>bc (bw.bf k) hmix 1 (bw.du a0 a1 (ao .i64 v9 1)) [tT,rS T2 y14,fF] [] [(0,0)] (via (aT (aI (aI (aI (aI (aI (aI aK e10) h11) h12) h13) e15) e16) .normal [(0,0)] (bw.du a0 a1 (ao .i64 v9 1))) (by kernel_rfl)) ((bw.cC k a0 a1 n (ao .i64 v9 1)).ap hy))) (fun e10=>oS (aO (bw.bf k) hmix [fF] [] [] (fq 0) (via (aT (aI aK e10) (.exit 0) [] (bw.dS (.inr ()))) (by kernel_rfl)))))
theorem bw.di (k:Nat) (a0:(List ay)) (a1:ay):cj (bw k a0 a1) fun y=>wP (bw.cx k) bw.code (.pair dy (.pair bE .unit)) (a0,a1,()) Tryz.f137 (.one (.dp T4)) y:=by unfold bw; exact oB fun o6 e7=>oF (fun e8=>oS (⟨[.cutR 1 ⟨[],[(0,0)],(bw.bH a0 a1),1,.normal,(bw.cy a0 a1 o6),1⟩,tT],[],via (br aK [(0,0)] (bw.bH a0 a1) (((bw.aP k a0 a1).ap e7)) (bM (aI aK e8) (.one (.dp T4)) (false:Bool))) (by kernel_rfl)⟩)) (fun e8=>oB fun o17 e18=>cj.two (fun y19 e20=>oS (⟨[.cutR 1 ⟨[],[(0,0)],(bw.bH a0 a1),1,.normal,(bw.cy a0 a1 o6),1⟩,fF,.cut ⟨[],[(0,0)],(bw.du a0 a1 (0:Int)),1,.ret,(bw.dS (.inl ())),0⟩],[],via (br aK [(0,0)] (bw.bH a0 a1) (((bw.aP k a0 a1).ap e7)) (br (aI aK e8) [(0,0)] (bw.du a0 a1 (0:Int)) (((bw.cC k a0 a1 k (0:Int)).ap (e18.trans (congrArg some e20))).triple) (bM aK (.one (.dp T4)) (false:Bool)))) (by kernel_rfl)⟩)) (fun y21 e22=>oS (⟨[.cutR 1 ⟨[],[(0,0)],(bw.bH a0 a1),1,.normal,(bw.cy a0 a1 o6),1⟩,fF,.cut ⟨[],[(0,0)],(bw.du a0 a1 (0:Int)),1,(.exit 0),(bw.dS (.inr ())),0⟩],[],via (br aK [(0,0)] (bw.bH a0 a1) (((bw.aP k a0 a1).ap e7)) (br (aI aK e8) [(0,0)] (bw.du a0 a1 (0:Int)) (((bw.cC k a0 a1 k (0:Int)).ap (e18.trans (congrArg some e22))).triple) (bM aK (.one (.dp T4)) (true:Bool)))) (by kernel_rfl)⟩)))
theorem bw.ok (k:Nat):cT PR 137 (bw.sp k) := fK (bw.bf k) Tryz.func137 (by kernel_rfl) (fun x=>by kernel_rfl) fun x y hy=>(bw.di k x.1 x.2.1).ap hy
def cY.code:Code:=Func.cd Tryz.f147
def cY (k:Nat) (a0:Int):Option Int := some (gd (imax a0 (-1099511627776)) 1099511627776)
def cY.sp (k:Nat):Go.Sx.Spec:=⟨(.pair T2 .unit),(.one (.dp T2)),fun x=>cY k x.1,false⟩
def cY.cx (k:Nat):Go.Sx.Ctx:=⟨fX,[],eqs,6,0,[],false⟩
theorem cY.bf (k:Nat):b9 PR (cY.cx k):=bI cp cm bV.nil cX.nil
theorem cY.di (k:Nat) (a0:Int):cj (cY k a0) fun y=>wP (cY.cx k) cY.code (.pair T2 .unit) (a0,()) Tryz.f147 (.one (.dp T2)) y:=by unfold cY; exact oS (⟨[],[],via (bM aK (.one (.dp T2)) ((gd (imax a0 (-1099511627776:Int)) (1099511627776:Int)):Int)) (by kernel_rfl)⟩)
theorem cY.ok (k:Nat):cT PR 147 (cY.sp k) := fK (cY.bf k) Tryz.func147 (by kernel_rfl) (fun x=>by kernel_rfl) fun x y hy=>(cY.di k x.1).ap hy
def fE.code:Code:=Func.cd Tryz.f105
def fE (k:Nat) (a0 a1:Int):Option Int := bB (cY k a0) fun y1=>bB (cY k a1) fun y3=>bB (cY k (ao .i64 y1 y3)) fun y5=>some y5
def fE.sp (k:Nat):Go.Sx.Spec:=⟨bE,(.one (.dp T2)),fun x=>fE k x.1 x.2.1,false⟩
def fE.cx (k:Nat):Go.Sx.Ctx:=⟨fX,[(147,cY.sp k)],eqs,11,0,[],false⟩
theorem fE.bf (k:Nat):b9 PR (fE.cx k):=bI cp cm (fC (cY.ok k) bV.nil) cX.nil
theorem fE.di (k:Nat) (a0 a1:Int):cj (fE k a0 a1) fun y=>∃ w c0,exec PR (fE.cx k) fE.code 0 (entry bE (a0,a1,())).st w (uA (fE.cx k) Tryz.f105 c0 (.one (.dp T2)) y):=by unfold fE; exact oB fun y1 e2=>oB fun y3 e4=>oB fun y5 e6=>oS (⟨[rS T2 y1,rS T2 y3,rS T2 y5],[],via (bM (aI (aI (aI aK e2) e4) e6) (.one (.dp T2)) (y5:Int)) (by kernel_rfl)⟩)
theorem fE.ok (k:Nat):cT PR 105 (fE.sp k) := fK (fE.bf k) Tryz.func105 (by kernel_rfl) (fun x=>by kernel_rfl) fun x y hy=>(fE.di k x.1 x.2.1).ap hy
def gA.code:Code:=Func.cd Tryz.f190
def gA (k:Nat) (a0:Int):Option Int := aM (eK a0 0) (some (cF .u64 (fk .i64 a0))) (some (cF .u64 a0))
def gA.sp (k:Nat):Go.Sx.Spec:=⟨(.pair T2 .unit),(.one (.dp dD)),fun x=>gA k x.1,false⟩
def gA.cx (k:Nat):Go.Sx.Ctx:=⟨fX,[],eqs,10,0,[],false⟩
theorem gA.bf (k:Nat):b9 PR (gA.cx k):=bI cp cm bV.nil cX.nil
theorem gA.di (k:Nat) (a0:Int):cj (gA k a0) fun y=>wP (gA.cx k) gA.code (.pair T2 .unit) (a0,()) Tryz.f190 (.one (.dp dD)) y:=by unfold gA; exact oF (fun e1=>oS (⟨[tT],[],via (bM (aI aK e1) (.one (.dp dD)) ((cF .u64 (fk .i64 a0)):Int)) (by kernel_rfl)⟩)) (fun e1=>oS (⟨[fF],[],via (bM (aI aK e1) (.one (.dp dD)) ((cF .u64 a0):Int)) (by kernel_rfl)⟩))
theorem gA.ok (k:Nat):cT PR 190 (gA.sp k) := fK (gA.bf k) Tryz.func190 (by kernel_rfl) (fun x=>by kernel_rfl) fun x y hy=>(gA.di k x.1).ap hy
def aq.code:Code:=Func.cd Tryz.f152
def aq.c1 (k:Nat) (y1 y3:Int):Option (Bool) := aM (eK y3 0) (some (!(eK y1 0))) (some (eK y1 0))
def aq.c2 (k:Nat) (o9:Bool) (y5:Int):Option (Bool) := aM (eK y5 0) (some (!o9)) (some o9)
def aq.c3 (k:Nat) (y24:(Int × Int)):Option ((Int × Int)) := aM (kZ y24.1 1099511627776) (some (1099511627777,0)) (some (y24.1,y24.2))
def aq.c4 (k:Nat) (o27:(Int × Int)) (y14:Int):Option (Int) := aM (kZ o27.2 (bY .u64 y14 o27.2)) (some (ao .i64 (cF .i64 o27.1) 1)) (some (cF .i64 o27.1))
def aq.c5 (k:Nat) (o27:(Int × Int)) (y14:Int):Option (Int) := aM (hG o27.2 (bY .u64 y14 o27.2)) (some (ao .i64 (cF .i64 o27.1) 1)) (some (cF .i64 o27.1))
def aq (k:Nat) (a0 a1 a2:Int):Option Int := bB (cY k a0) fun y1=>bB (cY k a1) fun y3=>bB (cY k a2) fun y5=>aM (gB y5 0) (some 0) (bB (aq.c1 k y1 y3) fun o9=>bB (aq.c2 k o9 y5) fun o12=>bB (gA k y5) fun y14=>bB (gA k y1) fun y16=>bB (gA k y3) fun y18=>bB (dq k y16 y18) fun y20=>aM (hG y20.1 y14) (aM o12 (some (-1099511627776)) (some 1099511627776)) (bB (ax k y20.1 y20.2 y14) fun y24=>bB (aq.c3 k y24) fun o27=>aM o12 (bB (aq.c4 k o27 y14) fun o31=>bB (cY k (fk .i64 o31)) fun y33=>some y33) (bB (aq.c5 k o27 y14) fun o36=>bB (cY k o36) fun y38=>some y38)))
def aq.sp (k:Nat):Go.Sx.Spec:=⟨(.pair T2 bE),(.one (.dp T2)),fun x=>aq k x.1 x.2.1 x.2.2.1,false⟩
def aq.cx (k:Nat):Go.Sx.Ctx:=⟨fX,[(147,cY.sp k),(190,gA.sp k),(116,dq.sp k),(118,ax.sp k)],eqs,78,0,[],false⟩
theorem aq.bf (k:Nat):b9 PR (aq.cx k):=bI cp cm (fC (cY.ok k) (fC (gA.ok k) (fC (dq.ok k) (fC (ax.ok k) bV.nil)))) cX.nil
def aq.bH (y1 y3 y5:Int):SL:=⟨[(0,(.val T2 y1)),(1,(.val T2 y3)),(2,(.val T2 y5)),(7,(.val T4 (eK y1 0))),(25,(.val T4 (eK y3 0)))],[]⟩
def aq.cy (y1 y3 y5:Int) (o:Bool):SL:=(fun v=>⟨[(0,(.val T2 y1)),(1,(.val T2 y3)),(2,(.val T2 y5)),(7,(.val T4 v))],[]⟩) o
def aq.fV (o:Bool):Ex:=(fun _=>.normal) o
def aq.fW (o:Bool):Nat:=(fun _=>0) o
theorem aq.aP (k:Nat) (y1 y3 y5:Int):cj (aq.c1 k y1 y3) fun o=>Triple PR (aq.cx k) (sub aq.code [1,1,1,1,0,1]) 0 (aq.bH y1 y3 y5) (aq.fV o) (aq.fW o) (aq.cy y1 y3 y5 o):=by unfold aq.c1; exact oF (fun e8=>oS (tW (aq.bf k) hmix [tT] [] [] (via (aT (aI aK e8) .normal [] (aq.cy y1 y3 y5 (!(eK y1 0)))) (by kernel_rfl)))) (fun e8=>oS (tW (aq.bf k) hmix [fF] [] [] (via (aT (aI aK e8) .normal [] (aq.cy y1 y3 y5 (eK y1 0))) (by kernel_rfl))))
def aq.du (o9:Bool) (y1 y3 y5:Int):SL:=⟨[(0,(.val T2 y1)),(1,(.val T2 y3)),(2,(.val T2 y5)),(7,(.val T4 o9)),(29,(.val T4 (eK y5 0)))],[]⟩
def aq.dS (y1 y3 y5:Int) (o:Bool):SL:=(fun v=>⟨[(0,(.val T2 y1)),(1,(.val T2 y3)),(2,(.val T2 y5)),(7,(.val T4 v))],[]⟩) o
def aq.iy (o:Bool):Ex:=(fun _=>.normal) o
def aq.iA (o:Bool):Nat:=(fun _=>0) o
theorem aq.cC (k:Nat) (o9:Bool) (y1 y3 y5:Int):cj (aq.c2 k o9 y5) fun o=>Triple PR (aq.cx k) (sub aq.code [1,1,1,1,1,0,1]) 0 (aq.du o9 y1 y3 y5) (aq.iy o) (aq.iA o) (aq.dS y1 y3 y5 o):=by unfold aq.c2; exact oF (fun e11=>oS (tW (aq.bf k) hmix [tT] [] [] (via (aT (aI aK e11) .normal [] (aq.dS y1 y3 y5 (!o9))) (by kernel_rfl)))) (fun e11=>oS (tW (aq.bf k) hmix [fF] [] [] (via (aT (aI aK e11) .normal [] (aq.dS y1 y3 y5 o9)) (by kernel_rfl))))
def aq.fU (o12:Bool) (y14:Int) (y24:(Int × Int)):SL:=⟨[(7,(.val T4 o12)),(8,(.val dD y14)),(11,(.val dD y24.1)),(12,(.val dD y24.2)),(54,(.val T4 (kZ y24.1 1099511627776)))],[]⟩
def aq.gp (o12:Bool) (y14:Int) (o:(Int × Int)):SL:=(fun v=>⟨[(7,(.val T4 o12)),(8,(.val dD y14)),(11,(.val dD v.1)),(12,(.val dD v.2))],[]⟩) o
def aq.kE (o:(Int × Int)):Ex:=(fun _=>.normal) o
def aq.kv (o:(Int × Int)):Nat:=(fun _=>0) o
theorem aq.dW (k:Nat) (o12:Bool) (y14:Int) (y24:(Int × Int)):cj (aq.c3 k y24) fun o=>Triple PR (aq.cx k) (sub aq.code [1,1,1,1,1,1,1,1,1,1,0,1]) 0 (aq.fU o12 y14 y24) (aq.kE o) (aq.kv o) (aq.gp o12 y14 o):=by unfold aq.c3; exact oF (fun e26=>oS (tW (aq.bf k) hmix [tT] [] [] (via (aT (aI aK e26) .normal [] (aq.gp o12 y14 ((1099511627777:Int),(0:Int)))) (by kernel_rfl)))) (fun e26=>oS (tW (aq.bf k) hmix [fF] [] [] (via (aT (aI aK e26) .normal [] (aq.gp o12 y14 (y24.1,y24.2))) (by kernel_rfl))))
def aq.ig (o27:(Int × Int)) (y14:Int):SL:=⟨[(13,(.val T2 (cF .i64 o27.1))),(72,(.val T4 (kZ o27.2 (bY .u64 y14 o27.2))))],[]⟩
def aq.iq (o:Int):SL:=(fun v=>⟨[(13,(.val T2 v))],[]⟩) o
def aq.qS (o:Int):Ex:=(fun _=>.normal) o
def aq.q8 (o:Int):Nat:=(fun _=>0) o
theorem aq.gh (k:Nat) (o27:(Int × Int)) (y14:Int):cj (aq.c4 k o27 y14) fun o=>Triple PR (aq.cx k) (sub aq.code [1,1,1,1,1,1,1,1,1,1,1,1,1,0,1]) 0 (aq.ig o27 y14) (aq.qS o) (aq.q8 o) (aq.iq o):=by unfold aq.c4; exact oF (fun e30=>oS (tW (aq.bf k) hmix [tT] [] [] (via (aT (aI aK e30) .normal [] (aq.iq (ao .i64 (cF .i64 o27.1) 1))) (by kernel_rfl)))) (fun e30=>oS (tW (aq.bf k) hmix [fF] [] [] (via (aT (aI aK e30) .normal [] (aq.iq (cF .i64 o27.1))) (by kernel_rfl))))
def aq.mz (o27:(Int × Int)) (y14:Int):SL:=⟨[(13,(.val T2 (cF .i64 o27.1))),(63,(.val T4 (hG o27.2 (bY .u64 y14 o27.2))))],[]⟩
def aq.lN (o:Int):SL:=(fun v=>⟨[(13,(.val T2 v))],[]⟩) o
def aq.Di (o:Int):Ex:=(fun _=>.normal) o
def aq.Dx (o:Int):Nat:=(fun _=>0) o
theorem aq.jA (k:Nat) (o27:(Int × Int)) (y14:Int):cj (aq.c5 k o27 y14) fun o=>Triple PR (aq.cx k) (sub aq.code [1,1,1,1,1,1,1,1,1,1,1,1,0,1,0,0,1]) 0 (aq.mz o27 y14) (aq.Di o) (aq.Dx o) (aq.lN o):=by unfold aq.c5; exact oF (fun e35=>oS (tW (aq.bf k) hmix [tT] [] [] (via (aT (aI aK e35) .normal [] (aq.lN (ao .i64 (cF .i64 o27.1) 1))) (by kernel_rfl)))) (fun e35=>oS (tW (aq.bf k) hmix [fF] [] [] (via (aT (aI aK e35) .normal [] (aq.lN (cF .i64 o27.1))) (by kernel_rfl))))
theorem aq.di (k:Nat) (a0 a1 a2:Int):cj (aq k a0 a1 a2) fun y=>wP (aq.cx k) aq.code (.pair T2 bE) (a0,a1,a2,()) Tryz.f152 (.one (.dp T2)) y:=by unfold aq; exact oB fun y1 e2=>oB fun y3 e4=>oB fun y5 e6=>oF (fun e7=>oS (⟨[rS T2 y1,rS T2 y3,rS T2 y5,tT],[],via (bM (aI (aI (aI (aI aK e2) e4) e6) e7) (.one (.dp T2)) ((0:Int):Int)) (by kernel_rfl)⟩)) (fun e7=>oB fun o9 e10=>oB fun o12 e13=>oB fun y14 e15=>oB fun y16 e17=>oB fun y18 e19=>oB fun y20 e21=>oF (fun e22=>oF (fun e23=>oS (⟨[rS T2 y1,rS T2 y3,rS T2 y5,fF,.cut ⟨[],[],(aq.bH y1 y3 y5),0,.normal,(aq.cy y1 y3 y5 o9),0⟩,.cut ⟨[],[],(aq.du o9 y1 y3 y5),0,.normal,(aq.dS y1 y3 y5 o12),0⟩,rS dD y14,rS dD y16,rS dD y18,.res (.more (.dp dD) (.one (.dp dD))) y20,tT,tT],[],via (br (aI (aI (aI (aI aK e2) e4) e6) e7) [] (aq.bH y1 y3 y5) (((aq.aP k y1 y3 y5).ap e10)) (br aK [] (aq.du o9 y1 y3 y5) (((aq.cC k o9 y1 y3 y5).ap e13)) (bM (aI (aI (aI (aI (aI (aI aK e15) e17) e19) e21) e22) e23) (.one (.dp T2)) ((-1099511627776:Int):Int)))) (by kernel_rfl)⟩)) (fun e23=>oS (⟨[rS T2 y1,rS T2 y3,rS T2 y5,fF,.cut ⟨[],[],(aq.bH y1 y3 y5),0,.normal,(aq.cy y1 y3 y5 o9),0⟩,.cut ⟨[],[],(aq.du o9 y1 y3 y5),0,.normal,(aq.dS y1 y3 y5 o12),0⟩,rS dD y14,rS dD y16,rS dD y18,.res (.more (.dp dD) (.one (.dp dD))) y20,tT,fF],[],via (br (aI (aI (aI (aI aK e2) e4) e6) e7) [] (aq.bH y1 y3 y5) (((aq.aP k y1 y3 y5).ap e10)) (br aK [] (aq.du o9 y1 y3 y5) (((aq.cC k o9 y1 y3 y5).ap e13)) (bM (aI (aI (aI (aI (aI (aI aK e15) e17) e19) e21) e22) e23) (.one (.dp T2)) ((1099511627776:Int):Int)))) (by kernel_rfl)⟩))) (fun e22=>oB fun y24 e25=>oB fun o27 e28=>oF (fun e29=>oB fun o31 e32=>oB fun y33 e34=>oS (⟨[rS T2 y1,rS T2 y3,rS T2 y5,fF,.cut ⟨[],[],(aq.bH y1 y3 y5),0,.normal,(aq.cy y1 y3 y5 o9),0⟩,.cut ⟨[],[],(aq.du o9 y1 y3 y5),0,.normal,(aq.dS y1 y3 y5 o12),0⟩,rS dD y14,rS dD y16,rS dD y18,.res (.more (.dp dD) (.one (.dp dD))) y20,fF,.res (.more (.dp dD) (.one (.dp dD))) y24,.cut ⟨[],[],(aq.fU o12 y14 y24),0,.normal,(aq.gp o12 y14 o27),0⟩,fF,.cut ⟨[],[],(aq.ig o27 y14),0,.normal,(aq.iq o31),0⟩,rS T2 y33],[],via (br (aI (aI (aI (aI aK e2) e4) e6) e7) [] (aq.bH y1 y3 y5) (((aq.aP k y1 y3 y5).ap e10)) (br aK [] (aq.du o9 y1 y3 y5) (((aq.cC k o9 y1 y3 y5).ap e13)) (br (aI (aI (aI (aI (aI (aI aK e15) e17) e19) e21) e22) e25) [] (aq.fU o12 y14 y24) (((aq.dW k o12 y14 y24).ap e28)) (br (aI aK (cn e29)) [] (aq.ig o27 y14) (((aq.gh k o27 y14).ap e32)) (bM (aI aK e34) (.one (.dp T2)) (y33:Int)))))) (by kernel_rfl)⟩)) (fun e29=>oB fun o36 e37=>oB fun y38 e39=>oS (⟨[rS T2 y1,rS T2 y3,rS T2 y5,fF,.cut ⟨[],[],(aq.bH y1 y3 y5),0,.normal,(aq.cy y1 y3 y5 o9),0⟩,.cut ⟨[],[],(aq.du o9 y1 y3 y5),0,.normal,(aq.dS y1 y3 y5 o12),0⟩,rS dD y14,rS dD y16,rS dD y18,.res (.more (.dp dD) (.one (.dp dD))) y20,fF,.res (.more (.dp dD) (.one (.dp dD))) y24,.cut ⟨[],[],(aq.fU o12 y14 y24),0,.normal,(aq.gp o12 y14 o27),0⟩,tT,.cut ⟨[],[],(aq.mz o27 y14),0,.normal,(aq.lN o36),0⟩,rS T2 y38],[],via (br (aI (aI (aI (aI aK e2) e4) e6) e7) [] (aq.bH y1 y3 y5) (((aq.aP k y1 y3 y5).ap e10)) (br aK [] (aq.du o9 y1 y3 y5) (((aq.cC k o9 y1 y3 y5).ap e13)) (br (aI (aI (aI (aI (aI (aI aK e15) e17) e19) e21) e22) e25) [] (aq.fU o12 y14 y24) (((aq.dW k o12 y14 y24).ap e28)) (br (aI aK (cn e29)) [] (aq.mz o27 y14) (((aq.jA k o27 y14).ap e37)) (bM (aI aK e39) (.one (.dp T2)) (y38:Int)))))) (by kernel_rfl)⟩))))
theorem aq.ok (k:Nat):cT PR 152 (aq.sp k) := fK (aq.bf k) Tryz.func152 (by kernel_rfl) (fun x=>by kernel_rfl) fun x y hy=>(aq.di k x.1 x.2.1 x.2.2.1).ap hy
def gb.code:Code:=Func.cd Tryz.f108
def gb (k:Nat) (a0 a1:Int):Option Int := bB (aq k a0 a1 65536) fun y1=>some y1
def gb.sp (k:Nat):Go.Sx.Spec:=⟨bE,(.one (.dp T2)),fun x=>gb k x.1 x.2.1,false⟩
def gb.cx (k:Nat):Go.Sx.Ctx:=⟨fX,[(152,aq.sp k)],eqs,8,0,[],false⟩
theorem gb.bf (k:Nat):b9 PR (gb.cx k):=bI cp cm (fC (aq.ok k) bV.nil) cX.nil
theorem gb.di (k:Nat) (a0 a1:Int):cj (gb k a0 a1) fun y=>∃ w c0,exec PR (gb.cx k) gb.code 0 (entry bE (a0,a1,())).st w (uA (gb.cx k) Tryz.f108 c0 (.one (.dp T2)) y):=by unfold gb; exact oB fun y1 e2=>oS (⟨[rS T2 y1],[],via (bM (aI aK e2) (.one (.dp T2)) (y1:Int)) (by kernel_rfl)⟩)
theorem gb.ok (k:Nat):cT PR 108 (gb.sp k) := fK (gb.bf k) Tryz.func108 (by kernel_rfl) (fun x=>by kernel_rfl) fun x y hy=>(gb.di k x.1 x.2.1).ap hy
def gF.code:Code:=Func.cd Tryz.f112
def gF (k:Nat) (a0 a1:Int):Option Int := bB (cY k a0) fun y1=>bB (cY k a1) fun y3=>bB (cY k (bY .i64 y1 y3)) fun y5=>some y5
def gF.sp (k:Nat):Go.Sx.Spec:=⟨bE,(.one (.dp T2)),fun x=>gF k x.1 x.2.1,false⟩
def gF.cx (k:Nat):Go.Sx.Ctx:=⟨fX,[(147,cY.sp k)],eqs,11,0,[],false⟩
theorem gF.bf (k:Nat):b9 PR (gF.cx k):=bI cp cm (fC (cY.ok k) bV.nil) cX.nil
theorem gF.di (k:Nat) (a0 a1:Int):cj (gF k a0 a1) fun y=>∃ w c0,exec PR (gF.cx k) gF.code 0 (entry bE (a0,a1,())).st w (uA (gF.cx k) Tryz.f112 c0 (.one (.dp T2)) y):=by unfold gF; exact oB fun y1 e2=>oB fun y3 e4=>oB fun y5 e6=>oS (⟨[rS T2 y1,rS T2 y3,rS T2 y5],[],via (bM (aI (aI (aI aK e2) e4) e6) (.one (.dp T2)) (y5:Int)) (by kernel_rfl)⟩)
theorem gF.ok (k:Nat):cT PR 112 (gF.sp k) := fK (gF.bf k) Tryz.func112 (by kernel_rfl) (fun x=>by kernel_rfl) fun x y hy=>(gF.di k x.1 x.2.1).ap hy
def bk.code:Code:=Func.cd Tryz.f192
def bk.c2 (k:Nat) (a0 a1:Int) (y4:(Int × Int)):Option (Bool) := aM (eK y4.1 a0) (some true) (aM (gB y4.1 a0) (some (jb y4.2 a1)) (some false))
def bk.c3 (k:Nat) (o8:Bool) (v1 v2:Int):Option (Int) := aM o8 (some (bJ .or .u64 v1 v2)) (some v1)
def bk.c1 (k:Nat) (a0 a1:Int):Nat→Int→Int→Option (Int) | 0,_,_=>none | n+1,v1,v2=>aM (kZ v2 0) (bB (dq k (bJ .or .u64 v1 v2) (bJ .or .u64 v1 v2)) fun y4=>bB (bk.c2 k a0 a1 y4) fun o8=>bB (bk.c3 k o8 v1 v2) fun o11=>bk.c1 k a0 a1 n o11 (cJ .u64 v2 1)) (some v1)
def bk (k:Nat) (a0 a1:Int):Option Int := bB (bk.c1 k a0 a1 k 0 9223372036854775808) fun o13=>some o13
def bk.sp (k:Nat):Go.Sx.Spec:=⟨(.pair dD (.pair dD .unit)),(.one (.dp dD)),fun x=>bk k x.1 x.2.1,false⟩
def bk.cx (k:Nat):Go.Sx.Ctx:=⟨fX,[(116,dq.sp k)],eqs,38,0,[],false⟩
theorem bk.bf (k:Nat):b9 PR (bk.cx k):=bI cp cm (fC (dq.ok k) bV.nil) cX.nil
def bk.du (a0 a1 v1 v2:Int) (y4:(Int × Int)):SL:=⟨[(0,(.val dD a0)),(1,(.val dD a1)),(5,(.val dD v1)),(6,(.val dD v2)),(7,(.val dD (bJ .or .u64 v1 v2))),(8,(.val dD y4.1)),(9,(.val dD y4.2))],[]⟩
def bk.dS (a0 a1 v1 v2:Int) (o:Bool):SL:=(fun v=>⟨[(0,(.val dD a0)),(1,(.val dD a1)),(5,(.val dD v1)),(6,(.val dD v2)),(7,(.val dD (bJ .or .u64 v1 v2))),(35,(.val T4 v))],[]⟩) o
def bk.iy (o:Bool):Ex:=(fun _=>.normal) o
def bk.iA (o:Bool):Nat:=(fun _=>0) o
theorem bk.cC (k:Nat) (a0 a1 v1 v2:Int) (y4:(Int × Int)):cj (bk.c2 k a0 a1 y4) fun o=>Triple PR (bk.cx k) (sub bk.code [1,1,0,1,0,0,1,0,0,1,1,0]) 0 (bk.du a0 a1 v1 v2 y4) (bk.iy o) (bk.iA o) (bk.dS a0 a1 v1 v2 o):=by unfold bk.c2; exact oF (fun e6=>oS (tW (bk.bf k) hmix [tT,tT,tT,tT,tT,tT,tT,tT,tT,tT] [] [] (via (aT (aI (aI (aI (aI (aI (aI aK e6) e6) e6) e6) e6) e6) .normal [] (bk.dS a0 a1 v1 v2 true)) (by kernel_rfl)))) (fun e6=>oF (fun e7=>oS (tW (bk.bf k) hmix [fF,fF,fF,fF,tT,tT,tT,fF,tT,fF] [] [] (via (aT (aI (aI (aI (aI (aI (aI (aI (aI (aI aK e6) e6) e6) e6) e7) e7) e7) (aI e6 e7)) e6) .normal [] (bk.dS a0 a1 v1 v2 (jb y4.2 a1))) (by kernel_rfl)))) (fun e7=>oS (tW (bk.bf k) hmix [fF,fF,fF,fF,fF,fF,fF,fF,fF,fF] [] [] (via (aT (aI (aI (aI (aI (aI (aI (aI (aI (aI aK e6) e6) e6) e6) e7) e7) e7) (aI e6 e7)) e6) .normal [] (bk.dS a0 a1 v1 v2 false)) (by kernel_rfl)))))
def bk.fU (a0 a1:Int) (o8:Bool) (v1 v2:Int):SL:=⟨[(0,(.val dD a0)),(1,(.val dD a1)),(5,(.val dD v1)),(6,(.val dD v2)),(7,(.val dD (bJ .or .u64 v1 v2))),(35,(.val T4 o8))],[]⟩
def bk.gp (a0 a1 v2 o:Int):SL:=(fun v=>⟨[(0,(.val dD a0)),(1,(.val dD a1)),(5,(.val dD v)),(6,(.val dD v2))],[]⟩) o
def bk.kE (o:Int):Ex:=(fun _=>.normal) o
def bk.kv (o:Int):Nat:=(fun _=>0) o
theorem bk.dW (k:Nat) (a0 a1:Int) (o8:Bool) (v1 v2:Int):cj (bk.c3 k o8 v1 v2) fun o=>Triple PR (bk.cx k) (sub bk.code [1,1,0,1,0,0,1,0,0,1,1,1]) 0 (bk.fU a0 a1 o8 v1 v2) (bk.kE o) (bk.kv o) (bk.gp a0 a1 v2 o):=by unfold bk.c3; exact oF (fun e10=>oS (tW (bk.bf k) hmix [tT] [] [] (via (aT (aI aK e10) .normal [] (bk.gp a0 a1 v2 (bJ .or .u64 v1 v2))) (by kernel_rfl)))) (fun e10=>oS (tW (bk.bf k) hmix [fF] [] [] (via (aT (aI aK e10) .normal [] (bk.gp a0 a1 v2 v1)) (by kernel_rfl))))
def bk.bH (a0 a1 v1 v2:Int):SL:=⟨[(0,(.val dD a0)),(1,(.val dD a1)),(5,(.val dD v1)),(6,(.val dD v2))],[]⟩
def bk.cy (o:Int):SL:=(fun v=>⟨[(5,(.val dD v))],[]⟩) o
def bk.fV (o:Int):Ex:=(fun _=>(.exit 0)) o
def bk.fW (o:Int):Nat:=(fun _=>0) o
theorem bk.aP (k:Nat) (a0 a1:Int):∀ (n:Nat) (v1 v2:Int),cj (bk.c1 k a0 a1 n v1 v2) fun o=>ck PR (bk.cx k) (sub bk.code [1,1,0,1,0,0]) 0 (bk.bH a0 a1 v1 v2) (bk.fV o) (bk.fW o) (bk.cy o) | 0,_,_=>fun _ h=>nomatch h | n+1,v1,v2=>cj.of (bk.c1.eq_2 ..) (oF (fun e3=>oB fun y4 e5=>oB fun o8 e9=>oB fun o11 e12=>fun y hy=>bc (bk.bf k) hmix 0 (bk.bH a0 a1 o11 (cJ .u64 v2 1)) [tT,.res (.more (.dp dD) (.one (.dp dD))) y4,.cutR 7 ⟨[],[],(bk.du a0 a1 v1 v2 y4),0,.normal,(bk.dS a0 a1 v1 v2 o8),0⟩,.cut ⟨[],[],(bk.fU a0 a1 o8 v1 v2),0,.normal,(bk.gp a0 a1 v2 o11),0⟩] [] [] (via (br (aI (aI aK e3) e5) [] (bk.du a0 a1 v1 v2 y4) (((bk.cC k a0 a1 v1 v2 y4).ap e9)) (br aK [] (bk.fU a0 a1 o8 v1 v2) (((bk.dW k a0 a1 o8 v1 v2).ap e12)) (aT (aI aK (by decide:ng (1:Int))) .normal [] (bk.bH a0 a1 o11 (cJ .u64 v2 1))))) (by kernel_rfl)) ((bk.aP k a0 a1 n o11 (cJ .u64 v2 1)).ap hy)) (fun e3=>oS (aO (bk.bf k) hmix [fF] [] [] (fq 0) (via (aT (aI aK e3) (.exit 0) [] (bk.cy v1)) (by kernel_rfl)))))
theorem bk.di (k:Nat) (a0 a1:Int):cj (bk k a0 a1) fun y=>wP (bk.cx k) bk.code (.pair dD (.pair dD .unit)) (a0,a1,()) Tryz.f192 (.one (.dp dD)) y:=by unfold bk; exact oB fun o13 e14=>oS (⟨[.cut ⟨[],[],(bk.bH a0 a1 (0:Int) (9223372036854775808:Int)),0,(.exit 0),(bk.cy o13),0⟩],[],via (br aK [] (bk.bH a0 a1 (0:Int) (9223372036854775808:Int)) (((bk.aP k a0 a1 k (0:Int) (9223372036854775808:Int)).ap e14).triple) (bM aK (.one (.dp dD)) (o13:Int))) (by kernel_rfl)⟩)
theorem bk.ok (k:Nat):cT PR 192 (bk.sp k) := fK (bk.bf k) Tryz.func192 (by kernel_rfl) (fun x=>by kernel_rfl) fun x y hy=>(bk.di k x.1 x.2.1).ap hy
def gE.code:Code:=Func.cd Tryz.f55
def gE (k:Nat) (a0 a1:ay):Option ay := bB (fE k a0.1 a1.1) fun y1=>bB (fE k a0.2.1 a1.2.1) fun y3=>some (y1,y3,())
def gE.sp (k:Nat):Go.Sx.Spec:=⟨iC,(.one (.dp bE)),fun x=>gE k x.1 x.2.1,false⟩
def gE.cx (k:Nat):Go.Sx.Ctx:=⟨fX,[(105,fE.sp k)],eqs,16,0,[],false⟩
theorem gE.bf (k:Nat):b9 PR (gE.cx k):=bI cp cm (fC (fE.ok k) bV.nil) cX.nil
theorem gE.di (k:Nat) (a0 a1:ay):cj (gE k a0 a1) fun y=>∃ w c0,exec PR (gE.cx k) gE.code 0 (entry iC (a0,a1,())).st w (uA (gE.cx k) Tryz.f55 c0 (.one (.dp bE)) y):=by unfold gE; exact oB fun y1 e2=>oB fun y3 e4=>oS (⟨[rS T2 y1,rS T2 y3],[],via (bM (aI (aI aK e2) e4) (.one (.dp bE)) ((y1,y3,()):ay)) (by kernel_rfl)⟩)
theorem gE.ok (k:Nat):cT PR 55 (gE.sp k) := fK (gE.bf k) Tryz.func55 (by kernel_rfl) (fun x=>by kernel_rfl) fun x y hy=>(gE.di k x.1 x.2.1).ap hy
def fo.code:Code:=Func.cd Tryz.f193
def fo (k:Nat):Option (List Int) := some [0,1608,3216,4821,6424,8022,9616,11204,12785,14359,15924,17479,19024,20557,22078,23586,25080,26558,28020,29466,30893,32303,33692,35062,36410,37736,39040,40320,41576,42806,44011,45190,46341,47464,48559,49624,50660,51665,52639,53581,54491,55368,56212,57022,57798,58538,59244,59914,60547,61145,61705,62228,62714,63162,63572,63944,64277,64571,64827,65043,65220,65358,65457,65516,65536]
def fo.sp (k:Nat):Go.Sx.Spec:=⟨.unit,(.one (.dp (.arr 65 T2))),fun x=>fo k,false⟩
def fo.cx (k:Nat):Go.Sx.Ctx:=⟨fX,[],eqs,2,0,[],false⟩
theorem fo.bf (k:Nat):b9 PR (fo.cx k):=bI cp cm bV.nil cX.nil
theorem fo.di (k:Nat):cj (fo k) fun y=>wP (fo.cx k) fo.code .unit () Tryz.f193 (.one (.dp (.arr 65 T2))) y:=by unfold fo; exact oS (⟨[],[],via (bM aK (.one (.dp (.arr 65 T2))) ([(0:Int),(1608:Int),(3216:Int),(4821:Int),(6424:Int),(8022:Int),(9616:Int),(11204:Int),(12785:Int),(14359:Int),(15924:Int),(17479:Int),(19024:Int),(20557:Int),(22078:Int),(23586:Int),(25080:Int),(26558:Int),(28020:Int),(29466:Int),(30893:Int),(32303:Int),(33692:Int),(35062:Int),(36410:Int),(37736:Int),(39040:Int),(40320:Int),(41576:Int),(42806:Int),(44011:Int),(45190:Int),(46341:Int),(47464:Int),(48559:Int),(49624:Int),(50660:Int),(51665:Int),(52639:Int),(53581:Int),(54491:Int),(55368:Int),(56212:Int),(57022:Int),(57798:Int),(58538:Int),(59244:Int),(59914:Int),(60547:Int),(61145:Int),(61705:Int),(62228:Int),(62714:Int),(63162:Int),(63572:Int),(63944:Int),(64277:Int),(64571:Int),(64827:Int),(65043:Int),(65220:Int),(65358:Int),(65457:Int),(65516:Int),(65536:Int)]:(List Int))) (by kernel_rfl)⟩)
theorem fo.ok (k:Nat):cT PR 193 (fo.sp k) := fK (fo.bf k) Tryz.func193 (by kernel_rfl) (fun x=>by kernel_rfl) fun x y hy=>(fo.di k).ap hy
def dM.code:Code:=Func.cd Tryz.f165
def dM (k:Nat) (a0:Int):Option Int := bB (fo k) fun y1=>aM (gB (en a0 256) 0) (dU (fR (fA .i64 a0 256) 65) <|some (el 0 y1 (fA .i64 a0 256))) (dU (fR (fA .i64 a0 256) 65) <|dU (fR (ao .i64 (fA .i64 a0 256) 1) 65) <|some (ao .i64 (el 0 y1 (fA .i64 a0 256)) (fA .i64 (ao .i64 (a7 .i64 (bY .i64 (el 0 y1 (ao .i64 (fA .i64 a0 256) 1)) (el 0 y1 (fA .i64 a0 256))) (en a0 256)) 128) 256)))
def dM.sp (k:Nat):Go.Sx.Spec:=⟨(.pair T2 .unit),(.one (.dp T2)),fun x=>dM k x.1,false⟩
def dM.cx (k:Nat):Go.Sx.Ctx:=⟨fX,[(193,fo.sp k)],eqs,32,0,[],false⟩
theorem dM.bf (k:Nat):b9 PR (dM.cx k):=bI cp cm (fC (fo.ok k) bV.nil) cX.nil
theorem dM.di (k:Nat) (a0:Int):cj (dM k a0) fun y=>wP (dM.cx k) dM.code (.pair T2 .unit) (a0,()) Tryz.f165 (.one (.dp T2)) y:=by unfold dM; exact oB fun y1 e2=>oF (fun e3=>oR fun h4=>oS (⟨[.res (.one (.dp (.arr 65 T2))) y1,tT],[],via (bM (aI (aI (aI (aI (aI (aI aK e2) (by decide:nz (256:Int))) (by decide:nz (256:Int))) e3) h4) h4) (.one (.dp T2)) ((el (0:Int) y1 (fA .i64 a0 256)):Int)) (by kernel_rfl)⟩)) (fun e3=>oR fun h5=>oR fun h6=>oS (⟨[.res (.one (.dp (.arr 65 T2))) y1,fF],[],via (bM (aI (aI (aI (aI (aI (aI (aI (aI (aI (aI (aI aK e2) (by decide:nz (256:Int))) (by decide:nz (256:Int))) e3) h5) h5) h6) h6) h5) h5) (by decide:nz (256:Int))) (.one (.dp T2)) ((ao .i64 (el (0:Int) y1 (fA .i64 a0 256)) (fA .i64 (ao .i64 (a7 .i64 (bY .i64 (el (0:Int) y1 (ao .i64 (fA .i64 a0 256) 1)) (el (0:Int) y1 (fA .i64 a0 256))) (en a0 256)) 128) 256)):Int)) (by kernel_rfl)⟩))
theorem dM.ok (k:Nat):cT PR 165 (dM.sp k) := fK (dM.bf k) Tryz.func165 (by kernel_rfl) (fun x=>by kernel_rfl) fun x y hy=>(dM.di k x.1).ap hy
def fp.code:Code:=Func.cd Tryz.f125
def fp (k:Nat) (a0:Int):Option Int := aM (gB (fA .i64 (bJ .and .i64 a0 65535) 16384) 0) (bB (dM k (en (bJ .and .i64 a0 65535) 16384)) fun y2=>some y2) (aM (gB (fA .i64 (bJ .and .i64 a0 65535) 16384) 1) (bB (dM k (bY .i64 16384 (en (bJ .and .i64 a0 65535) 16384))) fun y5=>some y5) (aM (gB (fA .i64 (bJ .and .i64 a0 65535) 16384) 2) (bB (dM k (en (bJ .and .i64 a0 65535) 16384)) fun y8=>some (fk .i64 y8)) (bB (dM k (bY .i64 16384 (en (bJ .and .i64 a0 65535) 16384))) fun y10=>some (fk .i64 y10))))
def fp.sp (k:Nat):Go.Sx.Spec:=⟨(.pair T2 .unit),(.one (.dp T2)),fun x=>fp k x.1,false⟩
def fp.cx (k:Nat):Go.Sx.Ctx:=⟨fX,[(165,dM.sp k)],eqs,28,0,[],false⟩
theorem fp.bf (k:Nat):b9 PR (fp.cx k):=bI cp cm (fC (dM.ok k) bV.nil) cX.nil
theorem fp.di (k:Nat) (a0:Int):cj (fp k a0) fun y=>wP (fp.cx k) fp.code (.pair T2 .unit) (a0,()) Tryz.f125 (.one (.dp T2)) y:=by unfold fp; exact oF (fun e1=>oB fun y2 e3=>oS (⟨[tT,rS T2 y2],[],via (bM (aI (aI (aI (aI aK (by decide:nz (16384:Int))) (by decide:nz (16384:Int))) e1) e3) (.one (.dp T2)) (y2:Int)) (by kernel_rfl)⟩)) (fun e1=>oF (fun e4=>oB fun y5 e6=>oS (⟨[fF,tT,rS T2 y5],[],via (bM (aI (aI (aI (aI (aI aK (by decide:nz (16384:Int))) (by decide:nz (16384:Int))) e1) e4) e6) (.one (.dp T2)) (y5:Int)) (by kernel_rfl)⟩)) (fun e4=>oF (fun e7=>oB fun y8 e9=>oS (⟨[fF,fF,tT,rS T2 y8],[],via (bM (aI (aI (aI (aI (aI (aI aK (by decide:nz (16384:Int))) (by decide:nz (16384:Int))) e1) e4) e7) e9) (.one (.dp T2)) ((fk .i64 y8):Int)) (by kernel_rfl)⟩)) (fun e7=>oB fun y10 e11=>oS (⟨[fF,fF,fF,rS T2 y10],[],via (bM (aI (aI (aI (aI (aI (aI aK (by decide:nz (16384:Int))) (by decide:nz (16384:Int))) e1) e4) e7) e11) (.one (.dp T2)) ((fk .i64 y10):Int)) (by kernel_rfl)⟩))))
theorem fp.ok (k:Nat):cT PR 125 (fp.sp k) := fK (fp.bf k) Tryz.func125 (by kernel_rfl) (fun x=>by kernel_rfl) fun x y hy=>(fp.di k x.1).ap hy
def fT.code:Code:=Func.cd Tryz.f124
def fT (k:Nat) (a0:Int):Option Int := bB (fp k (ao .i64 (bJ .and .i64 a0 65535) 16384)) fun y1=>some y1
def fT.sp (k:Nat):Go.Sx.Spec:=⟨(.pair T2 .unit),(.one (.dp T2)),fun x=>fT k x.1,false⟩
def fT.cx (k:Nat):Go.Sx.Ctx:=⟨fX,[(125,fp.sp k)],eqs,7,0,[],false⟩
theorem fT.bf (k:Nat):b9 PR (fT.cx k):=bI cp cm (fC (fp.ok k) bV.nil) cX.nil
theorem fT.di (k:Nat) (a0:Int):cj (fT k a0) fun y=>wP (fT.cx k) fT.code (.pair T2 .unit) (a0,()) Tryz.f124 (.one (.dp T2)) y:=by unfold fT; exact oB fun y1 e2=>oS (⟨[rS T2 y1],[],via (bM (aI aK e2) (.one (.dp T2)) (y1:Int)) (by kernel_rfl)⟩)
theorem fT.ok (k:Nat):cT PR 124 (fT.sp k) := fK (fT.bf k) Tryz.func124 (by kernel_rfl) (fun x=>by kernel_rfl) fun x y hy=>(fT.di k x.1).ap hy
def fm.code:Code:=Func.cd Tryz.f72
def fm (k:Nat) (a0:ay) (a1:Int):Option ay := bB (fT k a1) fun y1=>bB (fp k a1) fun y3=>bB (gb k a0.1 y1) fun y5=>bB (gb k a0.2.1 y3) fun y7=>bB (gF k y5 y7) fun y9=>bB (gb k a0.1 y3) fun y11=>bB (gb k a0.2.1 y1) fun y13=>bB (fE k y11 y13) fun y15=>some (y9,y15,())
def fm.sp (k:Nat):Go.Sx.Spec:=⟨(.pair bE (.pair T2 .unit)),(.one (.dp bE)),fun x=>fm k x.1 x.2.1,false⟩
def fm.cx (k:Nat):Go.Sx.Ctx:=⟨fX,[(124,fT.sp k),(125,fp.sp k),(108,gb.sp k),(112,gF.sp k),(105,fE.sp k)],eqs,30,0,[],false⟩
theorem fm.bf (k:Nat):b9 PR (fm.cx k):=bI cp cm (fC (fT.ok k) (fC (fp.ok k) (fC (gb.ok k) (fC (gF.ok k) (fC (fE.ok k) bV.nil))))) cX.nil
theorem fm.di (k:Nat) (a0:ay) (a1:Int):cj (fm k a0 a1) fun y=>wP (fm.cx k) fm.code (.pair bE (.pair T2 .unit)) (a0,a1,()) Tryz.f72 (.one (.dp bE)) y:=by unfold fm; exact oB fun y1 e2=>oB fun y3 e4=>oB fun y5 e6=>oB fun y7 e8=>oB fun y9 e10=>oB fun y11 e12=>oB fun y13 e14=>oB fun y15 e16=>oS (⟨[rS T2 y1,rS T2 y3,rS T2 y5,rS T2 y7,rS T2 y9,rS T2 y11,rS T2 y13,rS T2 y15],[],via (bM (aI (aI (aI (aI (aI (aI (aI (aI aK e2) e4) e6) e8) e10) e12) e14) e16) (.one (.dp bE)) ((y9,y15,()):ay)) (by kernel_rfl)⟩)
theorem fm.ok (k:Nat):cT PR 72 (fm.sp k) := fK (fm.bf k) Tryz.func72 (by kernel_rfl) (fun x=>by kernel_rfl) fun x y hy=>(fm.di k x.1 x.2.1).ap hy
def fS.code:Code:=Func.cd Tryz.f156
def fS (k:Nat) (a0:Int):Option Int := some (cF .u64 (imax a0 (fk .i64 a0)))
def fS.sp (k:Nat):Go.Sx.Spec:=⟨(.pair T2 .unit),(.one (.dp dD)),fun x=>fS k x.1,false⟩
def fS.cx (k:Nat):Go.Sx.Ctx:=⟨fX,[],eqs,8,0,[],false⟩
theorem fS.bf (k:Nat):b9 PR (fS.cx k):=bI cp cm bV.nil cX.nil
theorem fS.di (k:Nat) (a0:Int):cj (fS k a0) fun y=>wP (fS.cx k) fS.code (.pair T2 .unit) (a0,()) Tryz.f156 (.one (.dp dD)) y:=by unfold fS; exact oS (⟨[],[],via (bM aK (.one (.dp dD)) ((cF .u64 (imax a0 (fk .i64 a0))):Int)) (by kernel_rfl)⟩)
theorem fS.ok (k:Nat):cT PR 156 (fS.sp k) := fK (fS.bf k) Tryz.func156 (by kernel_rfl) (fun x=>by kernel_rfl) fun x y hy=>(fS.di k x.1).ap hy
def eL.code:Code:=Func.cd Tryz.f157
def eL (k:Nat) (a0 a1:Int):Option Int := bB (fS k a0) fun y1=>bB (fS k a0) fun y3=>bB (dq k y1 y3) fun y5=>bB (fS k a1) fun y7=>bB (fS k a1) fun y9=>bB (dq k y7 y9) fun y11=>bB (bits_Add64 k y5.2 y11.2 0) fun y13=>bB (bits_Add64 k y5.1 y11.1 y13.2) fun y15=>bB (bk k y15.1 y13.1) fun y17=>some (cF .i64 y17)
def eL.sp (k:Nat):Go.Sx.Spec:=⟨bE,(.one (.dp T2)),fun x=>eL k x.1 x.2.1,false⟩
def eL.cx (k:Nat):Go.Sx.Ctx:=⟨fX,[(156,fS.sp k),(116,dq.sp k),(191,bits_Add64.sp k),(192,bk.sp k)],eqs,46,0,[],false⟩
theorem eL.bf (k:Nat):b9 PR (eL.cx k):=bI cp cm (fC (fS.ok k) (fC (dq.ok k) (fC (bits_Add64.ok k) (fC (bk.ok k) bV.nil)))) cX.nil
theorem eL.di (k:Nat) (a0 a1:Int):cj (eL k a0 a1) fun y=>∃ w c0,exec PR (eL.cx k) eL.code 0 (entry bE (a0,a1,())).st w (uA (eL.cx k) Tryz.f157 c0 (.one (.dp T2)) y):=by unfold eL; exact oB fun y1 e2=>oB fun y3 e4=>oB fun y5 e6=>oB fun y7 e8=>oB fun y9 e10=>oB fun y11 e12=>oB fun y13 e14=>oB fun y15 e16=>oB fun y17 e18=>oS (⟨[rS dD y1,rS dD y3,.res (.more (.dp dD) (.one (.dp dD))) y5,rS dD y7,rS dD y9,.res (.more (.dp dD) (.one (.dp dD))) y11,.res (.more (.dp dD) (.one (.dp dD))) y13,.res (.more (.dp dD) (.one (.dp dD))) y15,rS dD y17],[],via (bM (aI (aI (aI (aI (aI (aI (aI (aI (aI aK e2) e4) e6) e8) e10) e12) e14) e16) e18) (.one (.dp T2)) ((cF .i64 y17):Int)) (by kernel_rfl)⟩)
theorem eL.ok (k:Nat):cT PR 157 (eL.sp k) := fK (eL.bf k) Tryz.func157 (by kernel_rfl) (fun x=>by kernel_rfl) fun x y hy=>(eL.di k x.1 x.2.1).ap hy
def bX.code:Code:=Func.cd Tryz.f158
def bX.c1 (k:Nat) (a0 a1:Int):Option (Bool) := aM (eK (ao .i64 (a7 .i64 (a7 .i64 2 a0) 65536) a1) 0) (dU (nz (a7 .i64 2 a1)) <|some (j8 (en (ao .i64 (a7 .i64 (a7 .i64 2 a0) 65536) a1) (a7 .i64 2 a1)) 0)) (some false)
def bX (k:Nat) (a0 a1:Int):Option Int := dU (nz (a7 .i64 2 a1)) <|bB (bX.c1 k a0 a1) fun o4=>aM o4 (some (bY .i64 (fA .i64 (ao .i64 (a7 .i64 (a7 .i64 2 a0) 65536) a1) (a7 .i64 2 a1)) 1)) (some (fA .i64 (ao .i64 (a7 .i64 (a7 .i64 2 a0) 65536) a1) (a7 .i64 2 a1)))
def bX.sp (k:Nat):Go.Sx.Spec:=⟨bE,(.one (.dp T2)),fun x=>bX k x.1 x.2.1,false⟩
def bX.cx (k:Nat):Go.Sx.Ctx:=⟨fX,[],eqs,28,0,[],false⟩
theorem bX.bf (k:Nat):b9 PR (bX.cx k):=bI cp cm bV.nil cX.nil
def bX.bH (a0 a1:Int):SL:=⟨[(1,(.val T2 a1)),(5,(.val T2 (ao .i64 (a7 .i64 (a7 .i64 2 a0) 65536) a1))),(6,(.val T2 (fA .i64 (ao .i64 (a7 .i64 (a7 .i64 2 a0) 65536) a1) (a7 .i64 2 a1))))],[]⟩
def bX.cy (a0 a1:Int) (o:Bool):SL:=(fun v=>⟨[(6,(.val T2 (fA .i64 (ao .i64 (a7 .i64 (a7 .i64 2 a0) 65536) a1) (a7 .i64 2 a1)))),(24,(.val T4 v))],[]⟩) o
def bX.fV (o:Bool):Ex:=(fun _=>.normal) o
def bX.fW (o:Bool):Nat:=(fun _=>0) o
theorem bX.aP (k:Nat) (a0 a1:Int):cj (bX.c1 k a0 a1) fun o=>Triple PR (bX.cx k) (sub bX.code [1,1,1,0,0]) 0 (bX.bH a0 a1) (bX.fV o) (bX.fW o) (bX.cy a0 a1 o):=by unfold bX.c1; exact oF (fun e2=>oR fun h3=>oS (tW (bX.bf k) hmix [tT,tT,tT,tT,tT,tT] [] [] (via (aT (aI (aI (aI (aI (aI (aI aK e2) e2) e2) (aI e2 h3)) e2) e2) .normal [] (bX.cy a0 a1 (j8 (en (ao .i64 (a7 .i64 (a7 .i64 2 a0) 65536) a1) (a7 .i64 2 a1)) 0))) (by kernel_rfl)))) (fun e2=>oS (tW (bX.bf k) hmix [fF,fF,fF,fF,fF,fF] [] [] (via (aT (aI (aI (aI (aI (aI (aI aK e2) e2) e2) e2) e2) e2) .normal [] (bX.cy a0 a1 false)) (by kernel_rfl))))
theorem bX.di (k:Nat) (a0 a1:Int):cj (bX k a0 a1) fun y=>∃ w c0,exec PR (bX.cx k) bX.code 0 (entry bE (a0,a1,())).st w (uA (bX.cx k) Tryz.f158 c0 (.one (.dp T2)) y):=by unfold bX; exact oR fun h1=>oB fun o4 e5=>oF (fun e6=>oS (⟨[.cutR 3 ⟨[],[],(bX.bH a0 a1),0,.normal,(bX.cy a0 a1 o4),0⟩,tT],[],via (br (aI aK h1) [] (bX.bH a0 a1) (((bX.aP k a0 a1).ap e5)) (bM (aI aK e6) (.one (.dp T2)) ((bY .i64 (fA .i64 (ao .i64 (a7 .i64 (a7 .i64 2 a0) 65536) a1) (a7 .i64 2 a1)) 1):Int))) (by kernel_rfl)⟩)) (fun e6=>oS (⟨[.cutR 3 ⟨[],[],(bX.bH a0 a1),0,.normal,(bX.cy a0 a1 o4),0⟩,fF],[],via (br (aI aK h1) [] (bX.bH a0 a1) (((bX.aP k a0 a1).ap e5)) (bM (aI aK e6) (.one (.dp T2)) ((fA .i64 (ao .i64 (a7 .i64 (a7 .i64 2 a0) 65536) a1) (a7 .i64 2 a1)):Int))) (by kernel_rfl)⟩))
theorem bX.ok (k:Nat):cT PR 158 (bX.sp k) := fK (bX.bf k) Tryz.func158 (by kernel_rfl) (fun x=>by kernel_rfl) fun x y hy=>(bX.di k x.1 x.2.1).ap hy
def bN.code:Code:=Func.cd Tryz.f115
def bN.c1 (k:Nat) (y1 y3:Int):Option (Bool) := aM (gB y1 0) (some (gB y3 0)) (some false)
def bN.c2 (k:Nat):Nat→Int→Int→Option ((Int × Int)) | 0,_,_=>none | n+1,v9,v10=>bB (fS k v9) fun y11=>bB (fS k v10) fun y13=>aM (eK (imax y11 y13) 1073741824) (bN.c2 k n (a7 .i64 2 v9) (a7 .i64 2 v10)) (some (v9,v10))
def bN (k:Nat) (a0:ay):Option ay := bB (cY k a0.1) fun y1=>bB (cY k a0.2.1) fun y3=>bB (bN.c1 k y1 y3) fun o6=>aM o6 (some (0,0,())) (bB (bN.c2 k k y1 y3) fun o16=>bB (eL k o16.1 o16.2) fun y18=>bB (bX k o16.1 y18) fun y20=>bB (bX k o16.2 y18) fun y22=>some (y20,y22,()))
def bN.sp (k:Nat):Go.Sx.Spec:=⟨(.pair bE .unit),(.one (.dp bE)),fun x=>bN k x.1,false⟩
def bN.cx (k:Nat):Go.Sx.Ctx:=⟨fX,[(147,cY.sp k),(156,fS.sp k),(157,eL.sp k),(158,bX.sp k)],eqs,39,0,[],false⟩
theorem bN.bf (k:Nat):b9 PR (bN.cx k):=bI cp cm (fC (cY.ok k) (fC (fS.ok k) (fC (eL.ok k) (fC (bX.ok k) bV.nil)))) cX.nil
def bN.bH (y1 y3:Int):SL:=⟨[(2,(pz 0 0 0)),(3,(.val T2 y1)),(4,(.val T2 y3))],[(0,.cells bE ((0:Int),(0:Int),()))]⟩
def bN.cy (y1 y3:Int) (o:Bool):SL:=(fun v=>⟨[(2,(pz 0 0 0)),(3,(.val T2 y1)),(4,(.val T2 y3)),(17,(.val T4 v))],[(0,.cells bE ((0:Int),(0:Int),()))]⟩) o
def bN.fV (o:Bool):Ex:=(fun _=>.normal) o
def bN.fW (o:Bool):Nat:=(fun _=>1) o
theorem bN.aP (k:Nat) (y1 y3:Int):cj (bN.c1 k y1 y3) fun o=>Triple PR (bN.cx k) (sub bN.code [1,1,0,0]) 1 (bN.bH y1 y3) (bN.fV o) (bN.fW o) (bN.cy y1 y3 o):=by unfold bN.c1; exact oF (fun e5=>oS (tW (bN.bf k) hmix [tT,tT,tT] [] [(0,0)] (via (aT (aI (aI (aI aK e5) e5) e5) .normal [(0,0)] (bN.cy y1 y3 (gB y3 0))) (by kernel_rfl)))) (fun e5=>oS (tW (bN.bf k) hmix [fF,fF,fF] [] [(0,0)] (via (aT (aI (aI (aI aK e5) e5) e5) .normal [(0,0)] (bN.cy y1 y3 false)) (by kernel_rfl))))
def bN.du (v9 v10:Int):SL:=⟨[(2,(pz 0 0 0)),(3,(.val T2 v9)),(4,(.val T2 v10))],[(0,.cells bE ((0:Int),(0:Int),()))]⟩
def bN.dS (o:(Int × Int)):SL:=(fun v=>⟨[(2,(pz 0 0 0)),(3,(.val T2 v.1)),(4,(.val T2 v.2))],[(0,.cells bE ((0:Int),(0:Int),()))]⟩) o
def bN.iy (o:(Int × Int)):Ex:=(fun _=>(.exit 0)) o
def bN.iA (o:(Int × Int)):Nat:=(fun _=>1) o
theorem bN.cC (k:Nat):∀ (n:Nat) (v9 v10:Int),cj (bN.c2 k n v9 v10) fun o=>ck PR (bN.cx k) (sub bN.code [1,1,1,0,0,0]) 1 (bN.du v9 v10) (bN.iy o) (bN.iA o) (bN.dS o) | 0,_,_=>fun _ h=>nomatch h | n+1,v9,v10=>cj.of (bN.c2.eq_2 ..) (oB fun y11 e12=>oB fun y13 e14=>oF (fun e15=>fun y hy=>bc (bN.bf k) hmix 1 (bN.du (a7 .i64 2 v9) (a7 .i64 2 v10)) [rS dD y11,rS dD y13,tT] [] [(0,0)] (via (aT (aI (aI (aI aK e12) e14) e15) .normal [(0,0)] (bN.du (a7 .i64 2 v9) (a7 .i64 2 v10))) (by kernel_rfl)) ((bN.cC k n (a7 .i64 2 v9) (a7 .i64 2 v10)).ap hy)) (fun e15=>oS (aO (bN.bf k) hmix [rS dD y11,rS dD y13,fF] [] [(0,0)] (fq 0) (via (aT (aI (aI (aI aK e12) e14) e15) (.exit 0) [(0,0)] (bN.dS (v9,v10))) (by kernel_rfl)))))
theorem bN.di (k:Nat) (a0:ay):cj (bN k a0) fun y=>wP (bN.cx k) bN.code (.pair bE .unit) (a0,()) Tryz.f115 (.one (.dp bE)) y:=by unfold bN; exact oB fun y1 e2=>oB fun y3 e4=>oB fun o6 e7=>oF (fun e8=>oS (⟨[rS T2 y1,rS T2 y3,.cutR 2 ⟨[],[(0,1)],(bN.bH y1 y3),1,.normal,(bN.cy y1 y3 o6),1⟩,tT],[],via (br (aI (aI aK e2) e4) [(0,1)] (bN.bH y1 y3) (((bN.aP k y1 y3).ap e7)) (bM (aI aK e8) (.one (.dp bE)) (((0:Int),(0:Int),()):ay))) (by kernel_rfl)⟩)) (fun e8=>oB fun o16 e17=>oB fun y18 e19=>oB fun y20 e21=>oB fun y22 e23=>oS (⟨[rS T2 y1,rS T2 y3,.cutR 2 ⟨[],[(0,1)],(bN.bH y1 y3),1,.normal,(bN.cy y1 y3 o6),1⟩,fF,.cut ⟨[],[(0,0)],(bN.du y1 y3),1,(.exit 0),(bN.dS o16),1⟩,rS T2 y18,rS T2 y20,rS T2 y22],[],via (br (aI (aI aK e2) e4) [(0,1)] (bN.bH y1 y3) (((bN.aP k y1 y3).ap e7)) (br (aI aK e8) [(0,0)] (bN.du y1 y3) (((bN.cC k k y1 y3).ap e17).triple) (bM (aI (aI (aI aK e19) e21) e23) (.one (.dp bE)) ((y20,y22,()):ay)))) (by kernel_rfl)⟩))
theorem bN.ok (k:Nat):cT PR 115 (bN.sp k) := fK (bN.bf k) Tryz.func115 (by kernel_rfl) (fun x=>by kernel_rfl) fun x y hy=>(bN.di k x.1).ap hy
def dT.code:Code:=Func.cd Tryz.f11
def dT (k:Nat) (a0:(List dV)):Option (List dV) := dU (p5 80 a0) <|some a0
def dT.sp (k:Nat):Go.Sx.Spec:=⟨(.pair (.slice dY) .unit),(.one (.ow dY 40)),fun x=>dT k x.1,false⟩
def dT.cx (k:Nat):Go.Sx.Ctx:=⟨fX,[],eqs,8,0,[],false⟩
theorem dT.bf (k:Nat):b9 PR (dT.cx k):=bI cp cm bV.nil cX.nil
theorem dT.di (k:Nat) (a0:(List dV)):cj (dT k a0) fun y=>wP (dT.cx k) dT.code (.pair (.slice dY) .unit) (a0,()) Tryz.f11 (.one (.ow dY 40)) y:=by unfold dT; exact oR fun h1=>match a0,h1 with | [],h1=>oS (⟨[.fork [] [tT]],[.own 2 dY 40],via (show (True→(True∧(True∧some (dX.row dY ([]:(List dV)) 40)=some (dX.row dY ([]:(List dV)) 40))))∧((True∧p5 80 ([]:(List dV)))∧(True∧some (dX.row dY ([]:(List dV)) 40)=some (dX.row dY ([]:(List dV)) 40))) from ⟨fun _=>⟨aK,aK,rfl⟩,⟨aK,h1⟩,aK,rfl⟩) (by kernel_rfl)⟩) | a :: l,h1=>oS (⟨[fF,tT],[.own 2 dY 40],via (show ((True∧false=false)∧p5 80 (a :: l))∧(True∧some (dX.row dY (a :: l:(List dV)) 40)=some (dX.row dY (a :: l:(List dV)) 40)) from ⟨⟨⟨aK,rfl⟩,h1⟩,aK,rfl⟩) (by kernel_rfl)⟩)
theorem dT.ok (k:Nat):cT PR 11 (dT.sp k) := fK (dT.bf k) Tryz.func11 (by kernel_rfl) (fun x=>by kernel_rfl) fun x y hy=>(dT.di k x.1).ap hy
def bz.code:Code:=Func.cd Tryz.f15
def bz.c1 (k:Nat) (a0 a1:(List dV)):Nat→Int→Option (Unit ⊕ Unit) | 0,_=>none | n+1,v2=>aM (eK v2 (len a0)) (dU (gi v2 a0) <|dU (gi v2 a1) <|aM (Ty.kY dY (el aR a0 v2) (el aR a1 v2)) (bz.c1 k a0 a1 n (ao .i64 v2 1)) (some (.inl ()))) (some (.inr ()))
def bz (k:Nat) (a0 a1:(List dV)):Option Bool := aM (j8 (len a0) (len a1)) (some false) (bB (bz.c1 k a0 a1 k 0) fun o7=>two o7 (fun y9=>some false) (fun y11=>some true))
def bz.sp (k:Nat):Go.Sx.Spec:=⟨(.pair (.slice dY) (.pair (.slice dY) .unit)),(.one (.dp T4)),fun x=>bz k x.1 x.2.1,false⟩
def bz.cx (k:Nat):Go.Sx.Ctx:=⟨fX,[],eqs,26,0,[],false⟩
theorem bz.bf (k:Nat):b9 PR (bz.cx k):=bI cp cm bV.nil cX.nil
def bz.bH (a0 a1:(List dV)) (v2:Int):SL:=⟨[(0,(.val (.slice dY) a0)),(1,(.val (.slice dY) a1)),(12,(.val T2 (len a0))),(13,(.val T2 v2))],[]⟩
def bz.cy (o:Unit ⊕ Unit):SL:=(fun o=>two o (fun v=>⟨[(4,(.val T4 false))],[]⟩) (fun v=>⟨[],[]⟩)) o
def bz.fV (o:Unit ⊕ Unit):Ex:=(fun o=>two o (fun _=>.ret) (fun _=>(.exit 0))) o
def bz.fW (o:Unit ⊕ Unit):Nat:=(fun o=>two o (fun _=>0) (fun _=>0)) o
theorem bz.aP (k:Nat) (a0 a1:(List dV)):∀ (n:Nat) (v2:Int),cj (bz.c1 k a0 a1 n v2) fun o=>ck PR (bz.cx k) (sub bz.code [1,1,0,1,0,0]) 0 (bz.bH a0 a1 v2) (bz.fV o) (bz.fW o) (bz.cy o) | 0,_=>fun _ h=>nomatch h | n+1,v2=>cj.of (bz.c1.eq_2 ..) (oF (fun e3=>oR fun h4=>oR fun h5=>oF (fun e6=>fun y hy=>bc (bz.bf k) hmix 0 (bz.bH a0 a1 (ao .i64 v2 1)) [tT,fF] [] [] (via (aT (aI (aI (aI (aI aK e3) h4) h5) (cn e6)) .normal [] (bz.bH a0 a1 (ao .i64 v2 1))) (by kernel_rfl)) ((bz.aP k a0 a1 n (ao .i64 v2 1)).ap hy)) (fun e6=>oS (aO (bz.bf k) hmix [tT,tT] [] [] dQ (via (aT (aI (aI (aI (aI aK e3) h4) h5) (cn e6)) .ret [] (bz.cy (.inl ()))) (by kernel_rfl))))) (fun e3=>oS (aO (bz.bf k) hmix [fF] [] [] (fq 0) (via (aT (aI aK e3) (.exit 0) [] (bz.cy (.inr ()))) (by kernel_rfl)))))
theorem bz.di (k:Nat) (a0 a1:(List dV)):cj (bz k a0 a1) fun y=>wP (bz.cx k) bz.code (.pair (.slice dY) (.pair (.slice dY) .unit)) (a0,a1,()) Tryz.f15 (.one (.dp T4)) y:=by unfold bz; exact oF (fun e1=>oS (⟨[tT],[],via (bM (aI aK e1) (.one (.dp T4)) (false:Bool)) (by kernel_rfl)⟩)) (fun e1=>oB fun o7 e8=>cj.two (fun y9 e10=>oS (⟨[fF,.cut ⟨[],[],(bz.bH a0 a1 (0:Int)),0,.ret,(bz.cy (.inl ())),0⟩],[],via (br (aI aK e1) [] (bz.bH a0 a1 (0:Int)) (((bz.aP k a0 a1 k (0:Int)).ap (e8.trans (congrArg some e10))).triple) (bM aK (.one (.dp T4)) (false:Bool))) (by kernel_rfl)⟩)) (fun y11 e12=>oS (⟨[fF,.cut ⟨[],[],(bz.bH a0 a1 (0:Int)),0,(.exit 0),(bz.cy (.inr ())),0⟩],[],via (br (aI aK e1) [] (bz.bH a0 a1 (0:Int)) (((bz.aP k a0 a1 k (0:Int)).ap (e8.trans (congrArg some e12))).triple) (bM aK (.one (.dp T4)) (true:Bool))) (by kernel_rfl)⟩)))
theorem bz.ok (k:Nat):cT PR 15 (bz.sp k) := fK (bz.bf k) Tryz.func15 (by kernel_rfl) (fun x=>by kernel_rfl) fun x y hy=>(bz.di k x.1 x.2.1).ap hy
end Go.Proofs.T1
