import Derived.Test.YteibepmkkplpeaaGreatG0
import Derived.Test.YteibepmkkplpeaaGreatG10
noncomputable section
namespace Go.Proofs.T1
open Go Go.Sx Go.Proofs
set_option maxRecDepth 100000
set_option linter.unusedVariables false
def cp.code:Code:=Func.cd Tryz.f35
def cp.c1 (k:Nat) (a1:(List iA)):Nat→Option (Unit) | 0=>none | n+1=>aR (fq 0 (len a1)) (eB (gn 0 a1) <|none) (some ())
def cp (k:Nat) (a0:(List cI)) (a1:(List iA)):Option Int := bG (bA k a0) fun y1=>aR (j6 y1 0) (some y1) (aR (iS (len a1) 4096) (some 2) (bG (cp.c1 k a1 k) fun o7=>some 0))
def cp.sp (k:Nat):Go.Sx.Spec:=⟨(.pair (.slice dG) (.pair (.slice ij) .unit)),(.one (.dp T2)),fun x=>cp k x.1 x.2.1,false⟩
def cp.cx (k:Nat):Go.Sx.Ctx:=⟨gi,[(63,bA.sp k)],eqs,106,0,[],false⟩
theorem cp.bh (k:Nat):bV PR (cp.cx k):=bD ck cg (fC (bA.ok k) bN.nil) c8.nil
def cp.bL (a0:(List cI)) (a1:(List iA)):SL:=⟨[(0,(.val (.slice dG) a0)),(6,(.val .clo (85,[]))),(17,(.val (.slice ij) a1)),(18,(.val T2 (len a1))),(19,(.val T2 (0:Int)))],[]⟩
def cp.cA (o:Unit):SL:=(fun v=>⟨[],[]⟩) o
def cp.gj (o:Unit):Ex:=(fun _=>(.exit 0)) o
def cp.gk (o:Unit):Nat:=(fun _=>0) o
theorem cp.aY (k:Nat) (a0:(List cI)) (a1:(List iA)):∀ (n:Nat),cf (cp.c1 k a1 n) fun o=>ct PR (cp.cx k) (sub cp.code [1,1,1,1,0,1,0,0]) 0 (cp.bL a0 a1) (cp.gj o) (cp.gk o) (cp.cA o) | 0=>fun _ h=>nomatch h | n+1=>cf.of (cp.c1.eq_2 ..) (oF (fun e5=>oR fun h6=>cf.none) (fun e5=>oS (bk (cp.bh k) hmix [fF] [] [] (fX 0) (via (a6 (aI aL e5) (.exit 0) [] (cp.cA ())) (by kernel_rfl)))))
theorem cp.dC (k:Nat) (a0:(List cI)) (a1:(List iA)):cf (cp k a0 a1) fun y=>wP (cp.cx k) cp.code (.pair (.slice dG) (.pair (.slice ij) .unit)) (a0,a1,()) Tryz.f35 (.one (.dp T2)) y:=by unfold cp; exact oB fun y1 e2=>oF (fun e3=>oS (⟨[rS T2 y1,tT],[],via (bO (aI (aI aL e2) e3) (.one (.dp T2)) (y1:Int)) (by kernel_rfl)⟩)) (fun e3=>oF (fun e4=>oS (⟨[rS T2 y1,fF,tT],[],via (bO (aI (aI (aI aL e2) e3) e4) (.one (.dp T2)) ((2:Int):Int)) (by kernel_rfl)⟩)) (fun e4=>oB fun o7 e8=>oS (⟨[rS T2 y1,fF,fF,.cut ⟨[],[],(cp.bL a0 a1),0,(.exit 0),(cp.cA ()),0⟩],[],via (bE (aI (aI (aI aL e2) e3) e4) [] (cp.bL a0 a1) (((cp.aY k a0 a1 k).ap e8).triple) (bO aL (.one (.dp T2)) ((0:Int):Int))) (by kernel_rfl)⟩)))
theorem cp.ok (k:Nat):cW PR 35 (cp.sp k) := fK (cp.bh k) Tryz.func35 (by kernel_rfl) (fun x=>by kernel_rfl) fun x y hy=>(cp.dC k x.1 x.2.1).ap hy
def bf.code:Code:=Func.cd Tryz.f36
def bf.c2 (k:Nat) (a0:(List cI)) (a1:(List j5)):Option (Unit) := aR (fq (el FO a1 0).1 0) (some ()) (aR (jd (el FO a1 0).2.1 (len a0)) (some ()) (aR (jd (el FO a1 0).1 (el FO a1 0).2.1) (some ()) (none)))
def bf.c1 (k:Nat) (a0:(List cI)) (a1:(List j5)):Nat→Option (Unit ⊕ Unit) | 0=>none | n+1=>aR (fq 0 (len a1)) (eB (gn 0 a1) <|bG (bf.c2 k a0 a1) fun o10=>some (.inl ())) (some (.inr ()))
def bf (k:Nat) (a0:(List cI)) (a1:(List j5)):Option Int := bG (bA k a0) fun y1=>aR (j6 y1 0) (some y1) (aR (iS (len a1) 32) (some 2) (bG (bf.c1 k a0 a1 k) fun o12=>two o12 (fun y14=>some 1) (fun y16=>some 0)))
def bf.sp (k:Nat):Go.Sx.Spec:=⟨(.pair (.slice dG) (.pair (.slice kD) .unit)),(.one (.dp T2)),fun x=>bf k x.1 x.2.1,false⟩
def bf.cx (k:Nat):Go.Sx.Ctx:=⟨gi,[(63,bA.sp k)],eqs,81,0,[],false⟩
theorem bf.bh (k:Nat):bV PR (bf.cx k):=bD ck cg (fC (bA.ok k) bN.nil) c8.nil
def bf.ec (a0:(List cI)) (a1:(List j5)):SL:=⟨[(0,(.val (.slice dG) a0)),(6,(.val .clo (86,[]))),(8,(pz 0 0 0)),(17,(.val (.slice kD) a1)),(18,(.val T2 (len a1))),(19,(.val T2 (0:Int)))],[(0,.cells kD (el FO a1 (0:Int)))]⟩
def bf.eI (a0:(List cI)) (a1:(List j5)) (o:Unit):SL:=(fun v=>⟨[(0,(.val (.slice dG) a0)),(6,(.val .clo (86,[]))),(8,(pz 0 0 0)),(17,(.val (.slice kD) a1)),(18,(.val T2 (len a1))),(19,(.val T2 (0:Int))),(41,(.tup [])),(42,(.tup [])),(43,(.tup [])),(44,(.tup [])),(45,(.tup [])),(48,(.tup [])),(49,(.tup [])),(50,(.tup [])),(51,(.tup [])),(52,(.tup [])),(55,(.tup [])),(56,(.tup [])),(57,(.tup [])),(60,(.tup [])),(61,(.tup [])),(62,(.tup [])),(63,(.val T4 true))],[(0,.cells kD (el FO a1 (0:Int)))]⟩) o
def bf.iZ (o:Unit):Ex:=(fun _=>.normal) o
def bf.iX (o:Unit):Nat:=(fun _=>1) o
theorem bf.cL (k:Nat) (a0:(List cI)) (a1:(List j5)):cf (bf.c2 k a0 a1) fun o=>Triple PR (bf.cx k) (sub bf.code [1,1,1,1,0,1,0,0,1,1,0,0,1,0,0]) 1 (bf.ec a0 a1) (bf.iZ o) (bf.iX o) (bf.eI a0 a1 o):=by unfold bf.c2; exact oF (fun e7=>oS (tW (bf.bh k) hmix [tT,tT,tT,tT,tT,tT,tT,tT,tT,tT,tT,tT,tT,tT,tT,tT,tT,tT,tT,tT,tT,tT,tT,tT,tT,tT,tT,tT,tT,tT,tT,tT,tT,tT] [] [(0,0)] (via (a6 (aI (aI (aI (aI (aI (aI (aI (aI (aI (aI (aI (aI (aI (aI (aI (aI (aI (aI (aI (aI (aI (aI (aI (aI (aI (aI (aI (aI (aI (aI (aI (aI aL e7) e7) e7) e7) e7) e7) tt) tt) tt) tt) tt) tt) tt) tt) tt) tt) tt) tt) tt) tt) tt) tt) tt) tt) tt) tt) tt) tt) tt) tt) tt) tt) .normal [(0,0)] (bf.eI a0 a1 ())) (by kernel_rfl)))) (fun e7=>oF (fun e8=>oS (tW (bf.bh k) hmix [fF,fF,fF,fF,fF,fF,tT,tT,tT,tT,tT,tT,tT,tT,tT,tT,tT,tT,tT,tT,tT,tT,tT,tT,tT,tT,tT,tT,tT,tT,tT,tT,tT,tT] [] [(0,0)] (via (a6 (aI (aI (aI (aI (aI (aI (aI (aI (aI (aI (aI (aI (aI (aI (aI (aI (aI (aI (aI (aI (aI (aI (aI (aI (aI (aI (aI (aI (aI (aI (aI (aI aL e7) e7) e7) e7) e7) e7) e8) e8) e8) e8) e8) e8) tt) tt) tt) tt) tt) tt) tt) tt) tt) tt) tt) tt) tt) tt) tt) tt) tt) tt) tt) tt) .normal [(0,0)] (bf.eI a0 a1 ())) (by kernel_rfl)))) (fun e8=>oF (fun e9=>oS (tW (bf.bh k) hmix [fF,fF,fF,fF,fF,fF,fF,fF,fF,fF,fF,fF,tT,tT,tT,tT,tT,tT,tT,tT,tT,tT,tT,tT,tT,tT,tT,tT,tT,tT,tT,tT,tT,tT] [] [(0,0)] (via (a6 (aI (aI (aI (aI (aI (aI (aI (aI (aI (aI (aI (aI (aI (aI (aI (aI (aI (aI (aI (aI (aI (aI (aI (aI (aI (aI (aI (aI (aI (aI (aI (aI aL e7) e7) e7) e7) e7) e7) e8) e8) e8) e8) e8) e8) e9) e9) e9) e9) e9) e9) tt) tt) tt) tt) tt) tt) tt) tt) tt) tt) tt) tt) tt) tt) .normal [(0,0)] (bf.eI a0 a1 ())) (by kernel_rfl)))) (fun e9=>cf.none)))
def bf.bL (a0:(List cI)) (a1:(List j5)):SL:=⟨[(0,(.val (.slice dG) a0)),(6,(.val .clo (86,[]))),(17,(.val (.slice kD) a1)),(18,(.val T2 (len a1))),(19,(.val T2 (0:Int)))],[]⟩
def bf.cA (o:Unit ⊕ Unit):SL:=(fun o=>two o (fun v=>⟨[(4,(.val T2 (1:Int)))],[]⟩) (fun v=>⟨[],[]⟩)) o
def bf.gj (o:Unit ⊕ Unit):Ex:=(fun o=>two o (fun _=>.ret) (fun _=>(.exit 0))) o
def bf.gk (o:Unit ⊕ Unit):Nat:=(fun o=>two o (fun _=>0) (fun _=>0)) o
theorem bf.aY (k:Nat) (a0:(List cI)) (a1:(List j5)):∀ (n:Nat),cf (bf.c1 k a0 a1 n) fun o=>ct PR (bf.cx k) (sub bf.code [1,1,1,1,0,1,0,0]) 0 (bf.bL a0 a1) (bf.gj o) (bf.gk o) (bf.cA o) | 0=>fun _ h=>nomatch h | n+1=>cf.of (bf.c1.eq_2 ..) (oF (fun e5=>oR fun h6=>oB fun o10 e11=>oS (bk (bf.bh k) hmix [tT,.cutR 10 ⟨[],[(0,3)],(bf.ec a0 a1),1,.normal,(bf.eI a0 a1 ()),1⟩,tT] [] [] gW (via (bE (aI (aI aL e5) h6) [(0,3)] (bf.ec a0 a1) (((bf.cL k a0 a1).ap e11)) (a6 (aI aL tt) .ret [] (bf.cA (.inl ())))) (by kernel_rfl)))) (fun e5=>oS (bk (bf.bh k) hmix [fF] [] [] (fX 0) (via (a6 (aI aL e5) (.exit 0) [] (bf.cA (.inr ()))) (by kernel_rfl)))))
theorem bf.dC (k:Nat) (a0:(List cI)) (a1:(List j5)):cf (bf k a0 a1) fun y=>wP (bf.cx k) bf.code (.pair (.slice dG) (.pair (.slice kD) .unit)) (a0,a1,()) Tryz.f36 (.one (.dp T2)) y:=by unfold bf; exact oB fun y1 e2=>oF (fun e3=>oS (⟨[rS T2 y1,tT],[],via (bO (aI (aI aL e2) e3) (.one (.dp T2)) (y1:Int)) (by kernel_rfl)⟩)) (fun e3=>oF (fun e4=>oS (⟨[rS T2 y1,fF,tT],[],via (bO (aI (aI (aI aL e2) e3) e4) (.one (.dp T2)) ((2:Int):Int)) (by kernel_rfl)⟩)) (fun e4=>oB fun o12 e13=>cf.two (fun y14 e15=>oS (⟨[rS T2 y1,fF,fF,.cut ⟨[],[],(bf.bL a0 a1),0,.ret,(bf.cA (.inl ())),0⟩],[],via (bE (aI (aI (aI aL e2) e3) e4) [] (bf.bL a0 a1) (((bf.aY k a0 a1 k).ap (e13.trans (congrArg some e15))).triple) (bO aL (.one (.dp T2)) ((1:Int):Int))) (by kernel_rfl)⟩)) (fun y16 e17=>oS (⟨[rS T2 y1,fF,fF,.cut ⟨[],[],(bf.bL a0 a1),0,(.exit 0),(bf.cA (.inr ())),0⟩],[],via (bE (aI (aI (aI aL e2) e3) e4) [] (bf.bL a0 a1) (((bf.aY k a0 a1 k).ap (e13.trans (congrArg some e17))).triple) (bO aL (.one (.dp T2)) ((0:Int):Int))) (by kernel_rfl)⟩))))
theorem bf.ok (k:Nat):cW PR 36 (bf.sp k) := fK (bf.bh k) Tryz.func36 (by kernel_rfl) (fun x=>by kernel_rfl) fun x y hy=>(bf.dC k x.1 x.2.1).ap hy
end Go.Proofs.T1
