import Derived.Test.YtipddonkkhjegaaGreatSxEq
import Derived.Test.YtipddonkkhjegaaGreatProg
namespace Go.Proofs.T1
open Go Go.Sx Go.Proofs
noncomputable abbrev PR:Program:=Tryz.prog
theorem hmix:PR.follows .mixedOrders=true:=by kernel_rfl
abbrev T2:Ty:=(.int .i64)
abbrev T4:Ty:=.bool
abbrev dD:Ty:=(.int .u64)
abbrev Fw:Ty:=(.int .u32)
abbrev bE:Ty:=(.pair T2 (.pair T2 .unit))
abbrev ay:Type:=(Int × (Int × Unit))
abbrev cH:ay:=((0:Int),(0:Int),())
abbrev gg:Ty:=(.pair T2 (.pair dD .unit))
abbrev gV:Type:=(Int × (Int × Unit))
abbrev dy:Ty:=(.slice bE)
abbrev nm:Ty:=(.slice T2)
abbrev cG:Ty:=(.arr 8 Fw)
abbrev gH:Ty:=(.pair bE (.pair bE (.pair T2 (.pair T2 (.pair T2 (.pair T2 (.pair T2 (.pair T2 (.pair dy (.pair T4 (.pair T2 .unit)))))))))))
abbrev fQ:Type:=(ay × (ay × (Int × (Int × (Int × (Int × (Int × (Int × ((List ay) × (Bool × (Int × Unit)))))))))))
abbrev kG:fQ:=(((0:Int),(0:Int),()),((0:Int),(0:Int),()),(0:Int),(0:Int),(0:Int),(0:Int),(0:Int),(0:Int),[],false,(0:Int),())
abbrev dY:Ty:=(.pair T2 (.pair T2 (.pair T2 (.pair bE (.pair bE (.pair T2 bE))))))
abbrev dV:Type:=(Int × (Int × (Int × (ay × (ay × (Int × ay))))))
abbrev aR:dV:=((0:Int),(0:Int),(0:Int),((0:Int),(0:Int),()),((0:Int),(0:Int),()),(0:Int),(0:Int),(0:Int),())
abbrev GH:Ty:=(.pair bE (.pair T2 (.pair T2 bE)))
abbrev G6:Ty:=(.pair T2 (.pair T2 (.pair bE (.pair bE (.pair T2 .unit)))))
abbrev iC:Ty:=(.pair bE (.pair bE .unit))
abbrev iH:Type:=(ay × (ay × Unit))
abbrev rp:iH:=(((0:Int),(0:Int),()),((0:Int),(0:Int),()),())
abbrev Ho:Ty:=(.pair (.slice gH) (.pair (.slice G6) (.pair (.slice dY) (.pair bE (.pair T2 .unit)))))
def zD:ByteArray:={ data:=[0,1,2,2,3,3,3,3,4,4,4,4,4,4,4,4,5,5,5,5,5,5,5,5,5,5,5,5,5,5,5,5,6,6,6,6,6,6,6,6,6,6,6,6,6,6,6,6,6,6,6,6,6,6,6,6,6,6,6,6,6,6,6,6,7,7,7,7,7,7,7,7,7,7,7,7,7,7,7,7,7,7,7,7,7,7,7,7,7,7,7,7,7,7,7,7,7,7,7,7,7,7,7,7,7,7,7,7,7,7,7,7,7,7,7,7,7,7,7,7,7,7,7,7,7,7,7,7,8,8,8,8,8,8,8,8,8,8,8,8,8,8,8,8,8,8,8,8,8,8,8,8,8,8,8,8,8,8,8,8,8,8,8,8,8,8,8,8,8,8,8,8,8,8,8,8,8,8,8,8,8,8,8,8,8,8,8,8,8,8,8,8,8,8,8,8,8,8,8,8,8,8,8,8,8,8,8,8,8,8,8,8,8,8,8,8,8,8,8,8,8,8,8,8,8,8,8,8,8,8,8,8,8,8,8,8,8,8,8,8,8,8,8,8,8,8,8,8,8,8,8,8,8,8,8,8].toArray }
def fX:List (Nat × Ty):=[(2,T2),(3,T2),(4,T4),(5,(.int .u8)),(7,(.pair T2 (.pair T2 (.pair T4 (.pair (.int .u8) .unit))))),(12,dD),(21,(.int .i32)),(22,nm),(23,(.slice gH)),(24,(.slice G6)),(25,(.slice dY)),(26,bE),(27,bE),(28,Ho),(29,Ho),(31,T2),(34,(.slice (.arr 2 T2))),(39,dY),(40,dY),(44,(.arr 2 T2)),(56,dy),(57,gH),(58,gH),(62,(.pair nm .unit)),(63,(.pair nm .unit)),(66,G6),(67,G6),(68,(.slice (.pair bE (.pair bE bE)))),(71,(.pair bE (.pair bE bE))),(72,(.pair bE (.pair bE bE))),(73,(.slice iC)),(74,iC),(75,iC),(92,(.slice GH)),(93,(.pair (.slice gH) (.pair (.slice dY) (.pair (.slice GH) .unit)))),(94,(.pair (.slice gH) (.pair (.slice dY) (.pair (.slice GH) .unit)))),(96,GH),(97,GH),(104,(.pair T4 bE)),(105,(.pair T4 bE)),(114,dD),(115,gg),(116,gg),(141,(.arr 2 bE)),(150,(.arr 2 dy)),(151,(.slice (.arr 2 dy))),(163,dD),(166,Fw),(167,cG),(168,cG),(177,(.slice cG)),(188,T2),(204,(.arr 65 T2)),(206,dD)]
theorem cp:FG PR fX=true:=by kernel_rfl
def eqs:List (Nat × Ty):=[(4,T4),(27,bE),(40,dY),(44,(.arr 2 T2)),(116,gg)]
theorem cm:∀ t ty,(t,ty)∈eqs→wI PR t ty:=FU (by kernel_rfl)
theorem aK : True := True.intro
theorem cn {a b:Bool} (h:a=b):not a=not b:=congrArg not h
abbrev pz (a b c:Nat):AV:=.val .ptr ⟨a,b,0,0,c⟩
abbrev ow (b:Nat):AV:=.val .own b
abbrev wP (c:Go.Sx.Ctx) (d:Code) (ps:Ty) (x:ps.den) (f:Func) (rs:Rs) (y:rs.den):Prop:=∃ w c0,exec PR c d 0 (entry ps x).st w (uA c f c0 rs y)
theorem fK {c:Go.Sx.Ctx} (hc:b9 PR c) {f:FuncId} {fn:Func} {d:Code} {sp:Go.Sx.Spec} (hf:PR.funcs[f]?=some fn) (e:(fn.body,fn.name=="runtime.NumGoroutine",c.n,c.pin,sp.wr,sp.ps.mQ,sp.rs.deep,sp.rs.proper)=(some d,false,fn.ntmps,0,false,true,true,true)) (hl:∀ x:sp.ps.den,Nat.ble (iM sp.ps 0 x).length fn.ntmps=true) (h:∀ (x:sp.ps.den) (y:sp.rs.den),sp.f x=some y→wP c d sp.ps x fn sp.rs y):cT PR f sp:=by
 simp only [Prod.mk.injEq] at e
 obtain ⟨e1,e2,e3,e4,e5,e6,e7,e8⟩:=e
 exact Gz hc hmix hf e1 e2 e3 e4 e5 e6 e7 e8 (fun x=>Nat.le_of_ble_eq_true (hl x)) h
theorem aI {a b:Prop} (x:a) (y:b):a∧b:=⟨x,y⟩
abbrev tT:jv:=.dec true
abbrev fF:jv:=.dec false
abbrev rS (t:Ty) (y:(Rs.one (.dp t)).den):jv:=.res (.one (.dp t)) y
end Go.Proofs.T1
