import Derived.Test.YteibepmkkplpeaaGreatSxEq
import Derived.Test.YteibepmkkplpeaaGreatProg
namespace Go.Proofs.T1
open Go Go.Sx Go.Proofs
noncomputable abbrev PR:Program:=Tryz.prog
theorem hmix:PR.follows .mixedOrders=true:=by kernel_rfl
abbrev T2:Ty:=(.int .i64)
abbrev T4:Ty:=.bool
abbrev dC:Ty:=(.int .u64)
abbrev D9:Ty:=(.int .u32)
abbrev cq:Ty:=(.pair T2 (.pair T2 .unit))
abbrev aV:Type:=(Int × (Int × Unit))
abbrev dT:aV:=((0:Int),(0:Int),())
abbrev gw:Ty:=(.pair T2 (.pair dC .unit))
abbrev gL:Type:=(Int × (Int × Unit))
abbrev fM:Ty:=(.slice cq)
abbrev fD:Ty:=(.slice T2)
abbrev DO:Ty:=(.arr 8 D9)
abbrev dD:Ty:=(.pair cq (.pair cq (.pair T2 (.pair T2 (.pair T2 (.pair T2 (.pair T2 (.pair T2 (.pair fM (.pair T4 (.pair T2 .unit)))))))))))
abbrev ct:Type:=(aV × (aV × (Int × (Int × (Int × (Int × (Int × (Int × ((List aV) × (Bool × (Int × Unit)))))))))))
abbrev au:ct:=(((0:Int),(0:Int),()),((0:Int),(0:Int),()),(0:Int),(0:Int),(0:Int),(0:Int),(0:Int),(0:Int),[],false,(0:Int),())
abbrev fi:Ty:=(.pair T2 (.pair T2 (.pair T2 (.pair cq (.pair cq (.pair T2 cq))))))
abbrev dX:Type:=(Int × (Int × (Int × (aV × (aV × (Int × aV))))))
abbrev bf:dX:=((0:Int),(0:Int),(0:Int),((0:Int),(0:Int),()),((0:Int),(0:Int),()),(0:Int),(0:Int),(0:Int),())
abbrev yU:Ty:=(.pair cq (.pair T2 (.pair T2 cq)))
abbrev jv:Ty:=(.pair T2 (.pair T2 (.pair cq (.pair cq (.pair T2 .unit)))))
abbrev ix:Type:=(Int × (Int × (aV × (aV × (Int × Unit)))))
abbrev iS:ix:=((0:Int),(0:Int),((0:Int),(0:Int),()),((0:Int),(0:Int),()),(0:Int),())
abbrev fG:Ty:=(.pair cq (.pair cq .unit))
abbrev eW:Type:=(aV × (aV × Unit))
abbrev iv:eW:=(((0:Int),(0:Int),()),((0:Int),(0:Int),()),())
abbrev jS:Ty:=(.pair (.slice dD) (.pair (.slice jv) (.pair (.slice fi) (.pair cq (.pair T2 .unit)))))
abbrev iR:Type:=((List ct) × ((List ix) × ((List dX) × (aV × (Int × Unit)))))
def xA:ByteArray:={ data:=[0,1,2,2,3,3,3,3,4,4,4,4,4,4,4,4,5,5,5,5,5,5,5,5,5,5,5,5,5,5,5,5,6,6,6,6,6,6,6,6,6,6,6,6,6,6,6,6,6,6,6,6,6,6,6,6,6,6,6,6,6,6,6,6,7,7,7,7,7,7,7,7,7,7,7,7,7,7,7,7,7,7,7,7,7,7,7,7,7,7,7,7,7,7,7,7,7,7,7,7,7,7,7,7,7,7,7,7,7,7,7,7,7,7,7,7,7,7,7,7,7,7,7,7,7,7,7,7,8,8,8,8,8,8,8,8,8,8,8,8,8,8,8,8,8,8,8,8,8,8,8,8,8,8,8,8,8,8,8,8,8,8,8,8,8,8,8,8,8,8,8,8,8,8,8,8,8,8,8,8,8,8,8,8,8,8,8,8,8,8,8,8,8,8,8,8,8,8,8,8,8,8,8,8,8,8,8,8,8,8,8,8,8,8,8,8,8,8,8,8,8,8,8,8,8,8,8,8,8,8,8,8,8,8,8,8,8,8,8,8,8,8,8,8,8,8,8,8,8,8,8,8,8,8,8,8].toArray }
def gh:List (Nat × Ty):=[(2,T2),(3,T2),(4,T4),(5,(.int .u8)),(7,(.pair T2 (.pair T2 (.pair T4 (.pair (.int .u8) .unit))))),(12,dC),(21,(.int .i32)),(22,(.slice dD)),(23,(.slice jv)),(24,(.slice fi)),(25,cq),(26,cq),(27,jS),(28,jS),(30,fD),(31,T2),(41,fM),(42,dD),(43,dD),(44,fi),(45,fi),(63,(.slice (.pair cq (.pair cq cq)))),(71,(.slice (.arr 2 T2))),(72,jv),(73,jv),(74,(.arr 2 T2)),(76,(.pair fD .unit)),(77,(.pair fD .unit)),(78,.nilf),(82,(.pair cq (.pair cq cq))),(83,(.pair cq (.pair cq cq))),(101,(.pair T4 cq)),(102,(.pair T4 cq)),(121,dC),(122,gw),(123,gw),(135,(.slice fG)),(136,fG),(137,fG),(145,(.slice T4)),(151,(.slice yU)),(152,(.pair (.slice dD) (.pair (.slice fi) (.pair (.slice yU) .unit)))),(153,(.pair (.slice dD) (.pair (.slice fi) (.pair (.slice yU) .unit)))),(154,yU),(155,yU),(168,(.arr 2 fM)),(169,(.slice (.arr 2 fM))),(179,cq),(180,cq),(202,dC),(219,D9),(223,(.arr 65 T2)),(225,DO),(226,DO),(231,T2),(244,dC)]
theorem cB:Dw PR gh=true:=by kernel_rfl
def eqs:List (Nat × Ty):=[(4,T4),(26,cq),(123,gw)]
theorem cC:∀ t ty,(t,ty)∈eqs→uX PR t ty:=C4 (by kernel_rfl)
theorem aM : True := True.intro
theorem cn {a b:Bool} (h:a=b):not a=not b:=congrArg not h
abbrev pz (a b c:Nat):AV:=.val .ptr ⟨a,b,0,0,c⟩
abbrev ow (b:Nat):AV:=.val .own b
abbrev wP (c:Go.Sx.Ctx) (d:Code) (ps:Ty) (x:ps.den) (f:Func) (rs:Rs) (y:rs.den):Prop:=∃ w c0,exec PR c d 0 (entry ps x).st w (qE c f c0 rs y)
theorem fK {c:Go.Sx.Ctx} (hc:cf PR c) {f:FuncId} {fn:Func} {d:Code} {sp:Go.Sx.Spec} (hf:PR.funcs[f]?=some fn) (e:(fn.body,fn.name=="runtime.NumGoroutine",c.n,c.pin,sp.wr,sp.ps.lS,sp.rs.deep,sp.rs.proper)=(some d,false,fn.ntmps,0,false,true,true,true)) (hl:∀ x:sp.ps.den,Nat.ble (gS sp.ps 0 x).length fn.ntmps=true) (h:∀ (x:sp.ps.den) (y:sp.rs.den),sp.f x=some y→wP c d sp.ps x fn sp.rs y):dh PR f sp:=by
 simp only [Prod.mk.injEq] at e
 obtain ⟨e1,e2,e3,e4,e5,e6,e7,e8⟩:=e
 exact D6 hc hmix hf e1 e2 e3 e4 e5 e6 e7 e8 (fun x=>Nat.le_of_ble_eq_true (hl x)) h
theorem aI {a b:Prop} (x:a) (y:b):a∧b:=⟨x,y⟩
abbrev tT:ig:=.dec true
abbrev fF:ig:=.dec false
abbrev rS (t:Ty) (y:(Rs.one (.dp t)).den):ig:=.res (.one (.dp t)) y
end Go.Proofs.T1
