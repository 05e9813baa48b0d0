import Derived.Test.YteibepmkkplpeaaGreatSxEq
import Derived.Test.YteibepmkkplpeaaGreatProg
namespace Go.Proofs.T1
open Go Go.Sx Go.Proofs
noncomputable abbrev PR:Program:=Tryz.prog
theorem hmix:PR.follows .mixedOrders=true:=by kernel_rfl
abbrev T2:Ty:=(.int .i64)
abbrev T4:Ty:=.bool
abbrev dJ:Ty:=(.int .u64)
abbrev Gl:Ty:=(.int .u32)
abbrev bJ:Ty:=(.pair T2 (.pair T2 .unit))
abbrev aB:Type:=(Int × (Int × Unit))
abbrev bK:aB:=((0:Int),(0:Int),())
abbrev fT:Ty:=(.pair T2 (.pair dJ .unit))
abbrev gz:Type:=(Int × (Int × Unit))
abbrev dS:Ty:=(.slice bJ)
abbrev gV:Ty:=(.slice T2)
abbrev Gq:Ty:=(.arr 8 Gl)
abbrev dG:Ty:=(.pair bJ (.pair bJ (.pair T2 (.pair T2 (.pair T2 (.pair T2 (.pair T2 (.pair T2 (.pair dS (.pair T4 (.pair T2 .unit)))))))))))
abbrev cI:Type:=(aB × (aB × (Int × (Int × (Int × (Int × (Int × (Int × ((List aB) × (Bool × (Int × Unit)))))))))))
abbrev ao:cI:=(((0:Int),(0:Int),()),((0:Int),(0:Int),()),(0:Int),(0:Int),(0:Int),(0:Int),(0:Int),(0:Int),[],false,(0:Int),())
abbrev ij:Ty:=(.pair T2 (.pair T2 (.pair T2 (.pair bJ (.pair bJ (.pair T2 bJ))))))
abbrev iA:Type:=(Int × (Int × (Int × (aB × (aB × (Int × aB))))))
abbrev Fs:iA:=((0:Int),(0:Int),(0:Int),((0:Int),(0:Int),()),((0:Int),(0:Int),()),(0:Int),(0:Int),(0:Int),())
abbrev BR:Ty:=(.pair bJ (.pair T2 (.pair T2 bJ)))
abbrev kD:Ty:=(.pair T2 (.pair T2 (.pair bJ (.pair bJ (.pair T2 .unit)))))
abbrev j5:Type:=(Int × (Int × (aB × (aB × (Int × Unit)))))
abbrev FO:j5:=((0:Int),(0:Int),((0:Int),(0:Int),()),((0:Int),(0:Int),()),(0:Int),())
abbrev fG:Ty:=(.pair bJ (.pair bJ .unit))
abbrev fE:Type:=(aB × (aB × Unit))
abbrev iY:fE:=(((0:Int),(0:Int),()),((0:Int),(0:Int),()),())
abbrev sn:Ty:=(.pair (.slice dG) (.pair (.slice kD) (.pair (.slice ij) (.pair bJ (.pair T2 .unit)))))
abbrev so:Type:=((List cI) × ((List j5) × ((List iA) × (aB × (Int × Unit)))))
def Ad:ByteArray:={ data:=[0,1,2,2,3,3,3,3,4,4,4,4,4,4,4,4,5,5,5,5,5,5,5,5,5,5,5,5,5,5,5,5,6,6,6,6,6,6,6,6,6,6,6,6,6,6,6,6,6,6,6,6,6,6,6,6,6,6,6,6,6,6,6,6,7,7,7,7,7,7,7,7,7,7,7,7,7,7,7,7,7,7,7,7,7,7,7,7,7,7,7,7,7,7,7,7,7,7,7,7,7,7,7,7,7,7,7,7,7,7,7,7,7,7,7,7,7,7,7,7,7,7,7,7,7,7,7,7,8,8,8,8,8,8,8,8,8,8,8,8,8,8,8,8,8,8,8,8,8,8,8,8,8,8,8,8,8,8,8,8,8,8,8,8,8,8,8,8,8,8,8,8,8,8,8,8,8,8,8,8,8,8,8,8,8,8,8,8,8,8,8,8,8,8,8,8,8,8,8,8,8,8,8,8,8,8,8,8,8,8,8,8,8,8,8,8,8,8,8,8,8,8,8,8,8,8,8,8,8,8,8,8,8,8,8,8,8,8,8,8,8,8,8,8,8,8,8,8,8,8,8,8,8,8,8,8].toArray }
def gi:List (Nat × Ty):=[(2,T2),(3,T2),(4,T4),(5,(.int .u8)),(7,(.pair T2 (.pair T2 (.pair T4 (.pair (.int .u8) .unit))))),(12,dJ),(21,(.int .i32)),(22,(.slice dG)),(23,(.slice kD)),(24,(.slice ij)),(25,bJ),(26,bJ),(27,sn),(28,sn),(30,gV),(31,T2),(41,dS),(42,dG),(43,dG),(44,ij),(45,ij),(63,(.slice (.pair bJ (.pair bJ bJ)))),(71,(.slice (.arr 2 T2))),(72,kD),(73,kD),(74,(.arr 2 T2)),(76,(.pair gV .unit)),(77,(.pair gV .unit)),(78,.nilf),(82,(.pair bJ (.pair bJ bJ))),(83,(.pair bJ (.pair bJ bJ))),(101,(.pair T4 bJ)),(102,(.pair T4 bJ)),(121,dJ),(122,fT),(123,fT),(135,(.slice fG)),(136,fG),(137,fG),(145,(.slice T4)),(151,(.slice BR)),(152,(.pair (.slice dG) (.pair (.slice ij) (.pair (.slice BR) .unit)))),(153,(.pair (.slice dG) (.pair (.slice ij) (.pair (.slice BR) .unit)))),(154,BR),(155,BR),(168,(.arr 2 dS)),(169,(.slice (.arr 2 dS))),(179,bJ),(180,bJ),(202,dJ),(219,Gl),(223,(.arr 65 T2)),(225,Gq),(226,Gq),(231,T2),(244,dJ)]
theorem ck:ET PR gi=true:=by kernel_rfl
def eqs:List (Nat × Ty):=[(4,T4),(26,bJ),(123,fT)]
theorem cg:∀ t ty,(t,ty)∈eqs→wB PR t ty:=Fe (by kernel_rfl)
theorem aL : True := True.intro
theorem cn {a b:Bool} (h:a=b):not a=not b:=congrArg not h
abbrev pz (a b c:Nat):AV:=.val .ptr ⟨a,b,0,0,c⟩
abbrev ow (b:Nat):AV:=.val .own b
abbrev wP (c:Go.Sx.Ctx) (d:Code) (ps:Ty) (x:ps.den) (f:Func) (rs:Rs) (y:rs.den):Prop:=∃ w c0,exec PR c d 0 (entry ps x).st w (qE c f c0 rs y)
theorem fK {c:Go.Sx.Ctx} (hc:bV PR c) {f:FuncId} {fn:Func} {d:Code} {sp:Go.Sx.Spec} (hf:PR.funcs[f]?=some fn) (e:(fn.body,fn.name=="runtime.NumGoroutine",c.n,c.pin,sp.wr,sp.ps.mH,sp.rs.deep,sp.rs.proper)=(some d,false,fn.ntmps,0,false,true,true,true)) (hl:∀ x:sp.ps.den,Nat.ble (ix sp.ps 0 x).length fn.ntmps=true) (h:∀ (x:sp.ps.den) (y:sp.rs.den),sp.f x=some y→wP c d sp.ps x fn sp.rs y):cW PR f sp:=by
 simp only [Prod.mk.injEq] at e
 obtain ⟨e1,e2,e3,e4,e5,e6,e7,e8⟩:=e
 exact FW hc hmix hf e1 e2 e3 e4 e5 e6 e7 e8 (fun x=>Nat.le_of_ble_eq_true (hl x)) h
theorem aI {a b:Prop} (x:a) (y:b):a∧b:=⟨x,y⟩
abbrev tT:jl:=.dec true
abbrev fF:jl:=.dec false
abbrev rS (t:Ty) (y:(Rs.one (.dp t)).den):jl:=.res (.one (.dp t)) y
end Go.Proofs.T1
