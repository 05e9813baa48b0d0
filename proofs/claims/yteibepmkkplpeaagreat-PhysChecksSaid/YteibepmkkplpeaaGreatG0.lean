import Derived.Test.YteibepmkkplpeaaGreatSxEq
import Derived.Test.YteibepmkkplpeaaGreatProg
namespace Go.Proofs.T1
open Go Go.Sx Go.Proofs
noncomputable abbrev PR:Program:=Tryz.prog
theorem hmix:PR.follows .mixedOrders=true:=by kernel_rfl
abbrev T2:Ty:=(.int .i64)
abbrev T4:Ty:=.bool
abbrev dx:Ty:=(.int .u64)
abbrev zn:Ty:=(.int .u32)
abbrev bN:Ty:=(.pair T2 (.pair T2 .unit))
abbrev bm:Type:=(Int × (Int × Unit))
abbrev ea:bm:=((0:Int),(0:Int),())
abbrev gh:Ty:=(.pair T2 (.pair dx .unit))
abbrev hN:Type:=(Int × (Int × Unit))
abbrev eW:Ty:=(.slice bN)
abbrev iX:Ty:=(.slice T2)
abbrev eG:Ty:=(.arr 8 zn)
abbrev cK:Ty:=(.pair bN (.pair bN (.pair T2 (.pair T2 (.pair T2 (.pair T2 (.pair T2 (.pair T2 (.pair eW (.pair T4 (.pair T2 .unit)))))))))))
abbrev bK:Type:=(bm × (bm × (Int × (Int × (Int × (Int × (Int × (Int × ((List bm) × (Bool × (Int × Unit)))))))))))
abbrev al:bK:=(((0:Int),(0:Int),()),((0:Int),(0:Int),()),(0:Int),(0:Int),(0:Int),(0:Int),(0:Int),(0:Int),[],false,(0:Int),())
abbrev dW:Ty:=(.pair T2 (.pair T2 (.pair T2 (.pair bN (.pair bN (.pair T2 bN))))))
abbrev dA:Type:=(Int × (Int × (Int × (bm × (bm × (Int × bm))))))
abbrev aZ:dA:=((0:Int),(0:Int),(0:Int),((0:Int),(0:Int),()),((0:Int),(0:Int),()),(0:Int),(0:Int),(0:Int),())
abbrev gm:Ty:=(.pair bN (.pair T2 (.pair T2 bN)))
abbrev gE:Type:=(bm × (Int × (Int × bm)))
abbrev nk:gE:=(((0:Int),(0:Int),()),(0:Int),(0:Int),(0:Int),(0:Int),())
abbrev gQ:Ty:=(.pair T2 (.pair T2 (.pair bN (.pair bN (.pair T2 .unit)))))
abbrev gu:Type:=(Int × (Int × (bm × (bm × (Int × Unit)))))
abbrev fY:gu:=((0:Int),(0:Int),((0:Int),(0:Int),()),((0:Int),(0:Int),()),(0:Int),())
abbrev eN:Ty:=(.pair bN (.pair bN .unit))
abbrev eP:Type:=(bm × (bm × Unit))
abbrev ia:eP:=(((0:Int),(0:Int),()),((0:Int),(0:Int),()),())
abbrev kJ:Ty:=(.pair (.slice cK) (.pair (.slice gQ) (.pair (.slice dW) (.pair bN (.pair T2 .unit)))))
abbrev jr:Type:=((List bK) × ((List gu) × ((List dA) × (bm × (Int × Unit)))))
def z8:ByteArray:={ data:=[0,1,2,2,3,3,3,3,4,4,4,4,4,4,4,4,5,5,5,5,5,5,5,5,5,5,5,5,5,5,5,5,6,6,6,6,6,6,6,6,6,6,6,6,6,6,6,6,6,6,6,6,6,6,6,6,6,6,6,6,6,6,6,6,7,7,7,7,7,7,7,7,7,7,7,7,7,7,7,7,7,7,7,7,7,7,7,7,7,7,7,7,7,7,7,7,7,7,7,7,7,7,7,7,7,7,7,7,7,7,7,7,7,7,7,7,7,7,7,7,7,7,7,7,7,7,7,7,8,8,8,8,8,8,8,8,8,8,8,8,8,8,8,8,8,8,8,8,8,8,8,8,8,8,8,8,8,8,8,8,8,8,8,8,8,8,8,8,8,8,8,8,8,8,8,8,8,8,8,8,8,8,8,8,8,8,8,8,8,8,8,8,8,8,8,8,8,8,8,8,8,8,8,8,8,8,8,8,8,8,8,8,8,8,8,8,8,8,8,8,8,8,8,8,8,8,8,8,8,8,8,8,8,8,8,8,8,8,8,8,8,8,8,8,8,8,8,8,8,8,8,8,8,8,8,8].toArray }
def eY:List (Nat × Ty):=[(2,T2),(3,T2),(4,T4),(5,(.int .u8)),(7,(.pair T2 (.pair T2 (.pair T4 (.pair (.int .u8) .unit))))),(12,dx),(21,(.int .i32)),(22,(.slice cK)),(23,(.slice gQ)),(24,(.slice dW)),(25,bN),(26,bN),(27,kJ),(28,kJ),(30,iX),(31,T2),(41,eW),(42,cK),(43,cK),(44,dW),(45,dW),(63,(.slice (.pair bN (.pair bN bN)))),(71,(.slice (.arr 2 T2))),(72,gQ),(73,gQ),(74,(.arr 2 T2)),(76,(.pair iX .unit)),(77,(.pair iX .unit)),(78,.nilf),(82,(.pair bN (.pair bN bN))),(83,(.pair bN (.pair bN bN))),(101,(.pair T4 bN)),(102,(.pair T4 bN)),(121,dx),(122,gh),(123,gh),(135,(.slice eN)),(136,eN),(137,eN),(145,(.slice T4)),(151,(.slice gm)),(152,(.pair (.slice cK) (.pair (.slice dW) (.pair (.slice gm) .unit)))),(153,(.pair (.slice cK) (.pair (.slice dW) (.pair (.slice gm) .unit)))),(154,gm),(155,gm),(168,(.arr 2 eW)),(169,(.slice (.arr 2 eW))),(179,bN),(180,bN),(202,dx),(219,zn),(223,(.arr 65 T2)),(225,eG),(226,eG),(231,T2),(244,dx)]
theorem bV:zy PR eY=true:=by kernel_rfl
def eqs:List (Nat × Ty):=[(4,T4),(26,bN),(123,gh)]
theorem bX:∀ t ty,(t,ty)∈eqs→sZ PR t ty:=zh (by kernel_rfl)
theorem ay : True := True.intro
theorem cn {a b:Bool} (h:a=b):not a=not b:=congrArg not h
abbrev pz (a b c:Nat):AV:=.val .ptr ⟨a,b,0,0,c⟩
abbrev ow (b:Nat):AV:=.val .own b
abbrev wP (c:Go.Sx.Ctx) (d:Code) (ps:Ty) (x:ps.den) (f:Func) (rs:Rs) (y:rs.den):Prop:=∃ w c0,exec PR c d 0 (entry ps x).st w (l4 c f c0 rs y)
theorem fK {c:Go.Sx.Ctx} (hc:bJ PR c) {f:FuncId} {fn:Func} {d:Code} {sp:Go.Sx.Spec} (hf:PR.funcs[f]?=some fn) (e:(fn.body,fn.name=="runtime.NumGoroutine",c.n,c.pin,sp.wr,sp.ps.lp,sp.rs.deep,sp.rs.proper)=(some d,false,fn.ntmps,0,false,true,true,true)) (hl:∀ x:sp.ps.den,Nat.ble (il sp.ps 0 x).length fn.ntmps=true) (h:∀ (x:sp.ps.den) (y:sp.rs.den),sp.f x=some y→wP c d sp.ps x fn sp.rs y):cS PR f sp:=by
 simp only [Prod.mk.injEq] at e
 obtain ⟨e1,e2,e3,e4,e5,e6,e7,e8⟩:=e
 exact Aa hc hmix hf e1 e2 e3 e4 e5 e6 e7 e8 (fun x=>Nat.le_of_ble_eq_true (hl x)) h
theorem aI {a b:Prop} (x:a) (y:b):a∧b:=⟨x,y⟩
abbrev tT:gO:=.dec true
abbrev fF:gO:=.dec false
abbrev rS (t:Ty) (y:(Rs.one (.dp t)).den):gO:=.res (.one (.dp t)) y
end Go.Proofs.T1
