import Derived.Test.YtipddonkkhjegaaGreatSxEq
import Derived.Test.YtipddonkkhjegaaGreatProg
namespace Go.Proofs.T1
open Go Go.Sx Go.Proofs
noncomputable abbrev PR:Program:=Tryz.prog
theorem hmix:PR.follows .mixedOrders=true:=by kernel_rfl
abbrev T2:Ty:=(.int .i64)
abbrev T4:Ty:=.bool
abbrev T12:Ty:=(.int .u64)
abbrev T166:Ty:=(.int .u32)
abbrev T26:Ty:=(.pair T2 (.pair T2 .unit))
abbrev V26:Type:=(Int × (Int × Unit))
abbrev Z26:V26:=((0:Int),(0:Int),())
abbrev T115:Ty:=(.pair T2 (.pair T12 .unit))
abbrev V115:Type:=(Int × (Int × Unit))
abbrev T56:Ty:=(.slice T26)
abbrev T22:Ty:=(.slice T2)
abbrev T167:Ty:=(.arr 8 T166)
abbrev T57:Ty:=(.pair T26 (.pair T26 (.pair T2 (.pair T2 (.pair T2 (.pair T2 (.pair T2 (.pair T2 (.pair T56 (.pair T4 (.pair T2 .unit)))))))))))
abbrev V57:Type:=(V26 × (V26 × (Int × (Int × (Int × (Int × (Int × (Int × ((List V26) × (Bool × (Int × Unit)))))))))))
abbrev Z57:V57:=(((0:Int),(0:Int),()),((0:Int),(0:Int),()),(0:Int),(0:Int),(0:Int),(0:Int),(0:Int),(0:Int),[],false,(0:Int),())
abbrev T39:Ty:=(.pair T2 (.pair T2 (.pair T2 (.pair T26 (.pair T26 (.pair T2 T26))))))
abbrev V39:Type:=(Int × (Int × (Int × (V26 × (V26 × (Int × V26))))))
abbrev Z39:V39:=((0:Int),(0:Int),(0:Int),((0:Int),(0:Int),()),((0:Int),(0:Int),()),(0:Int),(0:Int),(0:Int),())
abbrev T96:Ty:=(.pair T26 (.pair T2 (.pair T2 T26)))
abbrev V96:Type:=(V26 × (Int × (Int × V26)))
abbrev Z96:V96:=(((0:Int),(0:Int),()),(0:Int),(0:Int),(0:Int),(0:Int),())
abbrev T66:Ty:=(.pair T2 (.pair T2 (.pair T26 (.pair T26 (.pair T2 .unit)))))
abbrev V66:Type:=(Int × (Int × (V26 × (V26 × (Int × Unit)))))
abbrev T74:Ty:=(.pair T26 (.pair T26 .unit))
abbrev V74:Type:=(V26 × (V26 × Unit))
abbrev Z74:V74:=(((0:Int),(0:Int),()),((0:Int),(0:Int),()),())
abbrev T28:Ty:=(.pair (.slice T57) (.pair (.slice T66) (.pair (.slice T39) (.pair T26 (.pair T2 .unit)))))
abbrev V28:Type:=((List V57) × ((List V66) × ((List V39) × (V26 × (Int × Unit)))))
def str0:ByteArray:={ data:=[0,1,2,2,3,3,3,3,4,4,4,4,4,4,4,4,5,5,5,5,5,5,5,5,5,5,5,5,5,5,5,5,6,6,6,6,6,6,6,6,6,6,6,6,6,6,6,6,6,6,6,6,6,6,6,6,6,6,6,6,6,6,6,6,7,7,7,7,7,7,7,7,7,7,7,7,7,7,7,7,7,7,7,7,7,7,7,7,7,7,7,7,7,7,7,7,7,7,7,7,7,7,7,7,7,7,7,7,7,7,7,7,7,7,7,7,7,7,7,7,7,7,7,7,7,7,7,7,8,8,8,8,8,8,8,8,8,8,8,8,8,8,8,8,8,8,8,8,8,8,8,8,8,8,8,8,8,8,8,8,8,8,8,8,8,8,8,8,8,8,8,8,8,8,8,8,8,8,8,8,8,8,8,8,8,8,8,8,8,8,8,8,8,8,8,8,8,8,8,8,8,8,8,8,8,8,8,8,8,8,8,8,8,8,8,8,8,8,8,8,8,8,8,8,8,8,8,8,8,8,8,8,8,8,8,8,8,8,8,8,8,8,8,8,8,8,8,8,8,8,8,8,8,8,8,8].toArray }
def tys:List (Nat × Ty):=[(2,T2),(3,T2),(4,T4),(5,(.int .u8)),(7,(.pair T2 (.pair T2 (.pair T4 (.pair (.int .u8) .unit))))),(12,T12),(21,(.int .i32)),(22,T22),(23,(.slice T57)),(24,(.slice T66)),(25,(.slice T39)),(26,T26),(27,T26),(28,T28),(29,T28),(31,T2),(34,(.slice (.arr 2 T2))),(39,T39),(40,T39),(44,(.arr 2 T2)),(56,T56),(57,T57),(58,T57),(62,(.pair T22 .unit)),(63,(.pair T22 .unit)),(66,T66),(67,T66),(68,(.slice (.pair T26 (.pair T26 T26)))),(71,(.pair T26 (.pair T26 T26))),(72,(.pair T26 (.pair T26 T26))),(73,(.slice T74)),(74,T74),(75,T74),(92,(.slice T96)),(93,(.pair (.slice T57) (.pair (.slice T39) (.pair (.slice T96) .unit)))),(94,(.pair (.slice T57) (.pair (.slice T39) (.pair (.slice T96) .unit)))),(96,T96),(97,T96),(104,(.pair T4 T26)),(105,(.pair T4 T26)),(114,T12),(115,T115),(116,T115),(141,(.arr 2 T26)),(150,(.arr 2 T56)),(151,(.slice (.arr 2 T56))),(163,T12),(166,T166),(167,T167),(168,T167),(177,(.slice T167)),(188,T2),(204,(.arr 65 T2)),(206,T12)]
theorem tysOk:tysB PR tys=true:=by kernel_rfl
def eqs:List (Nat × Ty):=[(4,T4),(27,T26),(40,T39),(44,(.arr 2 T2)),(116,T115)]
theorem eqsOk:∀ t ty,(t,ty)∈eqs→EqOk PR t ty:=eqs_ok (by kernel_rfl)
theorem tv0 : True := True.intro
theorem aI {a b:Prop} (x:a) (y:b):a∧b:=⟨x,y⟩
abbrev tT:Ans:=.dec true
abbrev fF:Ans:=.dec false
abbrev rS (t:Ty) (y:(Rs.one (.dp t)).den):Ans:=.res (.one (.dp t)) y
end Go.Proofs.T1
