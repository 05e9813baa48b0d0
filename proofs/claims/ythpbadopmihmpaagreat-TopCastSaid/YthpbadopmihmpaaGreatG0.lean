import Derived.Test.YthpbadopmihmpaaGreatSxEq
import Derived.Test.YthpbadopmihmpaaGreatProg
namespace Go.Proofs.T1
open Go Go.Sx Go.Proofs
noncomputable abbrev PR:Program:=Tryz.prog
theorem hmix:PR.follows .mixedOrders=true:=by kernel_rfl
abbrev T2:Ty:=(.int .i64)
abbrev T4:Ty:=.bool
abbrev T12:Ty:=(.int .u64)
abbrev T198:Ty:=(.int .u32)
abbrev T26:Ty:=(.pair T2 (.pair T2 .unit))
abbrev V26:Type:=(Int × (Int × Unit))
abbrev Z26:V26:=((0:Int),(0:Int),())
abbrev T94:Ty:=(.pair T2 (.pair T12 .unit))
abbrev V94:Type:=(Int × (Int × Unit))
abbrev T36:Ty:=(.slice T26)
abbrev T22:Ty:=(.slice T2)
abbrev T45:Ty:=(.pair T26 (.pair T26 (.pair T2 (.pair T2 (.pair T2 (.pair T2 (.pair T2 (.pair T2 (.pair T36 (.pair T4 (.pair T2 .unit)))))))))))
abbrev V45:Type:=(V26 × (V26 × (Int × (Int × (Int × (Int × (Int × (Int × ((List V26) × (Bool × (Int × Unit)))))))))))
abbrev Z45:V45:=(((0:Int),(0:Int),()),((0:Int),(0:Int),()),(0:Int),(0:Int),(0:Int),(0:Int),(0:Int),(0:Int),[],false,(0:Int),())
abbrev T102:Ty:=(.pair T2 (.pair T2 (.pair T2 (.pair T26 (.pair T26 (.pair T2 T26))))))
abbrev V102:Type:=(Int × (Int × (Int × (V26 × (V26 × (Int × V26))))))
abbrev Z102:V102:=((0:Int),(0:Int),(0:Int),((0:Int),(0:Int),()),((0:Int),(0:Int),()),(0:Int),(0:Int),(0:Int),())
abbrev T126:Ty:=(.pair T26 (.pair T2 (.pair T2 T26)))
abbrev T48:Ty:=(.pair T2 (.pair T2 (.pair T26 (.pair T26 (.pair T2 .unit)))))
abbrev V48:Type:=(Int × (Int × (V26 × (V26 × (Int × Unit)))))
abbrev Z48:V48:=((0:Int),(0:Int),((0:Int),(0:Int),()),((0:Int),(0:Int),()),(0:Int),())
abbrev T133:Ty:=(.pair T26 (.pair T26 .unit))
abbrev V133:Type:=(V26 × (V26 × Unit))
abbrev Z133:V133:=(((0:Int),(0:Int),()),((0:Int),(0:Int),()),())
abbrev T28:Ty:=(.pair (.slice T45) (.pair (.slice T48) (.pair (.slice T102) (.pair T26 (.pair T2 .unit)))))
abbrev V28:Type:=((List V45) × ((List V48) × ((List V102) × (V26 × (Int × Unit)))))
def str0:ByteArray:={ data:=[0,1,2,2,3,3,3,3,4,4,4,4,4,4,4,4,5,5,5,5,5,5,5,5,5,5,5,5,5,5,5,5,6,6,6,6,6,6,6,6,6,6,6,6,6,6,6,6,6,6,6,6,6,6,6,6,6,6,6,6,6,6,6,6,7,7,7,7,7,7,7,7,7,7,7,7,7,7,7,7,7,7,7,7,7,7,7,7,7,7,7,7,7,7,7,7,7,7,7,7,7,7,7,7,7,7,7,7,7,7,7,7,7,7,7,7,7,7,7,7,7,7,7,7,7,7,7,7,8,8,8,8,8,8,8,8,8,8,8,8,8,8,8,8,8,8,8,8,8,8,8,8,8,8,8,8,8,8,8,8,8,8,8,8,8,8,8,8,8,8,8,8,8,8,8,8,8,8,8,8,8,8,8,8,8,8,8,8,8,8,8,8,8,8,8,8,8,8,8,8,8,8,8,8,8,8,8,8,8,8,8,8,8,8,8,8,8,8,8,8,8,8,8,8,8,8,8,8,8,8,8,8,8,8,8,8,8,8,8,8,8,8,8,8,8,8,8,8,8,8,8,8,8,8,8,8].toArray }
def tys:List (Nat × Ty):=[(2,T2),(3,T2),(4,T4),(5,(.int .u8)),(7,(.pair T2 (.pair T2 (.pair T4 (.pair (.int .u8) .unit))))),(12,T12),(21,(.int .i32)),(22,T22),(23,(.slice T45)),(24,(.slice T48)),(25,(.slice T102)),(26,T26),(27,T26),(28,T28),(29,T28),(33,T2),(36,T36),(42,(.pair T22 .unit)),(43,(.pair T22 .unit)),(44,.nilf),(45,T45),(46,T45),(48,T48),(49,T48),(65,T26),(66,T26),(93,T12),(94,T94),(95,T94),(102,T102),(103,T102),(104,(.slice (.arr 2 T2))),(107,(.arr 2 T2)),(108,(.slice (.pair T26 (.pair T26 T26)))),(110,(.pair T26 (.pair T26 T26))),(111,(.pair T26 (.pair T26 T26))),(114,(.slice T4)),(123,(.slice T126)),(124,(.pair (.slice T45) (.pair (.slice T102) (.pair (.slice T126) .unit)))),(125,(.pair (.slice T45) (.pair (.slice T102) (.pair (.slice T126) .unit)))),(126,T126),(127,T126),(132,(.slice T133)),(133,T133),(134,T133),(156,(.pair T4 T26)),(157,(.pair T4 T26)),(174,T12),(191,(.arr 2 T36)),(192,(.slice (.arr 2 T36))),(198,T198),(209,(.arr 65 T2)),(212,T2),(225,T12)]
theorem tysOk:tysB PR tys=true:=by kernel_rfl
def eqs:List (Nat × Ty):=[(4,T4),(27,T26),(95,T94)]
theorem eqsOk:∀ t ty,(t,ty)∈eqs→EqOk PR t ty:=eqs_ok (by kernel_rfl)
theorem tv0 : True := True.intro
theorem aI {a b:Prop} (x:a) (y:b):a∧b:=⟨x,y⟩
abbrev tT:Ans:=.dec true
abbrev fF:Ans:=.dec false
abbrev rS (t:Ty) (y:(Rs.one (.dp t)).den):Ans:=.res (.one (.dp t)) y
end Go.Proofs.T1
