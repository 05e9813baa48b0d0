import Derived.Test.YtddbhngnhegndaaGreatSxEq
import Derived.Test.YtddbhngnhegndaaGreatProg
namespace Go.Proofs.T1
open Go Go.Sx Go.Proofs
noncomputable abbrev PR : Program := Tryz.prog
theorem hmix : PR.follows .mixedOrders = true := by kernel_rfl
abbrev T2 : Ty := (.int .i64)
abbrev T4 : Ty := .bool
abbrev T12 : Ty := (.int .u64)
abbrev T71 : Ty := (.int .u32)
abbrev T22 : Ty := (.pair T2 (.pair T2 .unit))
abbrev V22 : Type := (Int × (Int × Unit))
abbrev Z22 : V22 := ((0 : Int),(0 : Int),())
abbrev T99 : Ty := (.pair T2 (.pair T12 .unit))
abbrev V99 : Type := (Int × (Int × Unit))
abbrev Z99 : V99 := ((0 : Int),(0 : Int),())
abbrev T24 : Ty := (.slice T22)
abbrev T78 : Ty := (.slice T2)
abbrev T72 : Ty := (.arr 8 T71)
abbrev T25 : Ty := (.pair T22 (.pair T22 (.pair T2 (.pair T2 (.pair T2 (.pair T2 (.pair T2 (.pair T2 (.pair T24 (.pair T4 (.pair T2 .unit)))))))))))
abbrev V25 : Type := (V22 × (V22 × (Int × (Int × (Int × (Int × (Int × (Int × ((List V22) × (Bool × (Int × Unit)))))))))))
abbrev Z25 : V25 := (((0 : Int),(0 : Int),()),((0 : Int),(0 : Int),()),(0 : Int),(0 : Int),(0 : Int),(0 : Int),(0 : Int),(0 : Int),[],false,(0 : Int),())
def str0 : ByteArray := { data := [0,1,2,2,3,3,3,3,4,4,4,4,4,4,4,4,5,5,5,5,5,5,5,5,5,5,5,5,5,5,5,5,6,6,6,6,6,6,6,6,6,6,6,6,6,6,6,6,6,6,6,6,6,6,6,6,6,6,6,6,6,6,6,6,7,7,7,7,7,7,7,7,7,7,7,7,7,7,7,7,7,7,7,7,7,7,7,7,7,7,7,7,7,7,7,7,7,7,7,7,7,7,7,7,7,7,7,7,7,7,7,7,7,7,7,7,7,7,7,7,7,7,7,7,7,7,7,7,8,8,8,8,8,8,8,8,8,8,8,8,8,8,8,8,8,8,8,8,8,8,8,8,8,8,8,8,8,8,8,8,8,8,8,8,8,8,8,8,8,8,8,8,8,8,8,8,8,8,8,8,8,8,8,8,8,8,8,8,8,8,8,8,8,8,8,8,8,8,8,8,8,8,8,8,8,8,8,8,8,8,8,8,8,8,8,8,8,8,8,8,8,8,8,8,8,8,8,8,8,8,8,8,8,8,8,8,8,8,8,8,8,8,8,8,8,8,8,8,8,8,8,8,8,8,8,8].toArray }
def tys : List (Nat × Ty) := [(2,T2),(3,T2),(4,T4),(5,(.int .u8)),(7,(.pair T2 (.pair T2 (.pair T4 (.pair (.int .u8) .unit))))),(12,T12),(21,(.int .i32)),(22,T22),(23,T22),(24,T24),(25,T25),(26,T25),(28,T2),(39,(.slice T25)),(56,(.pair T4 T22)),(57,(.pair T4 T22)),(71,T71),(72,T72),(73,T72),(78,T78),(82,(.arr 2 T24)),(83,(.slice (.arr 2 T24))),(88,T12),(99,T99),(100,T99),(111,T12),(119,(.arr 65 T2))]
theorem tysOk : tysB PR tys = true := by kernel_rfl
def eqs : List (Nat × Ty) := [(4,T4),(23,T22),(100,T99)]
theorem eqsOk : ∀ t ty,(t,ty) ∈ eqs → EqOk PR t ty := eqs_ok (by kernel_rfl)
theorem aI {a b : Prop} (x : a) (y : b) : a ∧ b := ⟨x,y⟩
abbrev tT : Ans := .dec true
abbrev fF : Ans := .dec false
abbrev rS (t : Ty) (y : (Rs.one (.dp t)).den) : Ans := .res (.one (.dp t)) y
end Go.Proofs.T1
