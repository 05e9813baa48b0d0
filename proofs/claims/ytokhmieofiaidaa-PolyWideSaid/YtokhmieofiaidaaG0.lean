import Derived.Test.YtokhmieofiaidaaSxEq
import Derived.Test.YtokhmieofiaidaaProg
namespace Go.Proofs.T1
open Go Go.Sx Go.Proofs
noncomputable abbrev PR : Program := Try.prog
theorem hmix : PR.follows .mixedOrders = true := by kernel_rfl
abbrev T3 : Ty := (.int .i64)
abbrev T4 : Ty := .bool
abbrev T38 : Ty := (.int .u64)
abbrev T50 : Ty := (.int .u32)
abbrev T24 : Ty := (.pair T3 (.pair T3 .unit))
abbrev V24 : Type := (Int × (Int × Unit))
abbrev Z24 : V24 := ((0 : Int), (0 : Int), ())
abbrev T40 : Ty := (.pair T3 (.pair T38 .unit))
abbrev V40 : Type := (Int × (Int × Unit))
abbrev Z40 : V40 := ((0 : Int), (0 : Int), ())
abbrev T22 : Ty := (.slice T24)
abbrev T34 : Ty := (.slice T3)
abbrev T52 : Ty := (.arr 8 T50)
abbrev T77 : Ty := (.pair T24 (.pair T24 (.pair T3 (.pair T3 (.pair T3 (.pair T3 (.pair T3 (.pair T3 (.pair T22 (.pair T4 (.pair T3 .unit)))))))))))
abbrev V77 : Type := (V24 × (V24 × (Int × (Int × (Int × (Int × (Int × (Int × ((List V24) × (Bool × (Int × Unit)))))))))))
abbrev Z77 : V77 := (((0 : Int), (0 : Int), ()), ((0 : Int), (0 : Int), ()), (0 : Int), (0 : Int), (0 : Int), (0 : Int), (0 : Int), (0 : Int), [], false, (0 : Int), ())
def str0 : ByteArray := { data := [0, 1, 2, 2, 3, 3, 3, 3, 4, 4, 4, 4, 4, 4, 4, 4, 5, 5, 5, 5, 5, 5, 5, 5, 5, 5, 5, 5, 5, 5, 5, 5, 6, 6, 6, 6, 6, 6, 6, 6, 6, 6, 6, 6, 6, 6, 6, 6, 6, 6, 6, 6, 6, 6, 6, 6, 6, 6, 6, 6, 6, 6, 6, 6, 7, 7, 7, 7, 7, 7, 7, 7, 7, 7, 7, 7, 7, 7, 7, 7, 7, 7, 7, 7, 7, 7, 7, 7, 7, 7, 7, 7, 7, 7, 7, 7, 7, 7, 7, 7, 7, 7, 7, 7, 7, 7, 7, 7, 7, 7, 7, 7, 7, 7, 7, 7, 7, 7, 7, 7, 7, 7, 7, 7, 7, 7, 7, 7, 8, 8, 8, 8, 8, 8, 8, 8, 8, 8, 8, 8, 8, 8, 8, 8, 8, 8, 8, 8, 8, 8, 8, 8, 8, 8, 8, 8, 8, 8, 8, 8, 8, 8, 8, 8, 8, 8, 8, 8, 8, 8, 8, 8, 8, 8, 8, 8, 8, 8, 8, 8, 8, 8, 8, 8, 8, 8, 8, 8, 8, 8, 8, 8, 8, 8, 8, 8, 8, 8, 8, 8, 8, 8, 8, 8, 8, 8, 8, 8, 8, 8, 8, 8, 8, 8, 8, 8, 8, 8, 8, 8, 8, 8, 8, 8, 8, 8, 8, 8, 8, 8, 8, 8, 8, 8, 8, 8, 8, 8, 8, 8, 8, 8, 8, 8, 8, 8, 8, 8, 8, 8, 8, 8, 8, 8, 8, 8].toArray }
def tys : List (Nat × Ty) := [(2, T3), (3, T3), (4, T4), (5, (.int .u8)), (7, (.pair T3 (.pair T3 (.pair T4 (.pair (.int .u8) .unit))))), (12, T38), (21, (.int .i32)), (22, T22), (23, T24), (24, T24), (26, T3), (34, T34), (38, T38), (39, T40), (40, T40), (50, T50), (51, T52), (52, T52), (76, T77), (77, T77), (94, (.pair T34 .unit)), (95, (.pair T34 .unit)), (99, (.slice T50)), (100, T38), (109, (.arr 2 T22)), (110, (.slice (.arr 2 T22)))]
theorem tysOk : tysB PR tys = true := by kernel_rfl
def eqs : List (Nat × Ty) := [(4, T4), (24, T24), (40, T40)]
theorem eqsOk : ∀ t ty, (t, ty) ∈ eqs → EqOk PR t ty := eqs_ok (by kernel_rfl)
end Go.Proofs.T1
