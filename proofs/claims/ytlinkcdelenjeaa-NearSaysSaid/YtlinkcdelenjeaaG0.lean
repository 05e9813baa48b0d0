import Derived.Test.YtlinkcdelenjeaaSxEq
import Derived.Test.YtlinkcdelenjeaaProg
namespace Go.Proofs.T1
open Go Go.Sx Go.Proofs
noncomputable abbrev PR : Program := Try.prog
theorem hmix : PR.follows .mixedOrders = true := by kernel_rfl
abbrev T2 : Ty := (.int .i64)
abbrev T4 : Ty := .bool
abbrev T12 : Ty := (.int .u64)
abbrev T112 : Ty := (.int .u32)
abbrev T33 : Ty := (.pair T2 (.pair T2 .unit))
abbrev V33 : Type := (Int × (Int × Unit))
abbrev Z33 : V33 := ((0 : Int), (0 : Int), ())
abbrev T108 : Ty := (.pair T2 (.pair T12 .unit))
abbrev V108 : Type := (Int × (Int × Unit))
abbrev Z108 : V108 := ((0 : Int), (0 : Int), ())
abbrev T22 : Ty := (.slice T33)
abbrev T39 : Ty := (.slice T2)
abbrev T113 : Ty := (.arr 8 T112)
def str0 : ByteArray := { data := [0, 1, 2, 2, 3, 3, 3, 3, 4, 4, 4, 4, 4, 4, 4, 4, 5, 5, 5, 5, 5, 5, 5, 5, 5, 5, 5, 5, 5, 5, 5, 5, 6, 6, 6, 6, 6, 6, 6, 6, 6, 6, 6, 6, 6, 6, 6, 6, 6, 6, 6, 6, 6, 6, 6, 6, 6, 6, 6, 6, 6, 6, 6, 6, 7, 7, 7, 7, 7, 7, 7, 7, 7, 7, 7, 7, 7, 7, 7, 7, 7, 7, 7, 7, 7, 7, 7, 7, 7, 7, 7, 7, 7, 7, 7, 7, 7, 7, 7, 7, 7, 7, 7, 7, 7, 7, 7, 7, 7, 7, 7, 7, 7, 7, 7, 7, 7, 7, 7, 7, 7, 7, 7, 7, 7, 7, 7, 7, 8, 8, 8, 8, 8, 8, 8, 8, 8, 8, 8, 8, 8, 8, 8, 8, 8, 8, 8, 8, 8, 8, 8, 8, 8, 8, 8, 8, 8, 8, 8, 8, 8, 8, 8, 8, 8, 8, 8, 8, 8, 8, 8, 8, 8, 8, 8, 8, 8, 8, 8, 8, 8, 8, 8, 8, 8, 8, 8, 8, 8, 8, 8, 8, 8, 8, 8, 8, 8, 8, 8, 8, 8, 8, 8, 8, 8, 8, 8, 8, 8, 8, 8, 8, 8, 8, 8, 8, 8, 8, 8, 8, 8, 8, 8, 8, 8, 8, 8, 8, 8, 8, 8, 8, 8, 8, 8, 8, 8, 8, 8, 8, 8, 8, 8, 8, 8, 8, 8, 8, 8, 8, 8, 8, 8, 8, 8, 8].toArray }
def tys : List (Nat × Ty) := [(2, T2), (3, T2), (4, T4), (5, (.int .u8)), (7, (.pair T2 (.pair T2 (.pair T4 (.pair (.int .u8) .unit))))), (12, T12), (21, (.int .i32)), (22, T22), (23, T2), (33, T33), (34, T33), (39, T39), (40, (.slice (.pair T33 (.pair T33 .unit)))), (43, (.pair T33 (.pair T33 .unit))), (44, (.pair T33 (.pair T33 .unit))), (55, (.slice (.arr 2 T2))), (59, (.arr 2 T2)), (80, (.arr 2 T22)), (81, (.slice (.arr 2 T22))), (88, (.pair T4 T33)), (89, (.pair T4 T33)), (100, T12), (107, T12), (108, T108), (109, T108), (112, T112), (113, T113), (114, T113), (124, (.pair T39 .unit)), (125, (.pair T39 .unit)), (134, T2), (143, (.slice (.slice (.pair T33 (.pair T33 .unit))))), (162, T12)]
theorem tysOk : tysB PR tys = true := by kernel_rfl
def eqs : List (Nat × Ty) := [(4, T4), (34, T33), (109, T108)]
theorem eqsOk : ∀ t ty, (t, ty) ∈ eqs → EqOk PR t ty := eqs_ok (by kernel_rfl)
end Go.Proofs.T1
