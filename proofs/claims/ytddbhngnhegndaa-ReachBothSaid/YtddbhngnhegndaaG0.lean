import Derived.Test.YtddbhngnhegndaaSxEq
import Derived.Test.YtddbhngnhegndaaProg
namespace Go.Proofs.T1
open Go Go.Sx Go.Proofs
noncomputable abbrev PR : Program := Try.prog
theorem hmix : PR.follows .mixedOrders = true := by kernel_rfl
abbrev T2 : Ty := (.int .i64)
abbrev T4 : Ty := .bool
abbrev T12 : Ty := (.int .u64)
abbrev T133 : Ty := (.int .u32)
abbrev T28 : Ty := (.pair T2 (.pair T2 .unit))
abbrev V28 : Type := (Int × (Int × Unit))
abbrev Z28 : V28 := ((0 : Int), (0 : Int), ())
abbrev T63 : Ty := (.pair T2 (.pair T12 .unit))
abbrev V63 : Type := (Int × (Int × Unit))
abbrev Z63 : V63 := ((0 : Int), (0 : Int), ())
abbrev T23 : Ty := (.slice T28)
abbrev T22 : Ty := (.slice T2)
abbrev T39 : Ty := (.pair T28 (.pair T28 (.pair T2 (.pair T2 (.pair T2 (.pair T2 (.pair T2 (.pair T2 (.pair T23 (.pair T4 (.pair T2 .unit)))))))))))
abbrev V39 : Type := (V28 × (V28 × (Int × (Int × (Int × (Int × (Int × (Int × ((List V28) × (Bool × (Int × Unit)))))))))))
abbrev Z39 : V39 := (((0 : Int), (0 : Int), ()), ((0 : Int), (0 : Int), ()), (0 : Int), (0 : Int), (0 : Int), (0 : Int), (0 : Int), (0 : Int), [], false, (0 : Int), ())
def str0 : ByteArray := { data := [0, 1, 2, 2, 3, 3, 3, 3, 4, 4, 4, 4, 4, 4, 4, 4, 5, 5, 5, 5, 5, 5, 5, 5, 5, 5, 5, 5, 5, 5, 5, 5, 6, 6, 6, 6, 6, 6, 6, 6, 6, 6, 6, 6, 6, 6, 6, 6, 6, 6, 6, 6, 6, 6, 6, 6, 6, 6, 6, 6, 6, 6, 6, 6, 7, 7, 7, 7, 7, 7, 7, 7, 7, 7, 7, 7, 7, 7, 7, 7, 7, 7, 7, 7, 7, 7, 7, 7, 7, 7, 7, 7, 7, 7, 7, 7, 7, 7, 7, 7, 7, 7, 7, 7, 7, 7, 7, 7, 7, 7, 7, 7, 7, 7, 7, 7, 7, 7, 7, 7, 7, 7, 7, 7, 7, 7, 7, 7, 8, 8, 8, 8, 8, 8, 8, 8, 8, 8, 8, 8, 8, 8, 8, 8, 8, 8, 8, 8, 8, 8, 8, 8, 8, 8, 8, 8, 8, 8, 8, 8, 8, 8, 8, 8, 8, 8, 8, 8, 8, 8, 8, 8, 8, 8, 8, 8, 8, 8, 8, 8, 8, 8, 8, 8, 8, 8, 8, 8, 8, 8, 8, 8, 8, 8, 8, 8, 8, 8, 8, 8, 8, 8, 8, 8, 8, 8, 8, 8, 8, 8, 8, 8, 8, 8, 8, 8, 8, 8, 8, 8, 8, 8, 8, 8, 8, 8, 8, 8, 8, 8, 8, 8, 8, 8, 8, 8, 8, 8, 8, 8, 8, 8, 8, 8, 8, 8, 8, 8, 8, 8, 8, 8, 8, 8, 8, 8].toArray }
def tys : List (Nat × Ty) := [(2, T2), (3, T2), (4, T4), (5, (.int .u8)), (7, (.pair T2 (.pair T2 (.pair T4 (.pair (.int .u8) .unit))))), (12, T12), (21, (.int .i32)), (22, T22), (23, T23), (26, (.slice (.pair T28 (.pair T28 T28)))), (28, T28), (29, T28), (34, (.pair T28 (.pair T28 T28))), (35, (.pair T28 (.pair T28 T28))), (39, T39), (40, T39), (43, T2), (53, (.pair T4 T28)), (54, (.pair T4 T28)), (62, T12), (63, T63), (64, T63), (77, (.pair T22 .unit)), (78, (.pair T22 .unit)), (90, (.arr 2 T23)), (91, (.slice (.arr 2 T23))), (103, (.slice T39)), (111, T12), (124, (.arr 65 T2)), (133, T133)]
theorem tysOk : tysB PR tys = true := by kernel_rfl
def eqs : List (Nat × Ty) := [(4, T4), (29, T28), (64, T63)]
theorem eqsOk : ∀ t ty, (t, ty) ∈ eqs → EqOk PR t ty := eqs_ok (by kernel_rfl)
end Go.Proofs.T1
