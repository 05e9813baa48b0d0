import Derived.Test.YtolkdkhdkfndfaaSxEq
import Derived.Test.YtolkdkhdkfndfaaProg
namespace Go.Proofs.T1
open Go Go.Sx Go.Proofs
noncomputable abbrev PR : Program := Try.prog
theorem hmix : PR.follows .mixedOrders = true := by kernel_rfl
abbrev T2 : Ty := (.int .i64)
abbrev T4 : Ty := .bool
abbrev T12 : Ty := (.int .u64)
abbrev T140 : Ty := (.int .u32)
abbrev T27 : Ty := (.pair T2 (.pair T2 .unit))
abbrev V27 : Type := (Int × (Int × Unit))
abbrev Z27 : V27 := ((0 : Int), (0 : Int), ())
abbrev T154 : Ty := (.pair T2 (.pair T12 .unit))
abbrev V154 : Type := (Int × (Int × Unit))
abbrev Z154 : V154 := ((0 : Int), (0 : Int), ())
abbrev T22 : Ty := (.slice T27)
abbrev T31 : Ty := (.slice T2)
abbrev T141 : Ty := (.arr 8 T140)
abbrev T67 : Ty := (.pair T27 (.pair T27 (.pair T2 (.pair T2 (.pair T2 (.pair T2 (.pair T2 (.pair T2 (.pair T22 (.pair T4 (.pair T2 .unit)))))))))))
abbrev V67 : Type := (V27 × (V27 × (Int × (Int × (Int × (Int × (Int × (Int × ((List V27) × (Bool × (Int × Unit)))))))))))
abbrev Z67 : V67 := (((0 : Int), (0 : Int), ()), ((0 : Int), (0 : Int), ()), (0 : Int), (0 : Int), (0 : Int), (0 : Int), (0 : Int), (0 : Int), [], false, (0 : Int), ())
abbrev T239 : Ty := (.pair T2 (.pair T2 (.pair T2 (.pair T27 (.pair T27 (.pair T2 T27))))))
abbrev V239 : Type := (Int × (Int × (Int × (V27 × (V27 × (Int × V27))))))
abbrev Z239 : V239 := ((0 : Int), (0 : Int), (0 : Int), ((0 : Int), (0 : Int), ()), ((0 : Int), (0 : Int), ()), (0 : Int), (0 : Int), (0 : Int), ())
abbrev T91 : Ty := (.pair T2 (.pair T2 (.pair T27 (.pair T27 (.pair T2 .unit)))))
abbrev V91 : Type := (Int × (Int × (V27 × (V27 × (Int × Unit)))))
abbrev Z91 : V91 := ((0 : Int), (0 : Int), ((0 : Int), (0 : Int), ()), ((0 : Int), (0 : Int), ()), (0 : Int), ())
abbrev T41 : Ty := (.pair T27 (.pair T27 .unit))
abbrev V41 : Type := (V27 × (V27 × Unit))
abbrev Z41 : V41 := (((0 : Int), (0 : Int), ()), ((0 : Int), (0 : Int), ()), ())
abbrev T62 : Ty := (.pair (.slice T67) (.pair (.slice T91) (.pair (.slice T239) (.pair T27 (.pair T2 .unit)))))
abbrev V62 : Type := ((List V67) × ((List V91) × ((List V239) × (V27 × (Int × Unit)))))
abbrev Z62 : V62 := ([], [], [], ((0 : Int), (0 : Int), ()), (0 : Int), ())
def str0 : ByteArray := { data := [0, 1, 2, 2, 3, 3, 3, 3, 4, 4, 4, 4, 4, 4, 4, 4, 5, 5, 5, 5, 5, 5, 5, 5, 5, 5, 5, 5, 5, 5, 5, 5, 6, 6, 6, 6, 6, 6, 6, 6, 6, 6, 6, 6, 6, 6, 6, 6, 6, 6, 6, 6, 6, 6, 6, 6, 6, 6, 6, 6, 6, 6, 6, 6, 7, 7, 7, 7, 7, 7, 7, 7, 7, 7, 7, 7, 7, 7, 7, 7, 7, 7, 7, 7, 7, 7, 7, 7, 7, 7, 7, 7, 7, 7, 7, 7, 7, 7, 7, 7, 7, 7, 7, 7, 7, 7, 7, 7, 7, 7, 7, 7, 7, 7, 7, 7, 7, 7, 7, 7, 7, 7, 7, 7, 7, 7, 7, 7, 8, 8, 8, 8, 8, 8, 8, 8, 8, 8, 8, 8, 8, 8, 8, 8, 8, 8, 8, 8, 8, 8, 8, 8, 8, 8, 8, 8, 8, 8, 8, 8, 8, 8, 8, 8, 8, 8, 8, 8, 8, 8, 8, 8, 8, 8, 8, 8, 8, 8, 8, 8, 8, 8, 8, 8, 8, 8, 8, 8, 8, 8, 8, 8, 8, 8, 8, 8, 8, 8, 8, 8, 8, 8, 8, 8, 8, 8, 8, 8, 8, 8, 8, 8, 8, 8, 8, 8, 8, 8, 8, 8, 8, 8, 8, 8, 8, 8, 8, 8, 8, 8, 8, 8, 8, 8, 8, 8, 8, 8, 8, 8, 8, 8, 8, 8, 8, 8, 8, 8, 8, 8, 8, 8, 8, 8, 8, 8].toArray }
def tys : List (Nat × Ty) := [(2, T2), (3, T2), (4, T4), (5, (.int .u8)), (7, (.pair T2 (.pair T2 (.pair T4 (.pair (.int .u8) .unit))))), (12, T12), (21, (.int .i32)), (22, T22), (23, T2), (27, T27), (28, T27), (31, T31), (39, (.slice T41)), (41, T41), (42, T41), (45, (.slice (.arr 2 T2))), (49, (.arr 2 T2)), (59, (.slice T67)), (60, (.slice T91)), (61, (.slice T239)), (62, T62), (63, T62), (67, T67), (68, T67), (91, T91), (92, T91), (122, T12), (126, (.pair T31 .unit)), (127, (.pair T31 .unit)), (140, T140), (141, T141), (142, T141), (153, T12), (154, T154), (155, T154), (160, T2), (168, (.slice (.slice T41))), (171, T27), (172, T27), (203, T12), (221, (.arr 65 T2)), (239, T239), (240, T239)]
theorem tysOk : tysB PR tys = true := by kernel_rfl
def eqs : List (Nat × Ty) := [(4, T4), (28, T27), (42, T41), (49, (.arr 2 T2)), (155, T154)]
theorem eqsOk : ∀ t ty, (t, ty) ∈ eqs → EqOk PR t ty := eqs_ok (by kernel_rfl)
end Go.Proofs.T1
