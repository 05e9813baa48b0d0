import Derived.Test.YtabllngnpponiaaSxEq
import Derived.Test.YtabllngnpponiaaProg
namespace Go.Proofs.T1
open Go Go.Sx Go.Proofs
noncomputable abbrev PR : Program := Try.prog
theorem hmix : PR.follows .mixedOrders = true := by kernel_rfl
abbrev T2 : Ty := (.int .i64)
abbrev T4 : Ty := .bool
abbrev T12 : Ty := (.int .u64)
abbrev T129 : Ty := (.int .u32)
abbrev T27 : Ty := (.pair T2 (.pair T2 .unit))
abbrev V27 : Type := (Int × (Int × Unit))
abbrev Z27 : V27 := ((0 : Int), (0 : Int), ())
abbrev T187 : Ty := (.pair T2 (.pair T12 .unit))
abbrev V187 : Type := (Int × (Int × Unit))
abbrev Z187 : V187 := ((0 : Int), (0 : Int), ())
abbrev T22 : Ty := (.slice T27)
abbrev T31 : Ty := (.slice T2)
abbrev T130 : Ty := (.arr 8 T129)
abbrev T49 : Ty := (.pair T27 (.pair T27 (.pair T2 (.pair T2 (.pair T2 (.pair T2 (.pair T2 (.pair T2 (.pair T22 (.pair T4 (.pair T2 .unit)))))))))))
abbrev V49 : Type := (V27 × (V27 × (Int × (Int × (Int × (Int × (Int × (Int × ((List V27) × (Bool × (Int × Unit)))))))))))
abbrev Z49 : V49 := (((0 : Int), (0 : Int), ()), ((0 : Int), (0 : Int), ()), (0 : Int), (0 : Int), (0 : Int), (0 : Int), (0 : Int), (0 : Int), [], false, (0 : Int), ())
abbrev T239 : Ty := (.pair T2 (.pair T2 (.pair T2 (.pair T27 (.pair T27 (.pair T2 T27))))))
abbrev V239 : Type := (Int × (Int × (Int × (V27 × (V27 × (Int × V27))))))
abbrev Z239 : V239 := ((0 : Int), (0 : Int), (0 : Int), ((0 : Int), (0 : Int), ()), ((0 : Int), (0 : Int), ()), (0 : Int), (0 : Int), (0 : Int), ())
abbrev T76 : Ty := (.pair T2 (.pair T2 (.pair T27 (.pair T27 (.pair T2 .unit)))))
abbrev V76 : Type := (Int × (Int × (V27 × (V27 × (Int × Unit)))))
abbrev Z76 : V76 := ((0 : Int), (0 : Int), ((0 : Int), (0 : Int), ()), ((0 : Int), (0 : Int), ()), (0 : Int), ())
abbrev T35 : Ty := (.pair T27 (.pair T27 .unit))
abbrev V35 : Type := (V27 × (V27 × Unit))
abbrev Z35 : V35 := (((0 : Int), (0 : Int), ()), ((0 : Int), (0 : Int), ()), ())
abbrev T43 : Ty := (.pair (.slice T49) (.pair (.slice T76) (.pair (.slice T239) (.pair T27 (.pair T2 .unit)))))
abbrev V43 : Type := ((List V49) × ((List V76) × ((List V239) × (V27 × (Int × Unit)))))
abbrev Z43 : V43 := ([], [], [], ((0 : Int), (0 : Int), ()), (0 : Int), ())
def str0 : ByteArray := { data := [0, 1, 2, 2, 3, 3, 3, 3, 4, 4, 4, 4, 4, 4, 4, 4, 5, 5, 5, 5, 5, 5, 5, 5, 5, 5, 5, 5, 5, 5, 5, 5, 6, 6, 6, 6, 6, 6, 6, 6, 6, 6, 6, 6, 6, 6, 6, 6, 6, 6, 6, 6, 6, 6, 6, 6, 6, 6, 6, 6, 6, 6, 6, 6, 7, 7, 7, 7, 7, 7, 7, 7, 7, 7, 7, 7, 7, 7, 7, 7, 7, 7, 7, 7, 7, 7, 7, 7, 7, 7, 7, 7, 7, 7, 7, 7, 7, 7, 7, 7, 7, 7, 7, 7, 7, 7, 7, 7, 7, 7, 7, 7, 7, 7, 7, 7, 7, 7, 7, 7, 7, 7, 7, 7, 7, 7, 7, 7, 8, 8, 8, 8, 8, 8, 8, 8, 8, 8, 8, 8, 8, 8, 8, 8, 8, 8, 8, 8, 8, 8, 8, 8, 8, 8, 8, 8, 8, 8, 8, 8, 8, 8, 8, 8, 8, 8, 8, 8, 8, 8, 8, 8, 8, 8, 8, 8, 8, 8, 8, 8, 8, 8, 8, 8, 8, 8, 8, 8, 8, 8, 8, 8, 8, 8, 8, 8, 8, 8, 8, 8, 8, 8, 8, 8, 8, 8, 8, 8, 8, 8, 8, 8, 8, 8, 8, 8, 8, 8, 8, 8, 8, 8, 8, 8, 8, 8, 8, 8, 8, 8, 8, 8, 8, 8, 8, 8, 8, 8, 8, 8, 8, 8, 8, 8, 8, 8, 8, 8, 8, 8, 8, 8, 8, 8, 8, 8].toArray }
def tys : List (Nat × Ty) := [(2, T2), (3, T2), (4, T4), (5, (.int .u8)), (7, (.pair T2 (.pair T2 (.pair T4 (.pair (.int .u8) .unit))))), (12, T12), (21, (.int .i32)), (22, T22), (23, T2), (27, T27), (28, T27), (31, T31), (32, (.slice T35)), (35, T35), (36, T35), (40, (.slice T49)), (41, (.slice T76)), (42, (.slice T239)), (43, T43), (44, T43), (49, T49), (50, T49), (76, T76), (77, T76), (93, (.slice (.arr 2 T2))), (97, (.arr 2 T2)), (115, (.pair T31 .unit)), (116, (.pair T31 .unit)), (129, T129), (130, T130), (131, T130), (146, T12), (153, T27), (154, T27), (164, T12), (176, T2), (184, (.slice (.slice T35))), (187, T187), (188, T187), (205, T12), (216, (.arr 65 T2)), (239, T239), (240, T239)]
theorem tysOk : tysB PR tys = true := by kernel_rfl
def eqs : List (Nat × Ty) := [(4, T4), (28, T27), (188, T187)]
theorem eqsOk : ∀ t ty, (t, ty) ∈ eqs → EqOk PR t ty := eqs_ok (by kernel_rfl)
end Go.Proofs.T1
