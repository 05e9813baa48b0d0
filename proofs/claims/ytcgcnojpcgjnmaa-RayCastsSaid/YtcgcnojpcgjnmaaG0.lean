import Derived.Test.YtcgcnojpcgjnmaaSxEq
import Derived.Test.YtcgcnojpcgjnmaaProg
namespace Go.Proofs.T1
open Go Go.Sx Go.Proofs
noncomputable abbrev PR : Program := Try.prog
theorem hmix : PR.follows .mixedOrders = true := by kernel_rfl
abbrev T2 : Ty := (.int .i64)
abbrev T4 : Ty := .bool
abbrev T12 : Ty := (.int .u64)
abbrev T133 : Ty := (.int .u32)
abbrev T22 : Ty := (.pair T2 (.pair T2 .unit))
abbrev V22 : Type := (Int × (Int × Unit))
abbrev Z22 : V22 := ((0 : Int), (0 : Int), ())
abbrev T90 : Ty := (.pair T2 (.pair T12 .unit))
abbrev V90 : Type := (Int × (Int × Unit))
abbrev Z90 : V90 := ((0 : Int), (0 : Int), ())
abbrev T24 : Ty := (.slice T22)
abbrev T49 : Ty := (.slice T2)
abbrev T134 : Ty := (.arr 8 T133)
abbrev T25 : Ty := (.pair T22 (.pair T22 (.pair T2 (.pair T2 (.pair T2 (.pair T2 (.pair T2 (.pair T2 (.pair T24 (.pair T4 (.pair T2 .unit)))))))))))
abbrev V25 : Type := (V22 × (V22 × (Int × (Int × (Int × (Int × (Int × (Int × ((List V22) × (Bool × (Int × Unit)))))))))))
abbrev Z25 : V25 := (((0 : Int), (0 : Int), ()), ((0 : Int), (0 : Int), ()), (0 : Int), (0 : Int), (0 : Int), (0 : Int), (0 : Int), (0 : Int), [], false, (0 : Int), ())
abbrev T78 : Ty := (.pair T2 (.pair T2 (.pair T2 (.pair T22 (.pair T22 (.pair T2 T22))))))
abbrev V78 : Type := (Int × (Int × (Int × (V22 × (V22 × (Int × V22))))))
abbrev Z78 : V78 := ((0 : Int), (0 : Int), (0 : Int), ((0 : Int), (0 : Int), ()), ((0 : Int), (0 : Int), ()), (0 : Int), (0 : Int), (0 : Int), ())
abbrev T145 : Ty := (.pair T22 (.pair T2 (.pair T2 T22)))
abbrev V145 : Type := (V22 × (Int × (Int × V22)))
abbrev Z145 : V145 := (((0 : Int), (0 : Int), ()), (0 : Int), (0 : Int), (0 : Int), (0 : Int), ())
abbrev T164 : Ty := (.pair T22 T145)
abbrev V164 : Type := (V22 × V145)
abbrev Z164 : V164 := (((0 : Int), (0 : Int), ()), ((0 : Int), (0 : Int), ()), (0 : Int), (0 : Int), (0 : Int), (0 : Int), ())
abbrev T52 : Ty := (.pair T22 (.pair T22 .unit))
abbrev V52 : Type := (V22 × (V22 × Unit))
abbrev Z52 : V52 := (((0 : Int), (0 : Int), ()), ((0 : Int), (0 : Int), ()), ())
def str0 : ByteArray := { data := [0, 1, 2, 2, 3, 3, 3, 3, 4, 4, 4, 4, 4, 4, 4, 4, 5, 5, 5, 5, 5, 5, 5, 5, 5, 5, 5, 5, 5, 5, 5, 5, 6, 6, 6, 6, 6, 6, 6, 6, 6, 6, 6, 6, 6, 6, 6, 6, 6, 6, 6, 6, 6, 6, 6, 6, 6, 6, 6, 6, 6, 6, 6, 6, 7, 7, 7, 7, 7, 7, 7, 7, 7, 7, 7, 7, 7, 7, 7, 7, 7, 7, 7, 7, 7, 7, 7, 7, 7, 7, 7, 7, 7, 7, 7, 7, 7, 7, 7, 7, 7, 7, 7, 7, 7, 7, 7, 7, 7, 7, 7, 7, 7, 7, 7, 7, 7, 7, 7, 7, 7, 7, 7, 7, 7, 7, 7, 7, 8, 8, 8, 8, 8, 8, 8, 8, 8, 8, 8, 8, 8, 8, 8, 8, 8, 8, 8, 8, 8, 8, 8, 8, 8, 8, 8, 8, 8, 8, 8, 8, 8, 8, 8, 8, 8, 8, 8, 8, 8, 8, 8, 8, 8, 8, 8, 8, 8, 8, 8, 8, 8, 8, 8, 8, 8, 8, 8, 8, 8, 8, 8, 8, 8, 8, 8, 8, 8, 8, 8, 8, 8, 8, 8, 8, 8, 8, 8, 8, 8, 8, 8, 8, 8, 8, 8, 8, 8, 8, 8, 8, 8, 8, 8, 8, 8, 8, 8, 8, 8, 8, 8, 8, 8, 8, 8, 8, 8, 8, 8, 8, 8, 8, 8, 8, 8, 8, 8, 8, 8, 8, 8, 8, 8, 8, 8, 8].toArray }
def tys : List (Nat × Ty) := [(2, T2), (3, T2), (4, T4), (5, (.int .u8)), (7, (.pair T2 (.pair T2 (.pair T4 (.pair (.int .u8) .unit))))), (12, T12), (21, (.int .i32)), (22, T22), (23, T22), (24, T24), (25, T25), (26, T25), (29, T2), (35, (.pair T4 T22)), (36, (.pair T4 T22)), (49, T49), (52, T52), (53, T52), (61, (.slice T25)), (75, (.slice T78)), (78, T78), (79, T78), (89, T12), (90, T90), (91, T90), (94, (.slice (.pair T22 (.pair T22 T22)))), (97, (.pair T22 (.pair T22 T22))), (98, (.pair T22 (.pair T22 T22))), (115, (.arr 2 T24)), (116, (.slice (.arr 2 T24))), (126, (.pair T49 .unit)), (127, (.pair T49 .unit)), (133, T133), (134, T134), (135, T134), (141, (.slice T145)), (142, (.pair (.slice T25) (.pair (.slice T78) (.pair (.slice T145) .unit)))), (143, (.pair (.slice T25) (.pair (.slice T78) (.pair (.slice T145) .unit)))), (145, T145), (146, T145), (158, (.arr 2 T22)), (163, (.slice T164)), (164, T164), (165, T164), (179, T22), (180, T22), (189, (.slice T134)), (193, T12), (198, (.arr 65 T2))]
theorem tysOk : tysB PR tys = true := by kernel_rfl
def eqs : List (Nat × Ty) := [(4, T4), (23, T22), (36, (.pair T4 T22)), (53, T52), (79, T78), (91, T90), (98, (.pair T22 (.pair T22 T22)))]
theorem eqsOk : ∀ t ty, (t, ty) ∈ eqs → EqOk PR t ty := eqs_ok (by kernel_rfl)
end Go.Proofs.T1
