import Derived.Test.YtcgcnojpcgjnmaaSxEq
import Derived.Test.YtcgcnojpcgjnmaaProg
namespace Go.Proofs.T1
open Go Go.Sx Go.Proofs
noncomputable abbrev PR : Program := Try.prog
theorem hmix : PR.follows .mixedOrders = true := by kernel_rfl
abbrev T2 : Ty := (.int .i64)
abbrev T4 : Ty := .bool
abbrev T12 : Ty := (.int .u64)
abbrev T133 : Ty := (.int .u32)
abbrev T22 : Ty := (.pair T2 (.pair T2 .unit))
abbrev V22 : Type := (Int × (Int × Unit))
abbrev Z22 : V22 := ((0 : Int), (0 : Int), ())
abbrev T90 : Ty := (.pair T2 (.pair T12 .unit))
abbrev V90 : Type := (Int × (Int × Unit))
abbrev Z90 : V90 := ((0 : Int), (0 : Int), ())
abbrev T24 : Ty := (.slice T22)
abbrev T49 : Ty := (.slice T2)
abbrev T134 : Ty := (.arr 8 T133)
abbrev T25 : Ty := (.pair T22 (.pair T22 (.pair T2 (.pair T2 (.pair T2 (.pair T2 (.pair T2 (.pair T2 (.pair T24 (.pair T4 (.pair T2 .unit)))))))))))
abbrev V25 : Type := (V22 × (V22 × (Int × (Int × (Int × (Int × (Int × (Int × ((List V22) × (Bool × (Int × Unit)))))))))))
abbrev Z25 : V25 := (((0 : Int), (0 : Int), ()), ((0 : Int), (0 : Int), ()), (0 : Int), (0 : Int), (0 : Int), (0 : Int), (0 : Int), (0 : Int), [], false, (0 : Int), ())
def str0 : ByteArray := { data := [0, 1, 2, 2, 3, 3, 3, 3, 4, 4, 4, 4, 4, 4, 4, 4, 5, 5, 5, 5, 5, 5, 5, 5, 5, 5, 5, 5, 5, 5, 5, 5, 6, 6, 6, 6, 6, 6, 6, 6, 6, 6, 6, 6, 6, 6, 6, 6, 6, 6, 6, 6, 6, 6, 6, 6, 6, 6, 6, 6, 6, 6, 6, 6, 7, 7, 7, 7, 7, 7, 7, 7, 7, 7, 7, 7, 7, 7, 7, 7, 7, 7, 7, 7, 7, 7, 7, 7, 7, 7, 7, 7, 7, 7, 7, 7, 7, 7, 7, 7, 7, 7, 7, 7, 7, 7, 7, 7, 7, 7, 7, 7, 7, 7, 7, 7, 7, 7, 7, 7, 7, 7, 7, 7, 7, 7, 7, 7, 8, 8, 8, 8, 8, 8, 8, 8, 8, 8, 8, 8, 8, 8, 8, 8, 8, 8, 8, 8, 8, 8, 8, 8, 8, 8, 8, 8, 8, 8, 8, 8, 8, 8, 8, 8, 8, 8, 8, 8, 8, 8, 8, 8, 8, 8, 8, 8, 8, 8, 8, 8, 8, 8, 8, 8, 8, 8, 8, 8, 8, 8, 8, 8, 8, 8, 8, 8, 8, 8, 8, 8, 8, 8, 8, 8, 8, 8, 8, 8, 8, 8, 8, 8, 8, 8, 8, 8, 8, 8, 8, 8, 8, 8, 8, 8, 8, 8, 8, 8, 8, 8, 8, 8, 8, 8, 8, 8, 8, 8, 8, 8, 8, 8, 8, 8, 8, 8, 8, 8, 8, 8, 8, 8, 8, 8, 8, 8].toArray }
def tys : List (Nat × Ty) := [(2, T2), (3, T2), (4, T4), (5, (.int .u8)), (7, (.pair T2 (.pair T2 (.pair T4 (.pair (.int .u8) .unit))))), (12, T12), (21, (.int .i32)), (22, T22), (23, T22), (24, T24), (25, T25), (26, T25), (29, T2), (35, (.pair T4 T22)), (36, (.pair T4 T22)), (49, T49), (52, (.pair T22 (.pair T22 .unit))), (53, (.pair T22 (.pair T22 .unit))), (61, (.slice T25)), (75, (.slice (.pair T2 (.pair T2 (.pair T2 (.pair T22 (.pair T22 (.pair T2 T22)))))))), (78, (.pair T2 (.pair T2 (.pair T2 (.pair T22 (.pair T22 (.pair T2 T22))))))), (79, (.pair T2 (.pair T2 (.pair T2 (.pair T22 (.pair T22 (.pair T2 T22))))))), (89, T12), (90, T90), (91, T90), (94, (.slice (.pair T22 (.pair T22 T22)))), (97, (.pair T22 (.pair T22 T22))), (98, (.pair T22 (.pair T22 T22))), (115, (.arr 2 T24)), (116, (.slice (.arr 2 T24))), (126, (.pair T49 .unit)), (127, (.pair T49 .unit)), (133, T133), (134, T134), (135, T134), (141, (.slice (.pair T22 (.pair T2 (.pair T2 T22))))), (142, (.pair (.slice T25) (.pair (.slice (.pair T2 (.pair T2 (.pair T2 (.pair T22 (.pair T22 (.pair T2 T22))))))) (.pair (.slice (.pair T22 (.pair T2 (.pair T2 T22)))) .unit)))), (143, (.pair (.slice T25) (.pair (.slice (.pair T2 (.pair T2 (.pair T2 (.pair T22 (.pair T22 (.pair T2 T22))))))) (.pair (.slice (.pair T22 (.pair T2 (.pair T2 T22)))) .unit)))), (145, (.pair T22 (.pair T2 (.pair T2 T22)))), (146, (.pair T22 (.pair T2 (.pair T2 T22)))), (158, (.arr 2 T22)), (163, (.slice (.pair T22 (.pair T22 (.pair T2 (.pair T2 T22)))))), (164, (.pair T22 (.pair T22 (.pair T2 (.pair T2 T22))))), (165, (.pair T22 (.pair T22 (.pair T2 (.pair T2 T22))))), (179, T22), (180, T22), (189, (.slice T134)), (193, T12), (198, (.arr 65 T2))]
theorem tysOk : tysB PR tys = true := by kernel_rfl
def eqs : List (Nat × Ty) := [(4, T4), (23, T22), (36, (.pair T4 T22)), (53, (.pair T22 (.pair T22 .unit))), (79, (.pair T2 (.pair T2 (.pair T2 (.pair T22 (.pair T22 (.pair T2 T22))))))), (91, T90), (98, (.pair T22 (.pair T22 T22)))]
theorem eqsOk : ∀ t ty, (t, ty) ∈ eqs → EqOk PR t ty := eqs_ok (by kernel_rfl)
end Go.Proofs.T1
