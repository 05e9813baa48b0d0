import Derived.Test.YtolkdkhdkfndfaaG0
import Derived.Test.YtolkdkhdkfndfaaG6
import Derived.Test.YtolkdkhdkfndfaaLay
namespace Go.Proofs.T1
open Go Go.Sx Go.Proofs
set_option maxRecDepth 100000
set_option linter.unusedVariables false
/-! slices.SortFunc[[][2]int,[2]int] -/
noncomputable def slices_SortFunc_35_2 (k : Nat) (r0 : (List (List Int))) : Option (List (List Int)) := sortG (.arr 2 T2) r0 (fun z => tourkeep2_SweepTurned_1 k z.1 z.2.1)
noncomputable def slices_SortFunc_35_2.h (k : Nat) : Go.Sx.HSp := sortH0 (.arr 2 T2) 49 33 (fun x => tourkeep2_SweepTurned_1 k x.1 x.2.1)
theorem slices_SortFunc_35_2.ok (k : Nat) : HOk PR 35 (slices_SortFunc_35_2.h k) := sortH0_ok sortsAt_35 (by kernel_rfl) 49 (enters_of Try.func33 (by kernel_rfl) rfl) (tourkeep2_SweepTurned_1.ok k)

end Go.Proofs.T1
