/-
  The library's sort, laid at this program.
-/
import Derived.Test.YtolkdkhdkfndfaaSxSort
import Derived.Test.YtolkdkhdkfndfaaG0
namespace Go.Proofs.T1
open Go Go.Sx Go.Proofs
set_option maxRecDepth 100000
def sortK88_ren : Go.Shelf.Ren := ⟨fun | 6 => 88 | 15 => 109 | 14 => 150 | 28 => 163 | 29 => 164 | 20 => 200 | 21 => 201 | 22 => 202 | 23 => 203 | 24 => 204 | 25 => 205 | 26 => 206 | 27 => 207 | 46 => 238 | 47 => 219 | 48 => 220 | 49 => 239 | 50 => 240 | 57 => 250 | n => n, fun | 22 => 22 | 24 => 28 | 25 => 110 | 3 => 3 | 39 => 122 | 0 => 0 | 53 => 140 | 55 => 153 | 4 => 4 | 46 => 161 | 45 => 160 | 50 => 83 | 5 => 5 | 9 => 9 | 66 => 203 | 70 => 207 | 76 => 216 | 77 => 217 | n => n, fun | n => n⟩
theorem sortK88 : Go.Proofs.SlLaysF0.n6 Try.prog sortK88_ren where
  mixed := by kernel_rfl
  f6 := ⟨"slices.SortFunc[[]tourney/api.Vec,tourney/api.Vec]", by decide, Try.func88.trans (congrArg some (by kernel_rfl))⟩
  f14 := ⟨"slices.pdqsortCmpFunc[tourney/api.Vec]", by decide, Try.func150.trans (congrArg some (by kernel_rfl))⟩
  f15 := Try.func109.trans (congrArg some (by kernel_rfl))
  f20 := ⟨"slices.insertionSortCmpFunc[tourney/api.Vec]", by decide, Try.func200.trans (congrArg some (by kernel_rfl))⟩
  f21 := ⟨"slices.heapSortCmpFunc[tourney/api.Vec]", by decide, Try.func201.trans (congrArg some (by kernel_rfl))⟩
  f22 := ⟨"slices.breakPatternsCmpFunc[tourney/api.Vec]", by decide, Try.func202.trans (congrArg some (by kernel_rfl))⟩
  f23 := ⟨"slices.choosePivotCmpFunc[tourney/api.Vec]", by decide, Try.func203.trans (congrArg some (by kernel_rfl))⟩
  f24 := ⟨"slices.reverseRangeCmpFunc[tourney/api.Vec]", by decide, Try.func204.trans (congrArg some (by kernel_rfl))⟩
  f25 := ⟨"slices.partialInsertionSortCmpFunc[tourney/api.Vec]", by decide, Try.func205.trans (congrArg some (by kernel_rfl))⟩
  f26 := ⟨"slices.partitionEqualCmpFunc[tourney/api.Vec]", by decide, Try.func206.trans (congrArg some (by kernel_rfl))⟩
  f27 := ⟨"slices.partitionCmpFunc[tourney/api.Vec]", by decide, Try.func207.trans (congrArg some (by kernel_rfl))⟩
  f28 := Try.func163.trans (congrArg some (by kernel_rfl))
  f29 := Try.func164.trans (congrArg some (by kernel_rfl))
  f46 := ⟨"slices.siftDownCmpFunc[tourney/api.Vec]", by decide, Try.func238.trans (congrArg some (by kernel_rfl))⟩
  f47 := Try.func219.trans (congrArg some (by kernel_rfl))
  f48 := Try.func220.trans (congrArg some (by kernel_rfl))
  f49 := ⟨"slices.medianAdjacentCmpFunc[tourney/api.Vec]", by decide, Try.func239.trans (congrArg some (by kernel_rfl))⟩
  f50 := ⟨"slices.medianCmpFunc[tourney/api.Vec]", by decide, Try.func240.trans (congrArg some (by kernel_rfl))⟩
  f57 := ⟨"slices.order2CmpFunc[tourney/api.Vec]", by decide, Try.func250.trans (congrArg some (by kernel_rfl))⟩
  t0 := Try.underlying0
  a0 := Try.isAgg0
  z0 := Try.sizeOf0
  v0 := Try.zeroValue0
  t3 := Try.underlying3
  a3 := Try.isAgg3
  z3 := Try.sizeOf3
  v3 := Try.zeroValue3
  t4 := Try.underlying4
  a4 := Try.isAgg4
  z4 := Try.sizeOf4
  v4 := Try.zeroValue4
  t5 := Try.underlying5
  a5 := Try.isAgg5
  z5 := Try.sizeOf5
  v5 := Try.zeroValue5
  t9 := Try.underlying9
  a9 := Try.isAgg9
  z9 := Try.sizeOf9
  v9 := Try.zeroValue9
  t22 := Try.underlying22
  a22 := Try.isAgg22
  z22 := Try.sizeOf22
  v22 := Try.zeroValue22
  t25 := Try.underlying110
  a25 := Try.isAgg110
  z25 := Try.sizeOf110
  v25 := Try.zeroValue110
  t39 := Try.underlying122
  a39 := Try.isAgg122
  z39 := Try.sizeOf122
  v39 := Try.zeroValue122
  t45 := Try.underlying160
  a45 := Try.isAgg160
  z45 := Try.sizeOf160
  v45 := Try.zeroValue160
  t46 := Try.underlying161
  a46 := Try.isAgg161
  z46 := Try.sizeOf161
  v46 := Try.zeroValue161
  t50 := Try.underlying83
  a50 := Try.isAgg83
  z50 := Try.sizeOf83
  v50 := Try.zeroValue83
  t53 := Try.underlying140
  a53 := Try.isAgg140
  z53 := Try.sizeOf140
  v53 := Try.zeroValue140
  t55 := Try.underlying153
  a55 := Try.isAgg153
  z55 := Try.sizeOf153
  v55 := Try.zeroValue153
  t66 := Try.underlying203
  a66 := Try.isAgg203
  z66 := Try.sizeOf203
  v66 := Try.zeroValue203
  t70 := Try.underlying207
  a70 := Try.isAgg207
  z70 := Try.sizeOf207
  v70 := Try.zeroValue207
  t76 := Try.underlying216
  a76 := Try.isAgg216
  z76 := Try.sizeOf216
  v76 := Try.zeroValue216
  t77 := Try.underlying217
  a77 := Try.isAgg217
  z77 := Try.sizeOf217
  v77 := Try.zeroValue217
theorem sortsAt_88 : SortsAt PR 88 T27 := via (sortsAt_K (e := T27) sortK88 (by kernel_rfl) (by kernel_rfl) Try.isAgg27 Try.sizeOf27) (by kernel_rfl)
end Go.Proofs.T1
