import Derived.Test.YtddbhngnhegndaaGreatPlPoly
namespace Go.Proofs.T1
open Go Go.Sx
theorem irem_range (a : Int) {m : Int} (hm : 0 < m) : -m < irem a m ∧ irem a m < m := by
  unfold irem
  constructor
  · have := Int.lt_tmod_of_pos a hm; omega
  · exact Int.tmod_lt_of_pos a hm
end Go.Proofs.T1
namespace Go.Proofs.T1
open Go Go.Sx
end Go.Proofs.T1
