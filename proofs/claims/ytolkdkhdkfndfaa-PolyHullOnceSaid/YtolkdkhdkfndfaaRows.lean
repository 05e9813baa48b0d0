/-
  No cell of these rows narrows 'for every input' (looked for: loops, veiled, ifaces, maps, wideKeys, modest, calm, conditions, laid).
  DERIVED. THE GIVEN ROWS OF THIS SEAT. 11 by the template 'for every input the law returns true; each argument reads behind the call as it read before'; 0 by the template 'total and deterministic' (their statements: YtolkdkhdkfndfaaTotals.lean).
  GIVEN WITH THE SEED: the statements are not yours to turn. If you find one false, say at which input.
  Laid BY PROGRAM, IN A SANDBOX (cutbox-rows.mjs): the forced cells as the released guide's own fill.sh prints them over the translation ebc1405146ee96a8… (all of the seat's roots in one cut). By AI agents, Wed Nov 11 2026. No macro, syntax, notation, axiom, sorry.
-/
import Derived.Test.YtolkdkhdkfndfaaChecked
import GoSem.Claim
import GoSem.ClaimJoined
import GoSem.ClaimMapViews
import Derived.JoinedTies
import Derived.KernelRfl
namespace Go.Proofs.Ytolkdkhdkfndfaa
/- THE CELL 'sum', in the pinned program and in every row, IS THE sha256 OF THE DUMP (.gsa) THAT YtolkdkhdkfndfaaProg.lean LOADS. Nothing in Lean hashes anything: it is a label: what it is worth is what the hold of that sum in a sandbox is worth. -/
noncomputable def Try.pinned : Pinned := { name := "ytolkdkhdkfndfaa", sum := "ebc1405146ee96a85b73a996f3b40d5cd4ce20abdec241e7bc5c34efbebaeced", checked := Try.checked }
namespace Rows
def none {H : Type} : Left H := { results := [], args := [] }

/-- 'tourlaw2.PolyHulls': WHATEVER THE INPUT: true; the input reads as it did. -/
def polyHullsSpec : ChangeSpec := { name := "polyHulls", fn := fun _ => fun
  | [d] => { results := [.lit (.bool true)], args := [d] }
  | _ => none }
def polyHullsRow : OpenClaim := { program := "ytolkdkhdkfndfaa", sum := "ebc1405146ee96a85b73a996f3b40d5cd4ce20abdec241e7bc5c34efbebaeced", func := "tourney/tourlaw2.PolyHulls", spec := "polyHulls", unfollowed := true, recurses := true, apart := false }
def PolyHullsSaid : Prop := polyHullsRow.holds Try.pinned (OpenSpec.ofChange polyHullsSpec)

/-- ITS FALSE NEIGHBOUR: 'it returns false'. Refute it at one input. -/
def polyHullsWrong : ChangeSpec := { name := "polyHulls", fn := fun _ => fun
  | [d] => { results := [.lit (.bool false)], args := [d] }
  | _ => none }
def PolyHullsWrongFalsely : Prop := polyHullsRow.holds Try.pinned (OpenSpec.ofChange polyHullsWrong)

/-- 'tourkeep2.PolyHullOnce': WHATEVER THE INPUT: true; the input reads as it did. -/
def polyHullOnceSpec : ChangeSpec := { name := "polyHullOnce", fn := fun _ => fun
  | [d] => { results := [.lit (.bool true)], args := [d] }
  | _ => none }
def polyHullOnceRow : OpenClaim := { program := "ytolkdkhdkfndfaa", sum := "ebc1405146ee96a85b73a996f3b40d5cd4ce20abdec241e7bc5c34efbebaeced", func := "tourney/tourkeep2.PolyHullOnce", spec := "polyHullOnce", inPlace := ["math/bits.Add64"], unfollowed := true, recurses := true, apart := false }
def PolyHullOnceSaid : Prop := polyHullOnceRow.holds Try.pinned (OpenSpec.ofChange polyHullOnceSpec)

/-- ITS FALSE NEIGHBOUR: 'it returns false'. Refute it at one input. -/
def polyHullOnceWrong : ChangeSpec := { name := "polyHullOnce", fn := fun _ => fun
  | [d] => { results := [.lit (.bool false)], args := [d] }
  | _ => none }
def PolyHullOnceWrongFalsely : Prop := polyHullOnceRow.holds Try.pinned (OpenSpec.ofChange polyHullOnceWrong)

/-- 'tourkeep2.SweepJoins': WHATEVER THE INPUT: true; the input reads as it did. -/
def sweepJoinsSpec : ChangeSpec := { name := "sweepJoins", fn := fun _ => fun
  | [d] => { results := [.lit (.bool true)], args := [d] }
  | _ => none }
def sweepJoinsRow : OpenClaim := { program := "ytolkdkhdkfndfaa", sum := "ebc1405146ee96a85b73a996f3b40d5cd4ce20abdec241e7bc5c34efbebaeced", func := "tourney/tourkeep2.SweepJoins", spec := "sweepJoins", unfollowed := true, recurses := true, apart := false }
def SweepJoinsSaid : Prop := sweepJoinsRow.holds Try.pinned (OpenSpec.ofChange sweepJoinsSpec)

/-- ITS FALSE NEIGHBOUR: 'it returns false'. Refute it at one input. -/
def sweepJoinsWrong : ChangeSpec := { name := "sweepJoins", fn := fun _ => fun
  | [d] => { results := [.lit (.bool false)], args := [d] }
  | _ => none }
def SweepJoinsWrongFalsely : Prop := sweepJoinsRow.holds Try.pinned (OpenSpec.ofChange sweepJoinsWrong)

/-- 'tourkeep2.SweepTurned': WHATEVER THE INPUT: true; the input reads as it did. -/
def sweepTurnedSpec : ChangeSpec := { name := "sweepTurned", fn := fun _ => fun
  | [d1, d2] => { results := [.lit (.bool true)], args := [d1, d2] }
  | _ => none }
def sweepTurnedRow : OpenClaim := { program := "ytolkdkhdkfndfaa", sum := "ebc1405146ee96a85b73a996f3b40d5cd4ce20abdec241e7bc5c34efbebaeced", func := "tourney/tourkeep2.SweepTurned", spec := "sweepTurned", unfollowed := true, recurses := true, apart := false }
def SweepTurnedSaid : Prop := sweepTurnedRow.holds Try.pinned (OpenSpec.ofChange sweepTurnedSpec)

/-- ITS FALSE NEIGHBOUR: 'it returns false'. Refute it at one input. -/
def sweepTurnedWrong : ChangeSpec := { name := "sweepTurned", fn := fun _ => fun
  | [d1, d2] => { results := [.lit (.bool false)], args := [d1, d2] }
  | _ => none }
def SweepTurnedWrongFalsely : Prop := sweepTurnedRow.holds Try.pinned (OpenSpec.ofChange sweepTurnedWrong)

/-- 'tourlaw2.SweepSays': WHATEVER THE INPUT: true; the input reads as it did. -/
def sweepSaysSpec : ChangeSpec := { name := "sweepSays", fn := fun _ => fun
  | [d1, d2] => { results := [.lit (.bool true)], args := [d1, d2] }
  | _ => none }
def sweepSaysRow : OpenClaim := { program := "ytolkdkhdkfndfaa", sum := "ebc1405146ee96a85b73a996f3b40d5cd4ce20abdec241e7bc5c34efbebaeced", func := "tourney/tourlaw2.SweepSays", spec := "sweepSays", unfollowed := true, recurses := true, apart := false }
def SweepSaysSaid : Prop := sweepSaysRow.holds Try.pinned (OpenSpec.ofChange sweepSaysSpec)

/-- ITS FALSE NEIGHBOUR: 'it returns false'. Refute it at one input. -/
def sweepSaysWrong : ChangeSpec := { name := "sweepSays", fn := fun _ => fun
  | [d1, d2] => { results := [.lit (.bool false)], args := [d1, d2] }
  | _ => none }
def SweepSaysWrongFalsely : Prop := sweepSaysRow.holds Try.pinned (OpenSpec.ofChange sweepSaysWrong)

/-- 'tourkeep2.RayAlone': WHATEVER THE INPUT: true; the input reads as it did. -/
def rayAloneSpec : ChangeSpec := { name := "rayAlone", fn := fun _ => fun
  | [d1, d2, d3, d4, d5] => { results := [.lit (.bool true)], args := [d1, d2, d3, d4, d5] }
  | _ => none }
def rayAloneRow : OpenClaim := { program := "ytolkdkhdkfndfaa", sum := "ebc1405146ee96a85b73a996f3b40d5cd4ce20abdec241e7bc5c34efbebaeced", func := "tourney/tourkeep2.RayAlone", spec := "rayAlone", unfollowed := true, recurses := true, named := ["math/bits.divideError", "math/bits.overflowError"], apart := false }
def RayAloneSaid : Prop := rayAloneRow.holds Try.pinned (OpenSpec.ofChange rayAloneSpec)

/-- ITS FALSE NEIGHBOUR: 'it returns false'. Refute it at one input. -/
def rayAloneWrong : ChangeSpec := { name := "rayAlone", fn := fun _ => fun
  | [d1, d2, d3, d4, d5] => { results := [.lit (.bool false)], args := [d1, d2, d3, d4, d5] }
  | _ => none }
def RayAloneWrongFalsely : Prop := rayAloneRow.holds Try.pinned (OpenSpec.ofChange rayAloneWrong)

/-- 'tourkeep2.RayHits': WHATEVER THE INPUT: true; the input reads as it did. -/
def rayHitsSpec : ChangeSpec := { name := "rayHits", fn := fun _ => fun
  | [d1, d2, d3, d4, d5] => { results := [.lit (.bool true)], args := [d1, d2, d3, d4, d5] }
  | _ => none }
def rayHitsRow : OpenClaim := { program := "ytolkdkhdkfndfaa", sum := "ebc1405146ee96a85b73a996f3b40d5cd4ce20abdec241e7bc5c34efbebaeced", func := "tourney/tourkeep2.RayHits", spec := "rayHits", unfollowed := true, recurses := true, named := ["math/bits.divideError", "math/bits.overflowError"], apart := false }
def RayHitsSaid : Prop := rayHitsRow.holds Try.pinned (OpenSpec.ofChange rayHitsSpec)

/-- ITS FALSE NEIGHBOUR: 'it returns false'. Refute it at one input. -/
def rayHitsWrong : ChangeSpec := { name := "rayHits", fn := fun _ => fun
  | [d1, d2, d3, d4, d5] => { results := [.lit (.bool false)], args := [d1, d2, d3, d4, d5] }
  | _ => none }
def RayHitsWrongFalsely : Prop := rayHitsRow.holds Try.pinned (OpenSpec.ofChange rayHitsWrong)

/-- 'tourlaw2.RayShapes': WHATEVER THE INPUT: true; the input reads as it did. -/
def rayShapesSpec : ChangeSpec := { name := "rayShapes", fn := fun _ => fun
  | [d1, d2, d3] => { results := [.lit (.bool true)], args := [d1, d2, d3] }
  | _ => none }
def rayShapesRow : OpenClaim := { program := "ytolkdkhdkfndfaa", sum := "ebc1405146ee96a85b73a996f3b40d5cd4ce20abdec241e7bc5c34efbebaeced", func := "tourney/tourlaw2.RayShapes", spec := "rayShapes", unfollowed := true, recurses := true, named := ["math/bits.divideError", "math/bits.overflowError"], apart := false }
def RayShapesSaid : Prop := rayShapesRow.holds Try.pinned (OpenSpec.ofChange rayShapesSpec)

/-- ITS FALSE NEIGHBOUR: 'it returns false'. Refute it at one input. -/
def rayShapesWrong : ChangeSpec := { name := "rayShapes", fn := fun _ => fun
  | [d1, d2, d3] => { results := [.lit (.bool false)], args := [d1, d2, d3] }
  | _ => none }
def RayShapesWrongFalsely : Prop := rayShapesRow.holds Try.pinned (OpenSpec.ofChange rayShapesWrong)

/-- 'tourkeep2.RayStops': WHATEVER THE INPUT: true; the input reads as it did. -/
def rayStopsSpec : ChangeSpec := { name := "rayStops", fn := fun _ => fun
  | [d1, d2, d3, d4, d5, d6] => { results := [.lit (.bool true)], args := [d1, d2, d3, d4, d5, d6] }
  | _ => none }
def rayStopsRow : OpenClaim := { program := "ytolkdkhdkfndfaa", sum := "ebc1405146ee96a85b73a996f3b40d5cd4ce20abdec241e7bc5c34efbebaeced", func := "tourney/tourkeep2.RayStops", spec := "rayStops", unfollowed := true, recurses := true, named := ["math/bits.divideError", "math/bits.overflowError"], apart := false }
def RayStopsSaid : Prop := rayStopsRow.holds Try.pinned (OpenSpec.ofChange rayStopsSpec)

/-- ITS FALSE NEIGHBOUR: 'it returns false'. Refute it at one input. -/
def rayStopsWrong : ChangeSpec := { name := "rayStops", fn := fun _ => fun
  | [d1, d2, d3, d4, d5, d6] => { results := [.lit (.bool false)], args := [d1, d2, d3, d4, d5, d6] }
  | _ => none }
def RayStopsWrongFalsely : Prop := rayStopsRow.holds Try.pinned (OpenSpec.ofChange rayStopsWrong)

/-- 'tourlaw2.JointSays': WHATEVER THE INPUT: true; the input reads as it did. -/
def jointSaysSpec : ChangeSpec := { name := "jointSays", fn := fun _ => fun
  | [d1, d2, d3, d4] => { results := [.lit (.bool true)], args := [d1, d2, d3, d4] }
  | _ => none }
def jointSaysRow : OpenClaim := { program := "ytolkdkhdkfndfaa", sum := "ebc1405146ee96a85b73a996f3b40d5cd4ce20abdec241e7bc5c34efbebaeced", func := "tourney/tourlaw2.JointSays", spec := "jointSays", inPlace := ["math/bits.Add64"], unfollowed := true, recurses := true, named := ["math/bits.divideError", "math/bits.overflowError"], apart := false }
def JointSaysSaid : Prop := jointSaysRow.holds Try.pinned (OpenSpec.ofChange jointSaysSpec)

/-- ITS FALSE NEIGHBOUR: 'it returns false'. Refute it at one input. -/
def jointSaysWrong : ChangeSpec := { name := "jointSays", fn := fun _ => fun
  | [d1, d2, d3, d4] => { results := [.lit (.bool false)], args := [d1, d2, d3, d4] }
  | _ => none }
def JointSaysWrongFalsely : Prop := jointSaysRow.holds Try.pinned (OpenSpec.ofChange jointSaysWrong)

/-- 'tourkeep2.JointStill': WHATEVER THE INPUT: true; the input reads as it did. -/
def jointStillSpec : ChangeSpec := { name := "jointStill", fn := fun _ => fun
  | [d1, d2] => { results := [.lit (.bool true)], args := [d1, d2] }
  | _ => none }
def jointStillRow : OpenClaim := { program := "ytolkdkhdkfndfaa", sum := "ebc1405146ee96a85b73a996f3b40d5cd4ce20abdec241e7bc5c34efbebaeced", func := "tourney/tourkeep2.JointStill", spec := "jointStill", inPlace := ["math/bits.Add64"], unfollowed := true, recurses := true, named := ["math/bits.divideError", "math/bits.overflowError"], apart := false }
def JointStillSaid : Prop := jointStillRow.holds Try.pinned (OpenSpec.ofChange jointStillSpec)

/-- ITS FALSE NEIGHBOUR: 'it returns false'. Refute it at one input. -/
def jointStillWrong : ChangeSpec := { name := "jointStill", fn := fun _ => fun
  | [d1, d2] => { results := [.lit (.bool false)], args := [d1, d2] }
  | _ => none }
def JointStillWrongFalsely : Prop := jointStillRow.holds Try.pinned (OpenSpec.ofChange jointStillWrong)

/- THE SECOND FORM. 'bulk': how many values and letters a reading holds, each counted each time it is reached (what is shared counts as often as it is met; a slice's spare places count too). A statement '..UptoSaid' is the law's where the arguments, and the package variables that the reading takes, are together of bulk at most 1048576: NARROWER than '..Said'. Prove '..Said' where nothing that the law and all that it calls make is longer than what came in: it says more and counts as full. Else prove '..UptoSaid'. A law counts once. -/
mutual
def uptoBulk {H : Type} : DataW H → Nat
  | .lit (.string bytes) => bytes.length + 1
  | .lit _ => 1
  | .nil => 1
  | .ptr d => uptoBulk d + 1
  | .slice elems spare => uptoBulkAll elems + uptoBulkAll spare + 1
  | .agg parts => uptoBulkAll parts + 1
  | .iface _ d => uptoBulk d + 1
  | .map entries => uptoBulkEntries entries + 1
  | .held _ => 1
def uptoBulkAll {H : Type} : List (DataW H) → Nat
  | [] => 0
  | d :: r => uptoBulk d + uptoBulkAll r
def uptoBulkEntries {H : Type} : List (Lit × DataW H) → Nat
  | [] => 0
  | x :: r => uptoBulkEntry x + uptoBulkEntries r
def uptoBulkEntry {H : Type} : Lit × DataW H → Nat
  | (.string bytes, d) => bytes.length + uptoBulk d + 1
  | (_, d) => uptoBulk d + 1
 end
def uptoSmall : (H : Type) → List (DataW H) → Bool := fun _ ds => decide (uptoBulkAll ds ≤ 1048576)
def OpenSpec.upto (s : _root_.Go.ChangeSpec) : _root_.Go.OpenSpec := { _root_.Go.OpenSpec.ofChange s with cond := some uptoSmall }

/-- 'tourlaw2.PolyHulls', WHERE WHAT IT READS IS OF BULK AT MOST 1048576: true; the input reads as it did. -/
def polyHullsUptoRow : OpenClaim := { program := "ytolkdkhdkfndfaa", sum := "ebc1405146ee96a85b73a996f3b40d5cd4ce20abdec241e7bc5c34efbebaeced", func := "tourney/tourlaw2.PolyHulls", spec := "polyHulls", unfollowed := true, recurses := true, apart := false, narrowed := true }
def PolyHullsUptoSaid : Prop := polyHullsUptoRow.holds Try.pinned (OpenSpec.upto polyHullsSpec)

/-- 'tourkeep2.PolyHullOnce', WHERE WHAT IT READS IS OF BULK AT MOST 1048576: true; the input reads as it did. -/
def polyHullOnceUptoRow : OpenClaim := { program := "ytolkdkhdkfndfaa", sum := "ebc1405146ee96a85b73a996f3b40d5cd4ce20abdec241e7bc5c34efbebaeced", func := "tourney/tourkeep2.PolyHullOnce", spec := "polyHullOnce", inPlace := ["math/bits.Add64"], unfollowed := true, recurses := true, apart := false, narrowed := true }
def PolyHullOnceUptoSaid : Prop := polyHullOnceUptoRow.holds Try.pinned (OpenSpec.upto polyHullOnceSpec)

/-- 'tourkeep2.SweepJoins', WHERE WHAT IT READS IS OF BULK AT MOST 1048576: true; the input reads as it did. -/
def sweepJoinsUptoRow : OpenClaim := { program := "ytolkdkhdkfndfaa", sum := "ebc1405146ee96a85b73a996f3b40d5cd4ce20abdec241e7bc5c34efbebaeced", func := "tourney/tourkeep2.SweepJoins", spec := "sweepJoins", unfollowed := true, recurses := true, apart := false, narrowed := true }
def SweepJoinsUptoSaid : Prop := sweepJoinsUptoRow.holds Try.pinned (OpenSpec.upto sweepJoinsSpec)

/-- 'tourkeep2.SweepTurned', WHERE WHAT IT READS IS OF BULK AT MOST 1048576: true; the input reads as it did. -/
def sweepTurnedUptoRow : OpenClaim := { program := "ytolkdkhdkfndfaa", sum := "ebc1405146ee96a85b73a996f3b40d5cd4ce20abdec241e7bc5c34efbebaeced", func := "tourney/tourkeep2.SweepTurned", spec := "sweepTurned", unfollowed := true, recurses := true, apart := false, narrowed := true }
def SweepTurnedUptoSaid : Prop := sweepTurnedUptoRow.holds Try.pinned (OpenSpec.upto sweepTurnedSpec)

/-- 'tourlaw2.SweepSays', WHERE WHAT IT READS IS OF BULK AT MOST 1048576: true; the input reads as it did. -/
def sweepSaysUptoRow : OpenClaim := { program := "ytolkdkhdkfndfaa", sum := "ebc1405146ee96a85b73a996f3b40d5cd4ce20abdec241e7bc5c34efbebaeced", func := "tourney/tourlaw2.SweepSays", spec := "sweepSays", unfollowed := true, recurses := true, apart := false, narrowed := true }
def SweepSaysUptoSaid : Prop := sweepSaysUptoRow.holds Try.pinned (OpenSpec.upto sweepSaysSpec)

/-- 'tourkeep2.RayAlone', WHERE WHAT IT READS IS OF BULK AT MOST 1048576: true; the input reads as it did. -/
def rayAloneUptoRow : OpenClaim := { program := "ytolkdkhdkfndfaa", sum := "ebc1405146ee96a85b73a996f3b40d5cd4ce20abdec241e7bc5c34efbebaeced", func := "tourney/tourkeep2.RayAlone", spec := "rayAlone", unfollowed := true, recurses := true, named := ["math/bits.divideError", "math/bits.overflowError"], apart := false, narrowed := true }
def RayAloneUptoSaid : Prop := rayAloneUptoRow.holds Try.pinned (OpenSpec.upto rayAloneSpec)

/-- 'tourkeep2.RayHits', WHERE WHAT IT READS IS OF BULK AT MOST 1048576: true; the input reads as it did. -/
def rayHitsUptoRow : OpenClaim := { program := "ytolkdkhdkfndfaa", sum := "ebc1405146ee96a85b73a996f3b40d5cd4ce20abdec241e7bc5c34efbebaeced", func := "tourney/tourkeep2.RayHits", spec := "rayHits", unfollowed := true, recurses := true, named := ["math/bits.divideError", "math/bits.overflowError"], apart := false, narrowed := true }
def RayHitsUptoSaid : Prop := rayHitsUptoRow.holds Try.pinned (OpenSpec.upto rayHitsSpec)

/-- 'tourlaw2.RayShapes', WHERE WHAT IT READS IS OF BULK AT MOST 1048576: true; the input reads as it did. -/
def rayShapesUptoRow : OpenClaim := { program := "ytolkdkhdkfndfaa", sum := "ebc1405146ee96a85b73a996f3b40d5cd4ce20abdec241e7bc5c34efbebaeced", func := "tourney/tourlaw2.RayShapes", spec := "rayShapes", unfollowed := true, recurses := true, named := ["math/bits.divideError", "math/bits.overflowError"], apart := false, narrowed := true }
def RayShapesUptoSaid : Prop := rayShapesUptoRow.holds Try.pinned (OpenSpec.upto rayShapesSpec)

/-- 'tourkeep2.RayStops', WHERE WHAT IT READS IS OF BULK AT MOST 1048576: true; the input reads as it did. -/
def rayStopsUptoRow : OpenClaim := { program := "ytolkdkhdkfndfaa", sum := "ebc1405146ee96a85b73a996f3b40d5cd4ce20abdec241e7bc5c34efbebaeced", func := "tourney/tourkeep2.RayStops", spec := "rayStops", unfollowed := true, recurses := true, named := ["math/bits.divideError", "math/bits.overflowError"], apart := false, narrowed := true }
def RayStopsUptoSaid : Prop := rayStopsUptoRow.holds Try.pinned (OpenSpec.upto rayStopsSpec)

/-- 'tourlaw2.JointSays', WHERE WHAT IT READS IS OF BULK AT MOST 1048576: true; the input reads as it did. -/
def jointSaysUptoRow : OpenClaim := { program := "ytolkdkhdkfndfaa", sum := "ebc1405146ee96a85b73a996f3b40d5cd4ce20abdec241e7bc5c34efbebaeced", func := "tourney/tourlaw2.JointSays", spec := "jointSays", inPlace := ["math/bits.Add64"], unfollowed := true, recurses := true, named := ["math/bits.divideError", "math/bits.overflowError"], apart := false, narrowed := true }
def JointSaysUptoSaid : Prop := jointSaysUptoRow.holds Try.pinned (OpenSpec.upto jointSaysSpec)

/-- 'tourkeep2.JointStill', WHERE WHAT IT READS IS OF BULK AT MOST 1048576: true; the input reads as it did. -/
def jointStillUptoRow : OpenClaim := { program := "ytolkdkhdkfndfaa", sum := "ebc1405146ee96a85b73a996f3b40d5cd4ce20abdec241e7bc5c34efbebaeced", func := "tourney/tourkeep2.JointStill", spec := "jointStill", inPlace := ["math/bits.Add64"], unfollowed := true, recurses := true, named := ["math/bits.divideError", "math/bits.overflowError"], apart := false, narrowed := true }
def JointStillUptoSaid : Prop := jointStillUptoRow.holds Try.pinned (OpenSpec.upto jointStillSpec)

end Rows
end Go.Proofs.Ytolkdkhdkfndfaa
