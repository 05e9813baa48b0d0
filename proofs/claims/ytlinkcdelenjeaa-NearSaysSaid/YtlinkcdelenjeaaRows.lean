/-
  No cell of these rows narrows 'for every input' (looked for: loops, veiled, ifaces, maps, wideKeys, modest, calm, conditions, laid).
  DERIVED. THE GIVEN ROWS OF THIS SEAT. 7 by the template 'for every input the law returns true; each argument reads behind the call as it read before'; 0 by the template 'total and deterministic' (their statements: YtlinkcdelenjeaaTotals.lean).
  GIVEN WITH THE SEED: the statements are not yours to turn. If you find one false, say at which input.
  Laid BY PROGRAM, IN A SANDBOX (cutbox-rows.mjs): the forced cells as the released guide's own fill.sh prints them over the translation 19f5d09dc3b8e909… (all of the seat's roots in one cut). By AI agents, Wed Nov 11 2026. No macro, syntax, notation, axiom, sorry.
-/
import Derived.Test.YtlinkcdelenjeaaChecked
import GoSem.Claim
import GoSem.ClaimJoined
import GoSem.ClaimMapViews
import Derived.JoinedTies
import Derived.KernelRfl
namespace Go.Proofs.Ytlinkcdelenjeaa
/- THE CELL 'sum', in the pinned program and in every row, IS THE sha256 OF THE DUMP (.gsa) THAT YtlinkcdelenjeaaProg.lean LOADS. Nothing in Lean hashes anything: it is a label: what it is worth is what the hold of that sum in a sandbox is worth. -/
noncomputable def Try.pinned : Pinned := { name := "ytlinkcdelenjeaa", sum := "19f5d09dc3b8e9096cc9480a8d6936445b7cdf31b6217b9d5840a119226854df", checked := Try.checked }
namespace Rows
def none {H : Type} : Left H := { results := [], args := [] }

/-- 'tourlaw2.NearSays': WHATEVER THE INPUT: true; the input reads as it did. -/
def nearSaysSpec : ChangeSpec := { name := "nearSays", fn := fun _ => fun
  | [d1, d2] => { results := [.lit (.bool true)], args := [d1, d2] }
  | _ => none }
def nearSaysRow : OpenClaim := { program := "ytlinkcdelenjeaa", sum := "19f5d09dc3b8e9096cc9480a8d6936445b7cdf31b6217b9d5840a119226854df", func := "tourney/tourlaw2.NearSays", spec := "nearSays", unfollowed := true, recurses := true, apart := false }
def NearSaysSaid : Prop := nearSaysRow.holds Try.pinned (OpenSpec.ofChange nearSaysSpec)

/-- ITS FALSE NEIGHBOUR: 'it returns false'. Refute it at one input. -/
def nearSaysWrong : ChangeSpec := { name := "nearSays", fn := fun _ => fun
  | [d1, d2] => { results := [.lit (.bool false)], args := [d1, d2] }
  | _ => none }
def NearSaysWrongFalsely : Prop := nearSaysRow.holds Try.pinned (OpenSpec.ofChange nearSaysWrong)

/-- 'tourlaw2.PolyHulls': WHATEVER THE INPUT: true; the input reads as it did. -/
def polyHullsSpec : ChangeSpec := { name := "polyHulls", fn := fun _ => fun
  | [d] => { results := [.lit (.bool true)], args := [d] }
  | _ => none }
def polyHullsRow : OpenClaim := { program := "ytlinkcdelenjeaa", sum := "19f5d09dc3b8e9096cc9480a8d6936445b7cdf31b6217b9d5840a119226854df", func := "tourney/tourlaw2.PolyHulls", spec := "polyHulls", unfollowed := true, recurses := true, apart := false }
def PolyHullsSaid : Prop := polyHullsRow.holds Try.pinned (OpenSpec.ofChange polyHullsSpec)

/-- ITS FALSE NEIGHBOUR: 'it returns false'. Refute it at one input. -/
def polyHullsWrong : ChangeSpec := { name := "polyHulls", fn := fun _ => fun
  | [d] => { results := [.lit (.bool false)], args := [d] }
  | _ => none }
def PolyHullsWrongFalsely : Prop := polyHullsRow.holds Try.pinned (OpenSpec.ofChange polyHullsWrong)

/-- 'tourkeep2.SweepJoins': WHATEVER THE INPUT: true; the input reads as it did. -/
def sweepJoinsSpec : ChangeSpec := { name := "sweepJoins", fn := fun _ => fun
  | [d] => { results := [.lit (.bool true)], args := [d] }
  | _ => none }
def sweepJoinsRow : OpenClaim := { program := "ytlinkcdelenjeaa", sum := "19f5d09dc3b8e9096cc9480a8d6936445b7cdf31b6217b9d5840a119226854df", func := "tourney/tourkeep2.SweepJoins", spec := "sweepJoins", unfollowed := true, recurses := true, apart := false }
def SweepJoinsSaid : Prop := sweepJoinsRow.holds Try.pinned (OpenSpec.ofChange sweepJoinsSpec)

/-- ITS FALSE NEIGHBOUR: 'it returns false'. Refute it at one input. -/
def sweepJoinsWrong : ChangeSpec := { name := "sweepJoins", fn := fun _ => fun
  | [d] => { results := [.lit (.bool false)], args := [d] }
  | _ => none }
def SweepJoinsWrongFalsely : Prop := sweepJoinsRow.holds Try.pinned (OpenSpec.ofChange sweepJoinsWrong)

/-- 'tourkeep2.SatApart': WHATEVER THE INPUT: true; the input reads as it did. -/
def satApartSpec : ChangeSpec := { name := "satApart", fn := fun _ => fun
  | [d1, d2, d3, d4] => { results := [.lit (.bool true)], args := [d1, d2, d3, d4] }
  | _ => none }
def satApartRow : OpenClaim := { program := "ytlinkcdelenjeaa", sum := "19f5d09dc3b8e9096cc9480a8d6936445b7cdf31b6217b9d5840a119226854df", func := "tourney/tourkeep2.SatApart", spec := "satApart", inPlace := ["math/bits.Sub64", "math/bits.Add64"], unfollowed := true, recurses := true, named := ["math/bits.divideError", "math/bits.overflowError"], apart := false }
def SatApartSaid : Prop := satApartRow.holds Try.pinned (OpenSpec.ofChange satApartSpec)

/-- ITS FALSE NEIGHBOUR: 'it returns false'. Refute it at one input. -/
def satApartWrong : ChangeSpec := { name := "satApart", fn := fun _ => fun
  | [d1, d2, d3, d4] => { results := [.lit (.bool false)], args := [d1, d2, d3, d4] }
  | _ => none }
def SatApartWrongFalsely : Prop := satApartRow.holds Try.pinned (OpenSpec.ofChange satApartWrong)

/-- 'tourkeep2.SweepTurned': WHATEVER THE INPUT: true; the input reads as it did. -/
def sweepTurnedSpec : ChangeSpec := { name := "sweepTurned", fn := fun _ => fun
  | [d1, d2] => { results := [.lit (.bool true)], args := [d1, d2] }
  | _ => none }
def sweepTurnedRow : OpenClaim := { program := "ytlinkcdelenjeaa", sum := "19f5d09dc3b8e9096cc9480a8d6936445b7cdf31b6217b9d5840a119226854df", func := "tourney/tourkeep2.SweepTurned", spec := "sweepTurned", unfollowed := true, recurses := true, apart := false }
def SweepTurnedSaid : Prop := sweepTurnedRow.holds Try.pinned (OpenSpec.ofChange sweepTurnedSpec)

/-- ITS FALSE NEIGHBOUR: 'it returns false'. Refute it at one input. -/
def sweepTurnedWrong : ChangeSpec := { name := "sweepTurned", fn := fun _ => fun
  | [d1, d2] => { results := [.lit (.bool false)], args := [d1, d2] }
  | _ => none }
def SweepTurnedWrongFalsely : Prop := sweepTurnedRow.holds Try.pinned (OpenSpec.ofChange sweepTurnedWrong)

/-- 'tourlaw2.SweepSays': WHATEVER THE INPUT: true; the input reads as it did. -/
def sweepSaysSpec : ChangeSpec := { name := "sweepSays", fn := fun _ => fun
  | [d1, d2] => { results := [.lit (.bool true)], args := [d1, d2] }
  | _ => none }
def sweepSaysRow : OpenClaim := { program := "ytlinkcdelenjeaa", sum := "19f5d09dc3b8e9096cc9480a8d6936445b7cdf31b6217b9d5840a119226854df", func := "tourney/tourlaw2.SweepSays", spec := "sweepSays", unfollowed := true, recurses := true, apart := false }
def SweepSaysSaid : Prop := sweepSaysRow.holds Try.pinned (OpenSpec.ofChange sweepSaysSpec)

/-- ITS FALSE NEIGHBOUR: 'it returns false'. Refute it at one input. -/
def sweepSaysWrong : ChangeSpec := { name := "sweepSays", fn := fun _ => fun
  | [d1, d2] => { results := [.lit (.bool false)], args := [d1, d2] }
  | _ => none }
def SweepSaysWrongFalsely : Prop := sweepSaysRow.holds Try.pinned (OpenSpec.ofChange sweepSaysWrong)

/-- 'tourkeep2.PolyHullOnce': WHATEVER THE INPUT: true; the input reads as it did. -/
def polyHullOnceSpec : ChangeSpec := { name := "polyHullOnce", fn := fun _ => fun
  | [d] => { results := [.lit (.bool true)], args := [d] }
  | _ => none }
def polyHullOnceRow : OpenClaim := { program := "ytlinkcdelenjeaa", sum := "19f5d09dc3b8e9096cc9480a8d6936445b7cdf31b6217b9d5840a119226854df", func := "tourney/tourkeep2.PolyHullOnce", spec := "polyHullOnce", inPlace := ["math/bits.Add64"], unfollowed := true, recurses := true, apart := false }
def PolyHullOnceSaid : Prop := polyHullOnceRow.holds Try.pinned (OpenSpec.ofChange polyHullOnceSpec)

/-- ITS FALSE NEIGHBOUR: 'it returns false'. Refute it at one input. -/
def polyHullOnceWrong : ChangeSpec := { name := "polyHullOnce", fn := fun _ => fun
  | [d] => { results := [.lit (.bool false)], args := [d] }
  | _ => none }
def PolyHullOnceWrongFalsely : Prop := polyHullOnceRow.holds Try.pinned (OpenSpec.ofChange polyHullOnceWrong)

/- THE SECOND FORM. 'bulk': how many values and letters a reading holds, each counted each time it is reached (what is shared counts as often as it is met; a slice's spare places count too). A statement '..UptoSaid' is the law's where the arguments, and the package variables that the reading takes, are together of bulk at most 1048576: NARROWER than '..Said'. Prove '..Said' where nothing that the law and all that it calls make is longer than what came in: it says more and counts as full. Else prove '..UptoSaid'. A law counts once. -/
mutual
def uptoBulk {H : Type} : DataW H → Nat
  | .lit (.string bytes) => bytes.length + 1
  | .lit _ => 1
  | .nil => 1
  | .ptr d => uptoBulk d + 1
  | .slice elems spare => uptoBulkAll elems + uptoBulkAll spare + 1
  | .agg parts => uptoBulkAll parts + 1
  | .iface _ d => uptoBulk d + 1
  | .map entries => uptoBulkEntries entries + 1
  | .held _ => 1
def uptoBulkAll {H : Type} : List (DataW H) → Nat
  | [] => 0
  | d :: r => uptoBulk d + uptoBulkAll r
def uptoBulkEntries {H : Type} : List (Lit × DataW H) → Nat
  | [] => 0
  | x :: r => uptoBulkEntry x + uptoBulkEntries r
def uptoBulkEntry {H : Type} : Lit × DataW H → Nat
  | (.string bytes, d) => bytes.length + uptoBulk d + 1
  | (_, d) => uptoBulk d + 1
 end
def uptoSmall : (H : Type) → List (DataW H) → Bool := fun _ ds => decide (uptoBulkAll ds ≤ 1048576)
def OpenSpec.upto (s : _root_.Go.ChangeSpec) : _root_.Go.OpenSpec := { _root_.Go.OpenSpec.ofChange s with cond := some uptoSmall }

/-- 'tourlaw2.NearSays', WHERE WHAT IT READS IS OF BULK AT MOST 1048576: true; the input reads as it did. -/
def nearSaysUptoRow : OpenClaim := { program := "ytlinkcdelenjeaa", sum := "19f5d09dc3b8e9096cc9480a8d6936445b7cdf31b6217b9d5840a119226854df", func := "tourney/tourlaw2.NearSays", spec := "nearSays", unfollowed := true, recurses := true, apart := false, narrowed := true }
def NearSaysUptoSaid : Prop := nearSaysUptoRow.holds Try.pinned (OpenSpec.upto nearSaysSpec)

/-- 'tourlaw2.PolyHulls', WHERE WHAT IT READS IS OF BULK AT MOST 1048576: true; the input reads as it did. -/
def polyHullsUptoRow : OpenClaim := { program := "ytlinkcdelenjeaa", sum := "19f5d09dc3b8e9096cc9480a8d6936445b7cdf31b6217b9d5840a119226854df", func := "tourney/tourlaw2.PolyHulls", spec := "polyHulls", unfollowed := true, recurses := true, apart := false, narrowed := true }
def PolyHullsUptoSaid : Prop := polyHullsUptoRow.holds Try.pinned (OpenSpec.upto polyHullsSpec)

/-- 'tourkeep2.SweepJoins', WHERE WHAT IT READS IS OF BULK AT MOST 1048576: true; the input reads as it did. -/
def sweepJoinsUptoRow : OpenClaim := { program := "ytlinkcdelenjeaa", sum := "19f5d09dc3b8e9096cc9480a8d6936445b7cdf31b6217b9d5840a119226854df", func := "tourney/tourkeep2.SweepJoins", spec := "sweepJoins", unfollowed := true, recurses := true, apart := false, narrowed := true }
def SweepJoinsUptoSaid : Prop := sweepJoinsUptoRow.holds Try.pinned (OpenSpec.upto sweepJoinsSpec)

/-- 'tourkeep2.SatApart', WHERE WHAT IT READS IS OF BULK AT MOST 1048576: true; the input reads as it did. -/
def satApartUptoRow : OpenClaim := { program := "ytlinkcdelenjeaa", sum := "19f5d09dc3b8e9096cc9480a8d6936445b7cdf31b6217b9d5840a119226854df", func := "tourney/tourkeep2.SatApart", spec := "satApart", inPlace := ["math/bits.Sub64", "math/bits.Add64"], unfollowed := true, recurses := true, named := ["math/bits.divideError", "math/bits.overflowError"], apart := false, narrowed := true }
def SatApartUptoSaid : Prop := satApartUptoRow.holds Try.pinned (OpenSpec.upto satApartSpec)

/-- 'tourkeep2.SweepTurned', WHERE WHAT IT READS IS OF BULK AT MOST 1048576: true; the input reads as it did. -/
def sweepTurnedUptoRow : OpenClaim := { program := "ytlinkcdelenjeaa", sum := "19f5d09dc3b8e9096cc9480a8d6936445b7cdf31b6217b9d5840a119226854df", func := "tourney/tourkeep2.SweepTurned", spec := "sweepTurned", unfollowed := true, recurses := true, apart := false, narrowed := true }
def SweepTurnedUptoSaid : Prop := sweepTurnedUptoRow.holds Try.pinned (OpenSpec.upto sweepTurnedSpec)

/-- 'tourlaw2.SweepSays', WHERE WHAT IT READS IS OF BULK AT MOST 1048576: true; the input reads as it did. -/
def sweepSaysUptoRow : OpenClaim := { program := "ytlinkcdelenjeaa", sum := "19f5d09dc3b8e9096cc9480a8d6936445b7cdf31b6217b9d5840a119226854df", func := "tourney/tourlaw2.SweepSays", spec := "sweepSays", unfollowed := true, recurses := true, apart := false, narrowed := true }
def SweepSaysUptoSaid : Prop := sweepSaysUptoRow.holds Try.pinned (OpenSpec.upto sweepSaysSpec)

/-- 'tourkeep2.PolyHullOnce', WHERE WHAT IT READS IS OF BULK AT MOST 1048576: true; the input reads as it did. -/
def polyHullOnceUptoRow : OpenClaim := { program := "ytlinkcdelenjeaa", sum := "19f5d09dc3b8e9096cc9480a8d6936445b7cdf31b6217b9d5840a119226854df", func := "tourney/tourkeep2.PolyHullOnce", spec := "polyHullOnce", inPlace := ["math/bits.Add64"], unfollowed := true, recurses := true, apart := false, narrowed := true }
def PolyHullOnceUptoSaid : Prop := polyHullOnceUptoRow.holds Try.pinned (OpenSpec.upto polyHullOnceSpec)

end Rows
end Go.Proofs.Ytlinkcdelenjeaa
