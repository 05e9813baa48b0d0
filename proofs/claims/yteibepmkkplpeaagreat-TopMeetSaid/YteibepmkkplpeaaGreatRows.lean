/-
  No cell of these rows narrows 'for every input' (looked for: loops, veiled, ifaces, maps, wideKeys, modest, calm, conditions, laid).
  DERIVED. THE GIVEN ROWS OF THIS SEAT. 4 by the template 'for every input the law returns true; each argument reads behind the call as it read before'; 0 by the template 'total and deterministic' (their statements: YteibepmkkplpeaaGreatTotals.lean).
  GIVEN WITH THE SEED: the statements are not yours to turn. If you find one false, say at which input.
  Laid BY PROGRAM, IN A SANDBOX (cutbox-rows.mjs): the forced cells as the released guide's own fill.sh prints them over the translation b82f8009c0bde99e… (all of the seat's roots in one cut). By AI agents, Wed Nov 11 2026. No macro, syntax, notation, axiom, sorry.
-/
import Derived.Test.YteibepmkkplpeaaGreatChecked
import GoSem.Claim
import GoSem.ClaimJoined
import GoSem.ClaimMapViews
import Derived.JoinedTies
import Derived.KernelRfl
namespace Go.Proofs.YteibepmkkplpeaaGreat
/- THE CELL 'sum', in the pinned program and in every row, IS THE sha256 OF THE DUMP (.gsa) THAT YteibepmkkplpeaaGreatProg.lean LOADS. Nothing in Lean hashes anything: it is a label: what it is worth is what the hold of that sum in a sandbox is worth. -/
noncomputable def Tryz.pinned : Pinned := { name := "yteibepmkkplpeaagreat", sum := "b82f8009c0bde99eaf9d44c6b31a3cf90982a6f04aeef524b723c9594b47ec2b", checked := Tryz.checked }
namespace Rows
def none {H : Type} : Left H := { results := [], args := [] }

/-- 'tourlaw2.PhysChecks': WHATEVER THE INPUT: true; the input reads as it did. -/
def physChecksSpec : ChangeSpec := { name := "physChecks", fn := fun _ => fun
  | [d] => { results := [.lit (.bool true)], args := [d] }
  | _ => none }
def physChecksRow : OpenClaim := { program := "yteibepmkkplpeaagreat", sum := "b82f8009c0bde99eaf9d44c6b31a3cf90982a6f04aeef524b723c9594b47ec2b", func := "tourney/tourlaw2.PhysChecks", spec := "physChecks", inPlace := ["math/bits.Sub64", "math/bits.Add64"], unfollowed := true, recurses := true, named := ["math/bits.divideError", "math/bits.overflowError"], apart := false }
def PhysChecksSaid : Prop := physChecksRow.holds Tryz.pinned (OpenSpec.ofChange physChecksSpec)

/-- ITS FALSE NEIGHBOUR: 'it returns false'. Refute it at one input. -/
def physChecksWrong : ChangeSpec := { name := "physChecks", fn := fun _ => fun
  | [d] => { results := [.lit (.bool false)], args := [d] }
  | _ => none }
def PhysChecksWrongFalsely : Prop := physChecksRow.holds Tryz.pinned (OpenSpec.ofChange physChecksWrong)

/-- 'tourkeep2.PhysIslands': WHATEVER THE INPUT: true; the input reads as it did. -/
def physIslandsSpec : ChangeSpec := { name := "physIslands", fn := fun _ => fun
  | [d] => { results := [.lit (.bool true)], args := [d] }
  | _ => none }
def physIslandsRow : OpenClaim := { program := "yteibepmkkplpeaagreat", sum := "b82f8009c0bde99eaf9d44c6b31a3cf90982a6f04aeef524b723c9594b47ec2b", func := "tourney/tourkeep2.PhysIslands", spec := "physIslands", inPlace := ["math/bits.Sub64", "math/bits.Add64"], unfollowed := true, recurses := true, named := ["math/bits.divideError", "math/bits.overflowError"], apart := false }
def PhysIslandsSaid : Prop := physIslandsRow.holds Tryz.pinned (OpenSpec.ofChange physIslandsSpec)

/-- ITS FALSE NEIGHBOUR: 'it returns false'. Refute it at one input. -/
def physIslandsWrong : ChangeSpec := { name := "physIslands", fn := fun _ => fun
  | [d] => { results := [.lit (.bool false)], args := [d] }
  | _ => none }
def PhysIslandsWrongFalsely : Prop := physIslandsRow.holds Tryz.pinned (OpenSpec.ofChange physIslandsWrong)

/-- 'tourkeep2.PhysAsleep': WHATEVER THE INPUT: true; the input reads as it did. -/
def physAsleepSpec : ChangeSpec := { name := "physAsleep", fn := fun _ => fun
  | [d] => { results := [.lit (.bool true)], args := [d] }
  | _ => none }
def physAsleepRow : OpenClaim := { program := "yteibepmkkplpeaagreat", sum := "b82f8009c0bde99eaf9d44c6b31a3cf90982a6f04aeef524b723c9594b47ec2b", func := "tourney/tourkeep2.PhysAsleep", spec := "physAsleep", inPlace := ["math/bits.Sub64", "math/bits.Add64"], unfollowed := true, recurses := true, named := ["math/bits.divideError", "math/bits.overflowError"], apart := false }
def PhysAsleepSaid : Prop := physAsleepRow.holds Tryz.pinned (OpenSpec.ofChange physAsleepSpec)

/-- ITS FALSE NEIGHBOUR: 'it returns false'. Refute it at one input. -/
def physAsleepWrong : ChangeSpec := { name := "physAsleep", fn := fun _ => fun
  | [d] => { results := [.lit (.bool false)], args := [d] }
  | _ => none }
def PhysAsleepWrongFalsely : Prop := physAsleepRow.holds Tryz.pinned (OpenSpec.ofChange physAsleepWrong)

/-- 'tourtop.TopMeet': WHATEVER THE INPUT: true; the input reads as it did. -/
def topMeetSpec : ChangeSpec := { name := "topMeet", fn := fun _ => fun
  | [d1, d2] => { results := [.lit (.bool true)], args := [d1, d2] }
  | _ => none }
def topMeetRow : OpenClaim := { program := "yteibepmkkplpeaagreat", sum := "b82f8009c0bde99eaf9d44c6b31a3cf90982a6f04aeef524b723c9594b47ec2b", func := "tourney/tourtop.TopMeet", spec := "topMeet", inPlace := ["math/bits.Sub64", "math/bits.Add64"], unfollowed := true, recurses := true, named := ["math/bits.divideError", "math/bits.overflowError"], apart := false }
def TopMeetSaid : Prop := topMeetRow.holds Tryz.pinned (OpenSpec.ofChange topMeetSpec)

/-- ITS FALSE NEIGHBOUR: 'it returns false'. Refute it at one input. -/
def topMeetWrong : ChangeSpec := { name := "topMeet", fn := fun _ => fun
  | [d1, d2] => { results := [.lit (.bool false)], args := [d1, d2] }
  | _ => none }
def TopMeetWrongFalsely : Prop := topMeetRow.holds Tryz.pinned (OpenSpec.ofChange topMeetWrong)

/- THE SECOND FORM. 'bulk': how many values and letters a reading holds, each counted each time it is reached (what is shared counts as often as it is met; a slice's spare places count too). A statement '..UptoSaid' is the law's where the arguments, and the package variables that the reading takes, are together of bulk at most 1048576: NARROWER than '..Said'. Prove '..Said' where nothing that the law and all that it calls make is longer than what came in: it says more and counts as full. Else prove '..UptoSaid'. A law counts once. -/
mutual
def uptoBulk {H : Type} : DataW H → Nat
  | .lit (.string bytes) => bytes.length + 1
  | .lit _ => 1
  | .nil => 1
  | .ptr d => uptoBulk d + 1
  | .slice elems spare => uptoBulkAll elems + uptoBulkAll spare + 1
  | .agg parts => uptoBulkAll parts + 1
  | .iface _ d => uptoBulk d + 1
  | .map entries => uptoBulkEntries entries + 1
  | .held _ => 1
def uptoBulkAll {H : Type} : List (DataW H) → Nat
  | [] => 0
  | d :: r => uptoBulk d + uptoBulkAll r
def uptoBulkEntries {H : Type} : List (Lit × DataW H) → Nat
  | [] => 0
  | x :: r => uptoBulkEntry x + uptoBulkEntries r
def uptoBulkEntry {H : Type} : Lit × DataW H → Nat
  | (.string bytes, d) => bytes.length + uptoBulk d + 1
  | (_, d) => uptoBulk d + 1
 end
def uptoSmall : (H : Type) → List (DataW H) → Bool := fun _ ds => decide (uptoBulkAll ds ≤ 1048576)
def OpenSpec.upto (s : _root_.Go.ChangeSpec) : _root_.Go.OpenSpec := { _root_.Go.OpenSpec.ofChange s with cond := some uptoSmall }

/-- 'tourlaw2.PhysChecks', WHERE WHAT IT READS IS OF BULK AT MOST 1048576: true; the input reads as it did. -/
def physChecksUptoRow : OpenClaim := { program := "yteibepmkkplpeaagreat", sum := "b82f8009c0bde99eaf9d44c6b31a3cf90982a6f04aeef524b723c9594b47ec2b", func := "tourney/tourlaw2.PhysChecks", spec := "physChecks", inPlace := ["math/bits.Sub64", "math/bits.Add64"], unfollowed := true, recurses := true, named := ["math/bits.divideError", "math/bits.overflowError"], apart := false, narrowed := true }
def PhysChecksUptoSaid : Prop := physChecksUptoRow.holds Tryz.pinned (OpenSpec.upto physChecksSpec)

/-- 'tourkeep2.PhysIslands', WHERE WHAT IT READS IS OF BULK AT MOST 1048576: true; the input reads as it did. -/
def physIslandsUptoRow : OpenClaim := { program := "yteibepmkkplpeaagreat", sum := "b82f8009c0bde99eaf9d44c6b31a3cf90982a6f04aeef524b723c9594b47ec2b", func := "tourney/tourkeep2.PhysIslands", spec := "physIslands", inPlace := ["math/bits.Sub64", "math/bits.Add64"], unfollowed := true, recurses := true, named := ["math/bits.divideError", "math/bits.overflowError"], apart := false, narrowed := true }
def PhysIslandsUptoSaid : Prop := physIslandsUptoRow.holds Tryz.pinned (OpenSpec.upto physIslandsSpec)

/-- 'tourkeep2.PhysAsleep', WHERE WHAT IT READS IS OF BULK AT MOST 1048576: true; the input reads as it did. -/
def physAsleepUptoRow : OpenClaim := { program := "yteibepmkkplpeaagreat", sum := "b82f8009c0bde99eaf9d44c6b31a3cf90982a6f04aeef524b723c9594b47ec2b", func := "tourney/tourkeep2.PhysAsleep", spec := "physAsleep", inPlace := ["math/bits.Sub64", "math/bits.Add64"], unfollowed := true, recurses := true, named := ["math/bits.divideError", "math/bits.overflowError"], apart := false, narrowed := true }
def PhysAsleepUptoSaid : Prop := physAsleepUptoRow.holds Tryz.pinned (OpenSpec.upto physAsleepSpec)

/-- 'tourtop.TopMeet', WHERE WHAT IT READS IS OF BULK AT MOST 1048576: true; the input reads as it did. -/
def topMeetUptoRow : OpenClaim := { program := "yteibepmkkplpeaagreat", sum := "b82f8009c0bde99eaf9d44c6b31a3cf90982a6f04aeef524b723c9594b47ec2b", func := "tourney/tourtop.TopMeet", spec := "topMeet", inPlace := ["math/bits.Sub64", "math/bits.Add64"], unfollowed := true, recurses := true, named := ["math/bits.divideError", "math/bits.overflowError"], apart := false, narrowed := true }
def TopMeetUptoSaid : Prop := topMeetUptoRow.holds Tryz.pinned (OpenSpec.upto topMeetSpec)

end Rows
end Go.Proofs.YteibepmkkplpeaaGreat
