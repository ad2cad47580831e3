/-
  No cell of these rows narrows 'for every input' (looked for: loops, veiled, ifaces, maps, wideKeys, modest, calm, conditions, laid).
  DERIVED. THE GIVEN ROWS OF THIS SEAT. 6 by the template 'for every input the law returns true; each argument reads behind the call as it read before'; 0 by the template 'total and deterministic' (their statements: YteojpdijmnpmgaaTotals.lean).
  GIVEN WITH THE SEED: the statements are not yours to turn. If you find one false, say at which input.
  Laid BY PROGRAM, IN A SANDBOX (cutbox-rows.mjs): the forced cells as the released guide's own fill.sh prints them over the translation 453f2f98d61bfece… (all of the seat's roots in one cut). By AI agents, Wed Nov 11 2026. No macro, syntax, notation, axiom, sorry.
-/
import Derived.Test.YteojpdijmnpmgaaChecked
import GoSem.Claim
import GoSem.ClaimJoined
import GoSem.ClaimMapViews
import Derived.JoinedTies
import Derived.KernelRfl
namespace Go.Proofs.Yteojpdijmnpmgaa
/- THE CELL 'sum', in the pinned program and in every row, IS THE sha256 OF THE DUMP (.gsa) THAT YteojpdijmnpmgaaProg.lean LOADS. Nothing in Lean hashes anything: it is a label: what it is worth is what the hold of that sum in a sandbox is worth. -/
noncomputable def Try.pinned : Pinned := { name := "yteojpdijmnpmgaa", sum := "453f2f98d61bfece2d22fc5f5f8d5a2e44dbd10ff01e83c84e96fa3603a3bed4", checked := Try.checked }
namespace Rows
def none {H : Type} : Left H := { results := [], args := [] }

/-- 'frankpledgelaw13.CoordinatorStops': WHATEVER THE INPUT: true; the input reads as it did. -/
def coordinatorStopsSpec : ChangeSpec := { name := "coordinatorStops", fn := fun _ => fun
  | [d1, d2, d3] => { results := [.lit (.bool true)], args := [d1, d2, d3] }
  | _ => none }
def coordinatorStopsRow : OpenClaim := { program := "yteojpdijmnpmgaa", sum := "453f2f98d61bfece2d22fc5f5f8d5a2e44dbd10ff01e83c84e96fa3603a3bed4", func := "frankpledge/frankpledgelaw13.CoordinatorStops", spec := "coordinatorStops", inPlace := ["slices.overlaps[byte]"], unfollowed := true, recurses := true, apart := false }
def CoordinatorStopsSaid : Prop := coordinatorStopsRow.holds Try.pinned (OpenSpec.ofChange coordinatorStopsSpec)

/-- ITS FALSE NEIGHBOUR: 'it returns false'. Refute it at one input. -/
def coordinatorStopsWrong : ChangeSpec := { name := "coordinatorStops", fn := fun _ => fun
  | [d1, d2, d3] => { results := [.lit (.bool false)], args := [d1, d2, d3] }
  | _ => none }
def CoordinatorStopsWrongFalsely : Prop := coordinatorStopsRow.holds Try.pinned (OpenSpec.ofChange coordinatorStopsWrong)

/-- 'frankpledgelaw13.CoordinatorDecides': WHATEVER THE INPUT: true; the input reads as it did. -/
def coordinatorDecidesSpec : ChangeSpec := { name := "coordinatorDecides", fn := fun _ => fun
  | [d1, d2] => { results := [.lit (.bool true)], args := [d1, d2] }
  | _ => none }
def coordinatorDecidesRow : OpenClaim := { program := "yteojpdijmnpmgaa", sum := "453f2f98d61bfece2d22fc5f5f8d5a2e44dbd10ff01e83c84e96fa3603a3bed4", func := "frankpledge/frankpledgelaw13.CoordinatorDecides", spec := "coordinatorDecides", inPlace := ["slices.overlaps[byte]"], unfollowed := true, recurses := true, apart := false }
def CoordinatorDecidesSaid : Prop := coordinatorDecidesRow.holds Try.pinned (OpenSpec.ofChange coordinatorDecidesSpec)

/-- ITS FALSE NEIGHBOUR: 'it returns false'. Refute it at one input. -/
def coordinatorDecidesWrong : ChangeSpec := { name := "coordinatorDecides", fn := fun _ => fun
  | [d1, d2] => { results := [.lit (.bool false)], args := [d1, d2] }
  | _ => none }
def CoordinatorDecidesWrongFalsely : Prop := coordinatorDecidesRow.holds Try.pinned (OpenSpec.ofChange coordinatorDecidesWrong)

/-- 'frankpledgelaw13.CoordinatorNumbers': WHATEVER THE INPUT: true; the input reads as it did. -/
def coordinatorNumbersSpec : ChangeSpec := { name := "coordinatorNumbers", fn := fun _ => fun
  | [d1, d2, d3] => { results := [.lit (.bool true)], args := [d1, d2, d3] }
  | _ => none }
def coordinatorNumbersRow : OpenClaim := { program := "yteojpdijmnpmgaa", sum := "453f2f98d61bfece2d22fc5f5f8d5a2e44dbd10ff01e83c84e96fa3603a3bed4", func := "frankpledge/frankpledgelaw13.CoordinatorNumbers", spec := "coordinatorNumbers", inPlace := ["slices.overlaps[byte]"], unfollowed := true, recurses := true, apart := false }
def CoordinatorNumbersSaid : Prop := coordinatorNumbersRow.holds Try.pinned (OpenSpec.ofChange coordinatorNumbersSpec)

/-- ITS FALSE NEIGHBOUR: 'it returns false'. Refute it at one input. -/
def coordinatorNumbersWrong : ChangeSpec := { name := "coordinatorNumbers", fn := fun _ => fun
  | [d1, d2, d3] => { results := [.lit (.bool false)], args := [d1, d2, d3] }
  | _ => none }
def CoordinatorNumbersWrongFalsely : Prop := coordinatorNumbersRow.holds Try.pinned (OpenSpec.ofChange coordinatorNumbersWrong)

/-- 'frankpledgelaw13.CoordinatorEnds': WHATEVER THE INPUT: true; the input reads as it did. -/
def coordinatorEndsSpec : ChangeSpec := { name := "coordinatorEnds", fn := fun _ => fun
  | [d1, d2, d3] => { results := [.lit (.bool true)], args := [d1, d2, d3] }
  | _ => none }
def coordinatorEndsRow : OpenClaim := { program := "yteojpdijmnpmgaa", sum := "453f2f98d61bfece2d22fc5f5f8d5a2e44dbd10ff01e83c84e96fa3603a3bed4", func := "frankpledge/frankpledgelaw13.CoordinatorEnds", spec := "coordinatorEnds", inPlace := ["slices.overlaps[byte]"], unfollowed := true, recurses := true, apart := false }
def CoordinatorEndsSaid : Prop := coordinatorEndsRow.holds Try.pinned (OpenSpec.ofChange coordinatorEndsSpec)

/-- ITS FALSE NEIGHBOUR: 'it returns false'. Refute it at one input. -/
def coordinatorEndsWrong : ChangeSpec := { name := "coordinatorEnds", fn := fun _ => fun
  | [d1, d2, d3] => { results := [.lit (.bool false)], args := [d1, d2, d3] }
  | _ => none }
def CoordinatorEndsWrongFalsely : Prop := coordinatorEndsRow.holds Try.pinned (OpenSpec.ofChange coordinatorEndsWrong)

/-- 'frankpledgelaw13.CoordinatorNil': WHATEVER THE INPUT: true; the input reads as it did. -/
def coordinatorNilSpec : ChangeSpec := { name := "coordinatorNil", fn := fun _ => fun
  | [d1, d2] => { results := [.lit (.bool true)], args := [d1, d2] }
  | _ => none }
def coordinatorNilRow : OpenClaim := { program := "yteojpdijmnpmgaa", sum := "453f2f98d61bfece2d22fc5f5f8d5a2e44dbd10ff01e83c84e96fa3603a3bed4", func := "frankpledge/frankpledgelaw13.CoordinatorNil", spec := "coordinatorNil", inPlace := ["slices.overlaps[byte]"], unfollowed := true, recurses := true, apart := false }
def CoordinatorNilSaid : Prop := coordinatorNilRow.holds Try.pinned (OpenSpec.ofChange coordinatorNilSpec)

/-- ITS FALSE NEIGHBOUR: 'it returns false'. Refute it at one input. -/
def coordinatorNilWrong : ChangeSpec := { name := "coordinatorNil", fn := fun _ => fun
  | [d1, d2] => { results := [.lit (.bool false)], args := [d1, d2] }
  | _ => none }
def CoordinatorNilWrongFalsely : Prop := coordinatorNilRow.holds Try.pinned (OpenSpec.ofChange coordinatorNilWrong)

/-- 'frankpledgelaw13.CoordinatorTicks': WHATEVER THE INPUT: true; the input reads as it did. -/
def coordinatorTicksSpec : ChangeSpec := { name := "coordinatorTicks", fn := fun _ => fun
  | [d1, d2, d3] => { results := [.lit (.bool true)], args := [d1, d2, d3] }
  | _ => none }
def coordinatorTicksRow : OpenClaim := { program := "yteojpdijmnpmgaa", sum := "453f2f98d61bfece2d22fc5f5f8d5a2e44dbd10ff01e83c84e96fa3603a3bed4", func := "frankpledge/frankpledgelaw13.CoordinatorTicks", spec := "coordinatorTicks", inPlace := ["slices.overlaps[byte]"], unfollowed := true, recurses := true, apart := false }
def CoordinatorTicksSaid : Prop := coordinatorTicksRow.holds Try.pinned (OpenSpec.ofChange coordinatorTicksSpec)

/-- ITS FALSE NEIGHBOUR: 'it returns false'. Refute it at one input. -/
def coordinatorTicksWrong : ChangeSpec := { name := "coordinatorTicks", fn := fun _ => fun
  | [d1, d2, d3] => { results := [.lit (.bool false)], args := [d1, d2, d3] }
  | _ => none }
def CoordinatorTicksWrongFalsely : Prop := coordinatorTicksRow.holds Try.pinned (OpenSpec.ofChange coordinatorTicksWrong)

/- THE SECOND FORM. 'bulk': how many values and letters a reading holds, each counted each time it is reached (what is shared counts as often as it is met; a slice's spare places count too). A statement '..UptoSaid' is the law's where the arguments, and the package variables that the reading takes, are together of bulk at most 1048576: NARROWER than '..Said'. Prove '..Said' where nothing that the law and all that it calls make is longer than what came in: it says more and counts as full. Else prove '..UptoSaid'. A law counts once. -/
mutual
def uptoBulk {H : Type} : DataW H → Nat
  | .lit (.string bytes) => bytes.length + 1
  | .lit _ => 1
  | .nil => 1
  | .ptr d => uptoBulk d + 1
  | .slice elems spare => uptoBulkAll elems + uptoBulkAll spare + 1
  | .agg parts => uptoBulkAll parts + 1
  | .iface _ d => uptoBulk d + 1
  | .map entries => uptoBulkEntries entries + 1
  | .held _ => 1
def uptoBulkAll {H : Type} : List (DataW H) → Nat
  | [] => 0
  | d :: r => uptoBulk d + uptoBulkAll r
def uptoBulkEntries {H : Type} : List (Lit × DataW H) → Nat
  | [] => 0
  | x :: r => uptoBulkEntry x + uptoBulkEntries r
def uptoBulkEntry {H : Type} : Lit × DataW H → Nat
  | (.string bytes, d) => bytes.length + uptoBulk d + 1
  | (_, d) => uptoBulk d + 1
 end
def uptoSmall : (H : Type) → List (DataW H) → Bool := fun _ ds => decide (uptoBulkAll ds ≤ 1048576)
def OpenSpec.upto (s : _root_.Go.ChangeSpec) : _root_.Go.OpenSpec := { _root_.Go.OpenSpec.ofChange s with cond := some uptoSmall }

/-- 'frankpledgelaw13.CoordinatorStops', WHERE WHAT IT READS IS OF BULK AT MOST 1048576: true; the input reads as it did. -/
def coordinatorStopsUptoRow : OpenClaim := { program := "yteojpdijmnpmgaa", sum := "453f2f98d61bfece2d22fc5f5f8d5a2e44dbd10ff01e83c84e96fa3603a3bed4", func := "frankpledge/frankpledgelaw13.CoordinatorStops", spec := "coordinatorStops", inPlace := ["slices.overlaps[byte]"], unfollowed := true, recurses := true, apart := false, narrowed := true }
def CoordinatorStopsUptoSaid : Prop := coordinatorStopsUptoRow.holds Try.pinned (OpenSpec.upto coordinatorStopsSpec)

/-- 'frankpledgelaw13.CoordinatorDecides', WHERE WHAT IT READS IS OF BULK AT MOST 1048576: true; the input reads as it did. -/
def coordinatorDecidesUptoRow : OpenClaim := { program := "yteojpdijmnpmgaa", sum := "453f2f98d61bfece2d22fc5f5f8d5a2e44dbd10ff01e83c84e96fa3603a3bed4", func := "frankpledge/frankpledgelaw13.CoordinatorDecides", spec := "coordinatorDecides", inPlace := ["slices.overlaps[byte]"], unfollowed := true, recurses := true, apart := false, narrowed := true }
def CoordinatorDecidesUptoSaid : Prop := coordinatorDecidesUptoRow.holds Try.pinned (OpenSpec.upto coordinatorDecidesSpec)

/-- 'frankpledgelaw13.CoordinatorNumbers', WHERE WHAT IT READS IS OF BULK AT MOST 1048576: true; the input reads as it did. -/
def coordinatorNumbersUptoRow : OpenClaim := { program := "yteojpdijmnpmgaa", sum := "453f2f98d61bfece2d22fc5f5f8d5a2e44dbd10ff01e83c84e96fa3603a3bed4", func := "frankpledge/frankpledgelaw13.CoordinatorNumbers", spec := "coordinatorNumbers", inPlace := ["slices.overlaps[byte]"], unfollowed := true, recurses := true, apart := false, narrowed := true }
def CoordinatorNumbersUptoSaid : Prop := coordinatorNumbersUptoRow.holds Try.pinned (OpenSpec.upto coordinatorNumbersSpec)

/-- 'frankpledgelaw13.CoordinatorEnds', WHERE WHAT IT READS IS OF BULK AT MOST 1048576: true; the input reads as it did. -/
def coordinatorEndsUptoRow : OpenClaim := { program := "yteojpdijmnpmgaa", sum := "453f2f98d61bfece2d22fc5f5f8d5a2e44dbd10ff01e83c84e96fa3603a3bed4", func := "frankpledge/frankpledgelaw13.CoordinatorEnds", spec := "coordinatorEnds", inPlace := ["slices.overlaps[byte]"], unfollowed := true, recurses := true, apart := false, narrowed := true }
def CoordinatorEndsUptoSaid : Prop := coordinatorEndsUptoRow.holds Try.pinned (OpenSpec.upto coordinatorEndsSpec)

/-- 'frankpledgelaw13.CoordinatorNil', WHERE WHAT IT READS IS OF BULK AT MOST 1048576: true; the input reads as it did. -/
def coordinatorNilUptoRow : OpenClaim := { program := "yteojpdijmnpmgaa", sum := "453f2f98d61bfece2d22fc5f5f8d5a2e44dbd10ff01e83c84e96fa3603a3bed4", func := "frankpledge/frankpledgelaw13.CoordinatorNil", spec := "coordinatorNil", inPlace := ["slices.overlaps[byte]"], unfollowed := true, recurses := true, apart := false, narrowed := true }
def CoordinatorNilUptoSaid : Prop := coordinatorNilUptoRow.holds Try.pinned (OpenSpec.upto coordinatorNilSpec)

/-- 'frankpledgelaw13.CoordinatorTicks', WHERE WHAT IT READS IS OF BULK AT MOST 1048576: true; the input reads as it did. -/
def coordinatorTicksUptoRow : OpenClaim := { program := "yteojpdijmnpmgaa", sum := "453f2f98d61bfece2d22fc5f5f8d5a2e44dbd10ff01e83c84e96fa3603a3bed4", func := "frankpledge/frankpledgelaw13.CoordinatorTicks", spec := "coordinatorTicks", inPlace := ["slices.overlaps[byte]"], unfollowed := true, recurses := true, apart := false, narrowed := true }
def CoordinatorTicksUptoSaid : Prop := coordinatorTicksUptoRow.holds Try.pinned (OpenSpec.upto coordinatorTicksSpec)

end Rows
end Go.Proofs.Yteojpdijmnpmgaa
