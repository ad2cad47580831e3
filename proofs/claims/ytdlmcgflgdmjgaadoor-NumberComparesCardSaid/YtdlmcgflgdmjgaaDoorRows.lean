/-
  NARROWER THAN 'FOR EVERY INPUT', by the rows' own cells (each row's printed sentence says how): FaultKeeps: laid · FaultHas: laid · FaultNothing: laid · FaultDeep: laid · FaultPlays: laid · NumberSmall: laid · NumberLaws: laid · NumberBack: laid · NumberLine: laid · NumberNull: laid · NumberCompares: laid.
  DERIVED. THE GIVEN ROWS OF THIS SEAT. 11 by the template 'for every input the law returns true; each argument reads behind the call as it read before'; 0 by the template 'total and deterministic' (their statements: YtdlmcgflgdmjgaaDoorTotals.lean).
  GIVEN WITH THE SEED: the statements are not yours to turn. If you find one false, say at which input.
  Laid BY PROGRAM, IN A SANDBOX (cutbox-rows.mjs): the forced cells as the released guide's own fill.sh prints them over the translation 5273c5103a8a9432… (all of the seat's roots in one cut). By AI agents, Wed Nov 11 2026. No macro, syntax, notation, axiom, sorry.
-/
import Derived.Test.YtdlmcgflgdmjgaaDoorChecked
import GoSem.Claim
import GoSem.ClaimJoined
import GoSem.ClaimMapViews
import Derived.JoinedTies
import Derived.KernelRfl
namespace Go.Proofs.YtdlmcgflgdmjgaaDoor
/- THE CELL 'sum', in the pinned program and in every row, IS THE sha256 OF THE DUMP (.gsa) THAT YtdlmcgflgdmjgaaDoorProg.lean LOADS. Nothing in Lean hashes anything: it is a label: what it is worth is what the hold of that sum in a sandbox is worth. -/
noncomputable def Tryd.pinned : Pinned := { name := "ytdlmcgflgdmjgaadoor", sum := "5273c5103a8a94322e756256072db0efb874e4cce476581b293339b8eb7e76ff", checked := Tryd.checked }
namespace Rows
def none {H : Type} : Left H := { results := [], args := [] }

/- WHAT THE LISTED PACKAGE-LEVEL VARIABLES READ AS WHEN THE CALL BEGINS. Each datum BY PROGRAM (the guide's laid-datum.mjs) off the statement by which the dump's own 'gosem.cut.vars' lays the variable. In a bare row this is a premise. The card (YtdlmcgflgdmjgaaDoorCards.lean) ties it to the program's text. -/
def laid_errors_errorType {H : Type} : DataW H := .iface "internal/reflectlite.rtype" (.agg [.ptr (.lit (.string [101, 114, 114, 111, 114]))])

/-- 'frankpledgelaw01.FaultKeeps': WHATEVER THE INPUT: true; the input reads as it did. -/
def faultKeepsSpec : ChangeSpec := { name := "faultKeeps", fn := fun _ => fun
  | [d1, d2, d3] => { results := [.lit (.bool true)], args := [d1, d2, d3] }
  | _ => none }
def faultKeepsRow : OpenClaim := { program := "ytdlmcgflgdmjgaadoor", sum := "5273c5103a8a94322e756256072db0efb874e4cce476581b293339b8eb7e76ff", func := "frankpledge/frankpledgelaw01.FaultKeeps", spec := "faultKeeps", inPlace := ["internal/reflectlite.ValueOf", "(internal/reflectlite.Value).Type", "(internal/reflectlite.Value).IsNil", "internal/reflectlite.TypeOf", "(internal/reflectlite.Value).Elem", "(internal/reflectlite.Value).Set"], unfollowed := true, recurses := true, named := ["errors.errorType"], apart := false, laid := [("errors.errorType", laid_errors_errorType)] }
def FaultKeepsSaid : Prop := faultKeepsRow.holds Tryd.pinned (OpenSpec.ofChange faultKeepsSpec)

/-- ITS FALSE NEIGHBOUR: 'it returns false'. Refute it at one input. -/
def faultKeepsWrong : ChangeSpec := { name := "faultKeeps", fn := fun _ => fun
  | [d1, d2, d3] => { results := [.lit (.bool false)], args := [d1, d2, d3] }
  | _ => none }
def FaultKeepsWrongFalsely : Prop := faultKeepsRow.holds Tryd.pinned (OpenSpec.ofChange faultKeepsWrong)

/-- 'frankpledgelaw01.FaultHas': WHATEVER THE INPUT: true; the input reads as it did. -/
def faultHasSpec : ChangeSpec := { name := "faultHas", fn := fun _ => fun
  | [d1, d2] => { results := [.lit (.bool true)], args := [d1, d2] }
  | _ => none }
def faultHasRow : OpenClaim := { program := "ytdlmcgflgdmjgaadoor", sum := "5273c5103a8a94322e756256072db0efb874e4cce476581b293339b8eb7e76ff", func := "frankpledge/frankpledgelaw01.FaultHas", spec := "faultHas", inPlace := ["internal/reflectlite.ValueOf", "(internal/reflectlite.Value).Type", "(internal/reflectlite.Value).IsNil", "internal/reflectlite.TypeOf", "(internal/reflectlite.Value).Elem", "(internal/reflectlite.Value).Set"], unfollowed := true, recurses := true, named := ["errors.errorType"], apart := false, laid := [("errors.errorType", laid_errors_errorType)] }
def FaultHasSaid : Prop := faultHasRow.holds Tryd.pinned (OpenSpec.ofChange faultHasSpec)

/-- ITS FALSE NEIGHBOUR: 'it returns false'. Refute it at one input. -/
def faultHasWrong : ChangeSpec := { name := "faultHas", fn := fun _ => fun
  | [d1, d2] => { results := [.lit (.bool false)], args := [d1, d2] }
  | _ => none }
def FaultHasWrongFalsely : Prop := faultHasRow.holds Tryd.pinned (OpenSpec.ofChange faultHasWrong)

/-- 'frankpledgelaw01.FaultNothing': WHATEVER THE INPUT: true; the input reads as it did. -/
def faultNothingSpec : ChangeSpec := { name := "faultNothing", fn := fun _ => fun
  | [d1, d2, d3] => { results := [.lit (.bool true)], args := [d1, d2, d3] }
  | _ => none }
def faultNothingRow : OpenClaim := { program := "ytdlmcgflgdmjgaadoor", sum := "5273c5103a8a94322e756256072db0efb874e4cce476581b293339b8eb7e76ff", func := "frankpledge/frankpledgelaw01.FaultNothing", spec := "faultNothing", inPlace := ["internal/reflectlite.ValueOf", "(internal/reflectlite.Value).Type", "(internal/reflectlite.Value).IsNil", "internal/reflectlite.TypeOf", "(internal/reflectlite.Value).Elem", "(internal/reflectlite.Value).Set"], unfollowed := true, recurses := true, named := ["errors.errorType"], apart := false, laid := [("errors.errorType", laid_errors_errorType)] }
def FaultNothingSaid : Prop := faultNothingRow.holds Tryd.pinned (OpenSpec.ofChange faultNothingSpec)

/-- ITS FALSE NEIGHBOUR: 'it returns false'. Refute it at one input. -/
def faultNothingWrong : ChangeSpec := { name := "faultNothing", fn := fun _ => fun
  | [d1, d2, d3] => { results := [.lit (.bool false)], args := [d1, d2, d3] }
  | _ => none }
def FaultNothingWrongFalsely : Prop := faultNothingRow.holds Tryd.pinned (OpenSpec.ofChange faultNothingWrong)

/-- 'frankpledgelaw01.FaultDeep': WHATEVER THE INPUT: true; the input reads as it did. -/
def faultDeepSpec : ChangeSpec := { name := "faultDeep", fn := fun _ => fun
  | [d1, d2] => { results := [.lit (.bool true)], args := [d1, d2] }
  | _ => none }
def faultDeepRow : OpenClaim := { program := "ytdlmcgflgdmjgaadoor", sum := "5273c5103a8a94322e756256072db0efb874e4cce476581b293339b8eb7e76ff", func := "frankpledge/frankpledgelaw01.FaultDeep", spec := "faultDeep", inPlace := ["internal/reflectlite.ValueOf", "(internal/reflectlite.Value).Type", "(internal/reflectlite.Value).IsNil", "internal/reflectlite.TypeOf", "(internal/reflectlite.Value).Elem", "(internal/reflectlite.Value).Set"], unfollowed := true, recurses := true, named := ["errors.errorType"], apart := false, laid := [("errors.errorType", laid_errors_errorType)] }
def FaultDeepSaid : Prop := faultDeepRow.holds Tryd.pinned (OpenSpec.ofChange faultDeepSpec)

/-- ITS FALSE NEIGHBOUR: 'it returns false'. Refute it at one input. -/
def faultDeepWrong : ChangeSpec := { name := "faultDeep", fn := fun _ => fun
  | [d1, d2] => { results := [.lit (.bool false)], args := [d1, d2] }
  | _ => none }
def FaultDeepWrongFalsely : Prop := faultDeepRow.holds Tryd.pinned (OpenSpec.ofChange faultDeepWrong)

/-- 'frankpledgelaw01.FaultPlays': WHATEVER THE INPUT: true; the input reads as it did. -/
def faultPlaysSpec : ChangeSpec := { name := "faultPlays", fn := fun _ => fun
  | [d1, d2] => { results := [.lit (.bool true)], args := [d1, d2] }
  | _ => none }
def faultPlaysRow : OpenClaim := { program := "ytdlmcgflgdmjgaadoor", sum := "5273c5103a8a94322e756256072db0efb874e4cce476581b293339b8eb7e76ff", func := "frankpledge/frankpledgelaw01.FaultPlays", spec := "faultPlays", inPlace := ["internal/reflectlite.ValueOf", "(internal/reflectlite.Value).Type", "(internal/reflectlite.Value).IsNil", "internal/reflectlite.TypeOf", "(internal/reflectlite.Value).Elem", "(internal/reflectlite.Value).Set"], unfollowed := true, recurses := true, named := ["errors.errorType"], apart := false, laid := [("errors.errorType", laid_errors_errorType)] }
def FaultPlaysSaid : Prop := faultPlaysRow.holds Tryd.pinned (OpenSpec.ofChange faultPlaysSpec)

/-- ITS FALSE NEIGHBOUR: 'it returns false'. Refute it at one input. -/
def faultPlaysWrong : ChangeSpec := { name := "faultPlays", fn := fun _ => fun
  | [d1, d2] => { results := [.lit (.bool false)], args := [d1, d2] }
  | _ => none }
def FaultPlaysWrongFalsely : Prop := faultPlaysRow.holds Tryd.pinned (OpenSpec.ofChange faultPlaysWrong)

/-- 'frankpledgelaw03.NumberSmall': WHATEVER THE INPUT: true; the input reads as it did. -/
def numberSmallSpec : ChangeSpec := { name := "numberSmall", fn := fun _ => fun
  | [d1, d2] => { results := [.lit (.bool true)], args := [d1, d2] }
  | _ => none }
def numberSmallRow : OpenClaim := { program := "ytdlmcgflgdmjgaadoor", sum := "5273c5103a8a94322e756256072db0efb874e4cce476581b293339b8eb7e76ff", func := "frankpledge/frankpledgelaw03.NumberSmall", spec := "numberSmall", inPlace := ["internal/reflectlite.ValueOf", "(internal/reflectlite.Value).Type", "(internal/reflectlite.Value).IsNil", "internal/reflectlite.TypeOf", "(internal/reflectlite.Value).Elem", "(internal/reflectlite.Value).Set"], unfollowed := true, recurses := true, named := ["math/bits.divideError", "math/bits.overflowError", "errors.errorType"], apart := false, laid := [("errors.errorType", laid_errors_errorType)] }
def NumberSmallSaid : Prop := numberSmallRow.holds Tryd.pinned (OpenSpec.ofChange numberSmallSpec)

/-- ITS FALSE NEIGHBOUR: 'it returns false'. Refute it at one input. -/
def numberSmallWrong : ChangeSpec := { name := "numberSmall", fn := fun _ => fun
  | [d1, d2] => { results := [.lit (.bool false)], args := [d1, d2] }
  | _ => none }
def NumberSmallWrongFalsely : Prop := numberSmallRow.holds Tryd.pinned (OpenSpec.ofChange numberSmallWrong)

/-- 'frankpledgelaw03.NumberLaws': WHATEVER THE INPUT: true; the input reads as it did. -/
def numberLawsSpec : ChangeSpec := { name := "numberLaws", fn := fun _ => fun
  | [d1, d2] => { results := [.lit (.bool true)], args := [d1, d2] }
  | _ => none }
def numberLawsRow : OpenClaim := { program := "ytdlmcgflgdmjgaadoor", sum := "5273c5103a8a94322e756256072db0efb874e4cce476581b293339b8eb7e76ff", func := "frankpledge/frankpledgelaw03.NumberLaws", spec := "numberLaws", inPlace := ["internal/reflectlite.ValueOf", "(internal/reflectlite.Value).Type", "(internal/reflectlite.Value).IsNil", "internal/reflectlite.TypeOf", "(internal/reflectlite.Value).Elem", "(internal/reflectlite.Value).Set"], unfollowed := true, recurses := true, named := ["math/bits.divideError", "math/bits.overflowError", "errors.errorType"], apart := false, laid := [("errors.errorType", laid_errors_errorType)] }
def NumberLawsSaid : Prop := numberLawsRow.holds Tryd.pinned (OpenSpec.ofChange numberLawsSpec)

/-- ITS FALSE NEIGHBOUR: 'it returns false'. Refute it at one input. -/
def numberLawsWrong : ChangeSpec := { name := "numberLaws", fn := fun _ => fun
  | [d1, d2] => { results := [.lit (.bool false)], args := [d1, d2] }
  | _ => none }
def NumberLawsWrongFalsely : Prop := numberLawsRow.holds Tryd.pinned (OpenSpec.ofChange numberLawsWrong)

/-- 'frankpledgelaw03.NumberBack': WHATEVER THE INPUT: true; the input reads as it did. -/
def numberBackSpec : ChangeSpec := { name := "numberBack", fn := fun _ => fun
  | [d1, d2, d3] => { results := [.lit (.bool true)], args := [d1, d2, d3] }
  | _ => none }
def numberBackRow : OpenClaim := { program := "ytdlmcgflgdmjgaadoor", sum := "5273c5103a8a94322e756256072db0efb874e4cce476581b293339b8eb7e76ff", func := "frankpledge/frankpledgelaw03.NumberBack", spec := "numberBack", inPlace := ["internal/reflectlite.ValueOf", "(internal/reflectlite.Value).Type", "(internal/reflectlite.Value).IsNil", "internal/reflectlite.TypeOf", "(internal/reflectlite.Value).Elem", "(internal/reflectlite.Value).Set"], unfollowed := true, recurses := true, named := ["math/bits.divideError", "math/bits.overflowError", "errors.errorType"], apart := false, laid := [("errors.errorType", laid_errors_errorType)] }
def NumberBackSaid : Prop := numberBackRow.holds Tryd.pinned (OpenSpec.ofChange numberBackSpec)

/-- ITS FALSE NEIGHBOUR: 'it returns false'. Refute it at one input. -/
def numberBackWrong : ChangeSpec := { name := "numberBack", fn := fun _ => fun
  | [d1, d2, d3] => { results := [.lit (.bool false)], args := [d1, d2, d3] }
  | _ => none }
def NumberBackWrongFalsely : Prop := numberBackRow.holds Tryd.pinned (OpenSpec.ofChange numberBackWrong)

/-- 'frankpledgelaw03.NumberLine': WHATEVER THE INPUT: true; the input reads as it did. -/
def numberLineSpec : ChangeSpec := { name := "numberLine", fn := fun _ => fun
  | [d1, d2] => { results := [.lit (.bool true)], args := [d1, d2] }
  | _ => none }
def numberLineRow : OpenClaim := { program := "ytdlmcgflgdmjgaadoor", sum := "5273c5103a8a94322e756256072db0efb874e4cce476581b293339b8eb7e76ff", func := "frankpledge/frankpledgelaw03.NumberLine", spec := "numberLine", inPlace := ["internal/reflectlite.ValueOf", "(internal/reflectlite.Value).Type", "(internal/reflectlite.Value).IsNil", "internal/reflectlite.TypeOf", "(internal/reflectlite.Value).Elem", "(internal/reflectlite.Value).Set"], unfollowed := true, recurses := true, named := ["math/bits.divideError", "math/bits.overflowError", "errors.errorType"], apart := false, laid := [("errors.errorType", laid_errors_errorType)] }
def NumberLineSaid : Prop := numberLineRow.holds Tryd.pinned (OpenSpec.ofChange numberLineSpec)

/-- ITS FALSE NEIGHBOUR: 'it returns false'. Refute it at one input. -/
def numberLineWrong : ChangeSpec := { name := "numberLine", fn := fun _ => fun
  | [d1, d2] => { results := [.lit (.bool false)], args := [d1, d2] }
  | _ => none }
def NumberLineWrongFalsely : Prop := numberLineRow.holds Tryd.pinned (OpenSpec.ofChange numberLineWrong)

/-- 'frankpledgelaw03.NumberNull': WHATEVER THE INPUT: true; the input reads as it did. -/
def numberNullSpec : ChangeSpec := { name := "numberNull", fn := fun _ => fun
  | [d1, d2, d3] => { results := [.lit (.bool true)], args := [d1, d2, d3] }
  | _ => none }
def numberNullRow : OpenClaim := { program := "ytdlmcgflgdmjgaadoor", sum := "5273c5103a8a94322e756256072db0efb874e4cce476581b293339b8eb7e76ff", func := "frankpledge/frankpledgelaw03.NumberNull", spec := "numberNull", inPlace := ["internal/reflectlite.ValueOf", "(internal/reflectlite.Value).Type", "(internal/reflectlite.Value).IsNil", "internal/reflectlite.TypeOf", "(internal/reflectlite.Value).Elem", "(internal/reflectlite.Value).Set"], unfollowed := true, recurses := true, named := ["math/bits.divideError", "math/bits.overflowError", "errors.errorType"], apart := false, laid := [("errors.errorType", laid_errors_errorType)] }
def NumberNullSaid : Prop := numberNullRow.holds Tryd.pinned (OpenSpec.ofChange numberNullSpec)

/-- ITS FALSE NEIGHBOUR: 'it returns false'. Refute it at one input. -/
def numberNullWrong : ChangeSpec := { name := "numberNull", fn := fun _ => fun
  | [d1, d2, d3] => { results := [.lit (.bool false)], args := [d1, d2, d3] }
  | _ => none }
def NumberNullWrongFalsely : Prop := numberNullRow.holds Tryd.pinned (OpenSpec.ofChange numberNullWrong)

/-- 'frankpledgelaw03.NumberCompares': WHATEVER THE INPUT: true; the input reads as it did. -/
def numberComparesSpec : ChangeSpec := { name := "numberCompares", fn := fun _ => fun
  | [d1, d2, d3] => { results := [.lit (.bool true)], args := [d1, d2, d3] }
  | _ => none }
def numberComparesRow : OpenClaim := { program := "ytdlmcgflgdmjgaadoor", sum := "5273c5103a8a94322e756256072db0efb874e4cce476581b293339b8eb7e76ff", func := "frankpledge/frankpledgelaw03.NumberCompares", spec := "numberCompares", inPlace := ["internal/reflectlite.ValueOf", "(internal/reflectlite.Value).Type", "(internal/reflectlite.Value).IsNil", "internal/reflectlite.TypeOf", "(internal/reflectlite.Value).Elem", "(internal/reflectlite.Value).Set"], unfollowed := true, recurses := true, named := ["math/bits.divideError", "math/bits.overflowError", "errors.errorType"], apart := false, laid := [("errors.errorType", laid_errors_errorType)] }
def NumberComparesSaid : Prop := numberComparesRow.holds Tryd.pinned (OpenSpec.ofChange numberComparesSpec)

/-- ITS FALSE NEIGHBOUR: 'it returns false'. Refute it at one input. -/
def numberComparesWrong : ChangeSpec := { name := "numberCompares", fn := fun _ => fun
  | [d1, d2, d3] => { results := [.lit (.bool false)], args := [d1, d2, d3] }
  | _ => none }
def NumberComparesWrongFalsely : Prop := numberComparesRow.holds Tryd.pinned (OpenSpec.ofChange numberComparesWrong)

/- THE SECOND FORM. 'bulk': how many values and letters a reading holds, each counted each time it is reached (what is shared counts as often as it is met; a slice's spare places count too). A statement '..UptoSaid' is the law's where the arguments, and the package variables that the reading takes, are together of bulk at most 1048576: NARROWER than '..Said'. Prove '..Said' where nothing that the law and all that it calls make is longer than what came in: it says more and counts as full. Else prove '..UptoSaid'. A law counts once. -/
mutual
def uptoBulk {H : Type} : DataW H → Nat
  | .lit (.string bytes) => bytes.length + 1
  | .lit _ => 1
  | .nil => 1
  | .ptr d => uptoBulk d + 1
  | .slice elems spare => uptoBulkAll elems + uptoBulkAll spare + 1
  | .agg parts => uptoBulkAll parts + 1
  | .iface _ d => uptoBulk d + 1
  | .map entries => uptoBulkEntries entries + 1
  | .held _ => 1
def uptoBulkAll {H : Type} : List (DataW H) → Nat
  | [] => 0
  | d :: r => uptoBulk d + uptoBulkAll r
def uptoBulkEntries {H : Type} : List (Lit × DataW H) → Nat
  | [] => 0
  | x :: r => uptoBulkEntry x + uptoBulkEntries r
def uptoBulkEntry {H : Type} : Lit × DataW H → Nat
  | (.string bytes, d) => bytes.length + uptoBulk d + 1
  | (_, d) => uptoBulk d + 1
 end
def uptoSmall : (H : Type) → List (DataW H) → Bool := fun _ ds => decide (uptoBulkAll ds ≤ 1048576)
def OpenSpec.upto (s : _root_.Go.ChangeSpec) : _root_.Go.OpenSpec := { _root_.Go.OpenSpec.ofChange s with cond := some uptoSmall }

/-- 'frankpledgelaw01.FaultKeeps', WHERE WHAT IT READS IS OF BULK AT MOST 1048576: true; the input reads as it did. -/
def faultKeepsUptoRow : OpenClaim := { program := "ytdlmcgflgdmjgaadoor", sum := "5273c5103a8a94322e756256072db0efb874e4cce476581b293339b8eb7e76ff", func := "frankpledge/frankpledgelaw01.FaultKeeps", spec := "faultKeeps", inPlace := ["internal/reflectlite.ValueOf", "(internal/reflectlite.Value).Type", "(internal/reflectlite.Value).IsNil", "internal/reflectlite.TypeOf", "(internal/reflectlite.Value).Elem", "(internal/reflectlite.Value).Set"], unfollowed := true, recurses := true, named := ["errors.errorType"], apart := false, laid := [("errors.errorType", laid_errors_errorType)], narrowed := true }
def FaultKeepsUptoSaid : Prop := faultKeepsUptoRow.holds Tryd.pinned (OpenSpec.upto faultKeepsSpec)

/-- 'frankpledgelaw01.FaultHas', WHERE WHAT IT READS IS OF BULK AT MOST 1048576: true; the input reads as it did. -/
def faultHasUptoRow : OpenClaim := { program := "ytdlmcgflgdmjgaadoor", sum := "5273c5103a8a94322e756256072db0efb874e4cce476581b293339b8eb7e76ff", func := "frankpledge/frankpledgelaw01.FaultHas", spec := "faultHas", inPlace := ["internal/reflectlite.ValueOf", "(internal/reflectlite.Value).Type", "(internal/reflectlite.Value).IsNil", "internal/reflectlite.TypeOf", "(internal/reflectlite.Value).Elem", "(internal/reflectlite.Value).Set"], unfollowed := true, recurses := true, named := ["errors.errorType"], apart := false, laid := [("errors.errorType", laid_errors_errorType)], narrowed := true }
def FaultHasUptoSaid : Prop := faultHasUptoRow.holds Tryd.pinned (OpenSpec.upto faultHasSpec)

/-- 'frankpledgelaw01.FaultNothing', WHERE WHAT IT READS IS OF BULK AT MOST 1048576: true; the input reads as it did. -/
def faultNothingUptoRow : OpenClaim := { program := "ytdlmcgflgdmjgaadoor", sum := "5273c5103a8a94322e756256072db0efb874e4cce476581b293339b8eb7e76ff", func := "frankpledge/frankpledgelaw01.FaultNothing", spec := "faultNothing", inPlace := ["internal/reflectlite.ValueOf", "(internal/reflectlite.Value).Type", "(internal/reflectlite.Value).IsNil", "internal/reflectlite.TypeOf", "(internal/reflectlite.Value).Elem", "(internal/reflectlite.Value).Set"], unfollowed := true, recurses := true, named := ["errors.errorType"], apart := false, laid := [("errors.errorType", laid_errors_errorType)], narrowed := true }
def FaultNothingUptoSaid : Prop := faultNothingUptoRow.holds Tryd.pinned (OpenSpec.upto faultNothingSpec)

/-- 'frankpledgelaw01.FaultDeep', WHERE WHAT IT READS IS OF BULK AT MOST 1048576: true; the input reads as it did. -/
def faultDeepUptoRow : OpenClaim := { program := "ytdlmcgflgdmjgaadoor", sum := "5273c5103a8a94322e756256072db0efb874e4cce476581b293339b8eb7e76ff", func := "frankpledge/frankpledgelaw01.FaultDeep", spec := "faultDeep", inPlace := ["internal/reflectlite.ValueOf", "(internal/reflectlite.Value).Type", "(internal/reflectlite.Value).IsNil", "internal/reflectlite.TypeOf", "(internal/reflectlite.Value).Elem", "(internal/reflectlite.Value).Set"], unfollowed := true, recurses := true, named := ["errors.errorType"], apart := false, laid := [("errors.errorType", laid_errors_errorType)], narrowed := true }
def FaultDeepUptoSaid : Prop := faultDeepUptoRow.holds Tryd.pinned (OpenSpec.upto faultDeepSpec)

/-- 'frankpledgelaw01.FaultPlays', WHERE WHAT IT READS IS OF BULK AT MOST 1048576: true; the input reads as it did. -/
def faultPlaysUptoRow : OpenClaim := { program := "ytdlmcgflgdmjgaadoor", sum := "5273c5103a8a94322e756256072db0efb874e4cce476581b293339b8eb7e76ff", func := "frankpledge/frankpledgelaw01.FaultPlays", spec := "faultPlays", inPlace := ["internal/reflectlite.ValueOf", "(internal/reflectlite.Value).Type", "(internal/reflectlite.Value).IsNil", "internal/reflectlite.TypeOf", "(internal/reflectlite.Value).Elem", "(internal/reflectlite.Value).Set"], unfollowed := true, recurses := true, named := ["errors.errorType"], apart := false, laid := [("errors.errorType", laid_errors_errorType)], narrowed := true }
def FaultPlaysUptoSaid : Prop := faultPlaysUptoRow.holds Tryd.pinned (OpenSpec.upto faultPlaysSpec)

/-- 'frankpledgelaw03.NumberSmall', WHERE WHAT IT READS IS OF BULK AT MOST 1048576: true; the input reads as it did. -/
def numberSmallUptoRow : OpenClaim := { program := "ytdlmcgflgdmjgaadoor", sum := "5273c5103a8a94322e756256072db0efb874e4cce476581b293339b8eb7e76ff", func := "frankpledge/frankpledgelaw03.NumberSmall", spec := "numberSmall", inPlace := ["internal/reflectlite.ValueOf", "(internal/reflectlite.Value).Type", "(internal/reflectlite.Value).IsNil", "internal/reflectlite.TypeOf", "(internal/reflectlite.Value).Elem", "(internal/reflectlite.Value).Set"], unfollowed := true, recurses := true, named := ["math/bits.divideError", "math/bits.overflowError", "errors.errorType"], apart := false, laid := [("errors.errorType", laid_errors_errorType)], narrowed := true }
def NumberSmallUptoSaid : Prop := numberSmallUptoRow.holds Tryd.pinned (OpenSpec.upto numberSmallSpec)

/-- 'frankpledgelaw03.NumberLaws', WHERE WHAT IT READS IS OF BULK AT MOST 1048576: true; the input reads as it did. -/
def numberLawsUptoRow : OpenClaim := { program := "ytdlmcgflgdmjgaadoor", sum := "5273c5103a8a94322e756256072db0efb874e4cce476581b293339b8eb7e76ff", func := "frankpledge/frankpledgelaw03.NumberLaws", spec := "numberLaws", inPlace := ["internal/reflectlite.ValueOf", "(internal/reflectlite.Value).Type", "(internal/reflectlite.Value).IsNil", "internal/reflectlite.TypeOf", "(internal/reflectlite.Value).Elem", "(internal/reflectlite.Value).Set"], unfollowed := true, recurses := true, named := ["math/bits.divideError", "math/bits.overflowError", "errors.errorType"], apart := false, laid := [("errors.errorType", laid_errors_errorType)], narrowed := true }
def NumberLawsUptoSaid : Prop := numberLawsUptoRow.holds Tryd.pinned (OpenSpec.upto numberLawsSpec)

/-- 'frankpledgelaw03.NumberBack', WHERE WHAT IT READS IS OF BULK AT MOST 1048576: true; the input reads as it did. -/
def numberBackUptoRow : OpenClaim := { program := "ytdlmcgflgdmjgaadoor", sum := "5273c5103a8a94322e756256072db0efb874e4cce476581b293339b8eb7e76ff", func := "frankpledge/frankpledgelaw03.NumberBack", spec := "numberBack", inPlace := ["internal/reflectlite.ValueOf", "(internal/reflectlite.Value).Type", "(internal/reflectlite.Value).IsNil", "internal/reflectlite.TypeOf", "(internal/reflectlite.Value).Elem", "(internal/reflectlite.Value).Set"], unfollowed := true, recurses := true, named := ["math/bits.divideError", "math/bits.overflowError", "errors.errorType"], apart := false, laid := [("errors.errorType", laid_errors_errorType)], narrowed := true }
def NumberBackUptoSaid : Prop := numberBackUptoRow.holds Tryd.pinned (OpenSpec.upto numberBackSpec)

/-- 'frankpledgelaw03.NumberLine', WHERE WHAT IT READS IS OF BULK AT MOST 1048576: true; the input reads as it did. -/
def numberLineUptoRow : OpenClaim := { program := "ytdlmcgflgdmjgaadoor", sum := "5273c5103a8a94322e756256072db0efb874e4cce476581b293339b8eb7e76ff", func := "frankpledge/frankpledgelaw03.NumberLine", spec := "numberLine", inPlace := ["internal/reflectlite.ValueOf", "(internal/reflectlite.Value).Type", "(internal/reflectlite.Value).IsNil", "internal/reflectlite.TypeOf", "(internal/reflectlite.Value).Elem", "(internal/reflectlite.Value).Set"], unfollowed := true, recurses := true, named := ["math/bits.divideError", "math/bits.overflowError", "errors.errorType"], apart := false, laid := [("errors.errorType", laid_errors_errorType)], narrowed := true }
def NumberLineUptoSaid : Prop := numberLineUptoRow.holds Tryd.pinned (OpenSpec.upto numberLineSpec)

/-- 'frankpledgelaw03.NumberNull', WHERE WHAT IT READS IS OF BULK AT MOST 1048576: true; the input reads as it did. -/
def numberNullUptoRow : OpenClaim := { program := "ytdlmcgflgdmjgaadoor", sum := "5273c5103a8a94322e756256072db0efb874e4cce476581b293339b8eb7e76ff", func := "frankpledge/frankpledgelaw03.NumberNull", spec := "numberNull", inPlace := ["internal/reflectlite.ValueOf", "(internal/reflectlite.Value).Type", "(internal/reflectlite.Value).IsNil", "internal/reflectlite.TypeOf", "(internal/reflectlite.Value).Elem", "(internal/reflectlite.Value).Set"], unfollowed := true, recurses := true, named := ["math/bits.divideError", "math/bits.overflowError", "errors.errorType"], apart := false, laid := [("errors.errorType", laid_errors_errorType)], narrowed := true }
def NumberNullUptoSaid : Prop := numberNullUptoRow.holds Tryd.pinned (OpenSpec.upto numberNullSpec)

/-- 'frankpledgelaw03.NumberCompares', WHERE WHAT IT READS IS OF BULK AT MOST 1048576: true; the input reads as it did. -/
def numberComparesUptoRow : OpenClaim := { program := "ytdlmcgflgdmjgaadoor", sum := "5273c5103a8a94322e756256072db0efb874e4cce476581b293339b8eb7e76ff", func := "frankpledge/frankpledgelaw03.NumberCompares", spec := "numberCompares", inPlace := ["internal/reflectlite.ValueOf", "(internal/reflectlite.Value).Type", "(internal/reflectlite.Value).IsNil", "internal/reflectlite.TypeOf", "(internal/reflectlite.Value).Elem", "(internal/reflectlite.Value).Set"], unfollowed := true, recurses := true, named := ["math/bits.divideError", "math/bits.overflowError", "errors.errorType"], apart := false, laid := [("errors.errorType", laid_errors_errorType)], narrowed := true }
def NumberComparesUptoSaid : Prop := numberComparesUptoRow.holds Tryd.pinned (OpenSpec.upto numberComparesSpec)

end Rows
end Go.Proofs.YtdlmcgflgdmjgaaDoor
