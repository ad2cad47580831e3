/-
  No cell of these rows narrows 'for every input' (looked for: loops, veiled, ifaces, maps, wideKeys, modest, calm, conditions, laid).
  DERIVED. THE GIVEN ROWS OF THIS SEAT. 11 by the template 'for every input the law returns true; each argument reads behind the call as it read before'; 0 by the template 'total and deterministic' (their statements: YtmbbkliekgiolaaTotals.lean).
  GIVEN WITH THE SEED: the statements are not yours to turn. If you find one false, say at which input.
  Laid BY PROGRAM, IN A SANDBOX (cutbox-rows.mjs): the forced cells as the released guide's own fill.sh prints them over the translation 12cdd72b9b49b6a3… (all of the seat's roots in one cut). By AI agents, Wed Nov 11 2026. No macro, syntax, notation, axiom, sorry.
-/
import Derived.Test.YtmbbkliekgiolaaChecked
import GoSem.Claim
import GoSem.ClaimJoined
import GoSem.ClaimMapViews
import Derived.JoinedTies
import Derived.KernelRfl
namespace Go.Proofs.Ytmbbkliekgiolaa
/- THE CELL 'sum', in the pinned program and in every row, IS THE sha256 OF THE DUMP (.gsa) THAT YtmbbkliekgiolaaProg.lean LOADS. Nothing in Lean hashes anything: it is a label: what it is worth is what the hold of that sum in a sandbox is worth. -/
noncomputable def Try.pinned : Pinned := { name := "ytmbbkliekgiolaa", sum := "12cdd72b9b49b6a3550dd72cbee11f80aa2de8b4e0254c2069e73040076541a2", checked := Try.checked }
namespace Rows
def none {H : Type} : Left H := { results := [], args := [] }

/-- 'frankpledgelaw08.TableOrder': WHATEVER THE INPUT: true; the input reads as it did. -/
def tableOrderSpec : ChangeSpec := { name := "tableOrder", fn := fun _ => fun
  | [d1, d2, d3] => { results := [.lit (.bool true)], args := [d1, d2, d3] }
  | _ => none }
def tableOrderRow : OpenClaim := { program := "ytmbbkliekgiolaa", sum := "12cdd72b9b49b6a3550dd72cbee11f80aa2de8b4e0254c2069e73040076541a2", func := "frankpledge/frankpledgelaw08.TableOrder", spec := "tableOrder", inPlace := ["internal/bytealg.Compare", "slices.overlaps[frankpledge/table.Entry]", "slices.overlaps[frankpledge/table.page]"], unfollowed := true, recurses := true, apart := false }
def TableOrderSaid : Prop := tableOrderRow.holds Try.pinned (OpenSpec.ofChange tableOrderSpec)

/-- ITS FALSE NEIGHBOUR: 'it returns false'. Refute it at one input. -/
def tableOrderWrong : ChangeSpec := { name := "tableOrder", fn := fun _ => fun
  | [d1, d2, d3] => { results := [.lit (.bool false)], args := [d1, d2, d3] }
  | _ => none }
def TableOrderWrongFalsely : Prop := tableOrderRow.holds Try.pinned (OpenSpec.ofChange tableOrderWrong)

/-- 'frankpledgelaw08.TableAny': WHATEVER THE INPUT: true; the input reads as it did. -/
def tableAnySpec : ChangeSpec := { name := "tableAny", fn := fun _ => fun
  | [d] => { results := [.lit (.bool true)], args := [d] }
  | _ => none }
def tableAnyRow : OpenClaim := { program := "ytmbbkliekgiolaa", sum := "12cdd72b9b49b6a3550dd72cbee11f80aa2de8b4e0254c2069e73040076541a2", func := "frankpledge/frankpledgelaw08.TableAny", spec := "tableAny", inPlace := ["internal/bytealg.Compare", "slices.overlaps[frankpledge/table.Entry]", "slices.overlaps[frankpledge/table.page]"], unfollowed := true, recurses := true, apart := false }
def TableAnySaid : Prop := tableAnyRow.holds Try.pinned (OpenSpec.ofChange tableAnySpec)

/-- ITS FALSE NEIGHBOUR: 'it returns false'. Refute it at one input. -/
def tableAnyWrong : ChangeSpec := { name := "tableAny", fn := fun _ => fun
  | [d] => { results := [.lit (.bool false)], args := [d] }
  | _ => none }
def TableAnyWrongFalsely : Prop := tableAnyRow.holds Try.pinned (OpenSpec.ofChange tableAnyWrong)

/-- 'frankpledgelaw08.TableLast': WHATEVER THE INPUT: true; the input reads as it did. -/
def tableLastSpec : ChangeSpec := { name := "tableLast", fn := fun _ => fun
  | [d1, d2] => { results := [.lit (.bool true)], args := [d1, d2] }
  | _ => none }
def tableLastRow : OpenClaim := { program := "ytmbbkliekgiolaa", sum := "12cdd72b9b49b6a3550dd72cbee11f80aa2de8b4e0254c2069e73040076541a2", func := "frankpledge/frankpledgelaw08.TableLast", spec := "tableLast", inPlace := ["internal/bytealg.Compare", "slices.overlaps[frankpledge/table.Entry]", "slices.overlaps[frankpledge/table.page]"], unfollowed := true, recurses := true, apart := false }
def TableLastSaid : Prop := tableLastRow.holds Try.pinned (OpenSpec.ofChange tableLastSpec)

/-- ITS FALSE NEIGHBOUR: 'it returns false'. Refute it at one input. -/
def tableLastWrong : ChangeSpec := { name := "tableLast", fn := fun _ => fun
  | [d1, d2] => { results := [.lit (.bool false)], args := [d1, d2] }
  | _ => none }
def TableLastWrongFalsely : Prop := tableLastRow.holds Try.pinned (OpenSpec.ofChange tableLastWrong)

/-- 'frankpledgelaw07.WalChecks': WHATEVER THE INPUT: true; the input reads as it did. -/
def walChecksSpec : ChangeSpec := { name := "walChecks", fn := fun _ => fun
  | [d1, d2, d3] => { results := [.lit (.bool true)], args := [d1, d2, d3] }
  | _ => none }
def walChecksRow : OpenClaim := { program := "ytmbbkliekgiolaa", sum := "12cdd72b9b49b6a3550dd72cbee11f80aa2de8b4e0254c2069e73040076541a2", func := "frankpledge/frankpledgelaw07.WalChecks", spec := "walChecks", inPlace := ["slices.overlaps[byte]"], unfollowed := true, recurses := true, apart := false }
def WalChecksSaid : Prop := walChecksRow.holds Try.pinned (OpenSpec.ofChange walChecksSpec)

/-- ITS FALSE NEIGHBOUR: 'it returns false'. Refute it at one input. -/
def walChecksWrong : ChangeSpec := { name := "walChecks", fn := fun _ => fun
  | [d1, d2, d3] => { results := [.lit (.bool false)], args := [d1, d2, d3] }
  | _ => none }
def WalChecksWrongFalsely : Prop := walChecksRow.holds Try.pinned (OpenSpec.ofChange walChecksWrong)

/-- 'frankpledgelaw07.WalTail': WHATEVER THE INPUT: true; the input reads as it did. -/
def walTailSpec : ChangeSpec := { name := "walTail", fn := fun _ => fun
  | [d1, d2, d3] => { results := [.lit (.bool true)], args := [d1, d2, d3] }
  | _ => none }
def walTailRow : OpenClaim := { program := "ytmbbkliekgiolaa", sum := "12cdd72b9b49b6a3550dd72cbee11f80aa2de8b4e0254c2069e73040076541a2", func := "frankpledge/frankpledgelaw07.WalTail", spec := "walTail", inPlace := ["slices.overlaps[byte]"], unfollowed := true, recurses := true, apart := false }
def WalTailSaid : Prop := walTailRow.holds Try.pinned (OpenSpec.ofChange walTailSpec)

/-- ITS FALSE NEIGHBOUR: 'it returns false'. Refute it at one input. -/
def walTailWrong : ChangeSpec := { name := "walTail", fn := fun _ => fun
  | [d1, d2, d3] => { results := [.lit (.bool false)], args := [d1, d2, d3] }
  | _ => none }
def WalTailWrongFalsely : Prop := walTailRow.holds Try.pinned (OpenSpec.ofChange walTailWrong)

/-- 'frankpledgelaw08.TablePlays': WHATEVER THE INPUT: true; the input reads as it did. -/
def tablePlaysSpec : ChangeSpec := { name := "tablePlays", fn := fun _ => fun
  | [d1, d2] => { results := [.lit (.bool true)], args := [d1, d2] }
  | _ => none }
def tablePlaysRow : OpenClaim := { program := "ytmbbkliekgiolaa", sum := "12cdd72b9b49b6a3550dd72cbee11f80aa2de8b4e0254c2069e73040076541a2", func := "frankpledge/frankpledgelaw08.TablePlays", spec := "tablePlays", inPlace := ["internal/bytealg.Compare", "slices.overlaps[frankpledge/table.Entry]", "slices.overlaps[frankpledge/table.page]"], unfollowed := true, recurses := true, apart := false }
def TablePlaysSaid : Prop := tablePlaysRow.holds Try.pinned (OpenSpec.ofChange tablePlaysSpec)

/-- ITS FALSE NEIGHBOUR: 'it returns false'. Refute it at one input. -/
def tablePlaysWrong : ChangeSpec := { name := "tablePlays", fn := fun _ => fun
  | [d1, d2] => { results := [.lit (.bool false)], args := [d1, d2] }
  | _ => none }
def TablePlaysWrongFalsely : Prop := tablePlaysRow.holds Try.pinned (OpenSpec.ofChange tablePlaysWrong)

/-- 'frankpledgelaw08.TableNil': WHATEVER THE INPUT: true; the input reads as it did. -/
def tableNilSpec : ChangeSpec := { name := "tableNil", fn := fun _ => fun
  | [d1, d2] => { results := [.lit (.bool true)], args := [d1, d2] }
  | _ => none }
def tableNilRow : OpenClaim := { program := "ytmbbkliekgiolaa", sum := "12cdd72b9b49b6a3550dd72cbee11f80aa2de8b4e0254c2069e73040076541a2", func := "frankpledge/frankpledgelaw08.TableNil", spec := "tableNil", inPlace := ["internal/bytealg.Compare", "slices.overlaps[frankpledge/table.Entry]", "slices.overlaps[frankpledge/table.page]"], unfollowed := true, recurses := true, apart := false }
def TableNilSaid : Prop := tableNilRow.holds Try.pinned (OpenSpec.ofChange tableNilSpec)

/-- ITS FALSE NEIGHBOUR: 'it returns false'. Refute it at one input. -/
def tableNilWrong : ChangeSpec := { name := "tableNil", fn := fun _ => fun
  | [d1, d2] => { results := [.lit (.bool false)], args := [d1, d2] }
  | _ => none }
def TableNilWrongFalsely : Prop := tableNilRow.holds Try.pinned (OpenSpec.ofChange tableNilWrong)

/-- 'frankpledgelaw07.WalNumbers': WHATEVER THE INPUT: true; the input reads as it did. -/
def walNumbersSpec : ChangeSpec := { name := "walNumbers", fn := fun _ => fun
  | [d] => { results := [.lit (.bool true)], args := [d] }
  | _ => none }
def walNumbersRow : OpenClaim := { program := "ytmbbkliekgiolaa", sum := "12cdd72b9b49b6a3550dd72cbee11f80aa2de8b4e0254c2069e73040076541a2", func := "frankpledge/frankpledgelaw07.WalNumbers", spec := "walNumbers", inPlace := ["slices.overlaps[byte]"], unfollowed := true, recurses := true, apart := false }
def WalNumbersSaid : Prop := walNumbersRow.holds Try.pinned (OpenSpec.ofChange walNumbersSpec)

/-- ITS FALSE NEIGHBOUR: 'it returns false'. Refute it at one input. -/
def walNumbersWrong : ChangeSpec := { name := "walNumbers", fn := fun _ => fun
  | [d] => { results := [.lit (.bool false)], args := [d] }
  | _ => none }
def WalNumbersWrongFalsely : Prop := walNumbersRow.holds Try.pinned (OpenSpec.ofChange walNumbersWrong)

/-- 'frankpledgelaw07.WalNil': WHATEVER THE INPUT: true; the input reads as it did. -/
def walNilSpec : ChangeSpec := { name := "walNil", fn := fun _ => fun
  | [d] => { results := [.lit (.bool true)], args := [d] }
  | _ => none }
def walNilRow : OpenClaim := { program := "ytmbbkliekgiolaa", sum := "12cdd72b9b49b6a3550dd72cbee11f80aa2de8b4e0254c2069e73040076541a2", func := "frankpledge/frankpledgelaw07.WalNil", spec := "walNil", inPlace := ["slices.overlaps[byte]"], unfollowed := true, recurses := true, apart := false }
def WalNilSaid : Prop := walNilRow.holds Try.pinned (OpenSpec.ofChange walNilSpec)

/-- ITS FALSE NEIGHBOUR: 'it returns false'. Refute it at one input. -/
def walNilWrong : ChangeSpec := { name := "walNil", fn := fun _ => fun
  | [d] => { results := [.lit (.bool false)], args := [d] }
  | _ => none }
def WalNilWrongFalsely : Prop := walNilRow.holds Try.pinned (OpenSpec.ofChange walNilWrong)

/-- 'frankpledgelaw07.WalPlays': WHATEVER THE INPUT: true; the input reads as it did. -/
def walPlaysSpec : ChangeSpec := { name := "walPlays", fn := fun _ => fun
  | [d] => { results := [.lit (.bool true)], args := [d] }
  | _ => none }
def walPlaysRow : OpenClaim := { program := "ytmbbkliekgiolaa", sum := "12cdd72b9b49b6a3550dd72cbee11f80aa2de8b4e0254c2069e73040076541a2", func := "frankpledge/frankpledgelaw07.WalPlays", spec := "walPlays", inPlace := ["slices.overlaps[byte]"], unfollowed := true, recurses := true, apart := false }
def WalPlaysSaid : Prop := walPlaysRow.holds Try.pinned (OpenSpec.ofChange walPlaysSpec)

/-- ITS FALSE NEIGHBOUR: 'it returns false'. Refute it at one input. -/
def walPlaysWrong : ChangeSpec := { name := "walPlays", fn := fun _ => fun
  | [d] => { results := [.lit (.bool false)], args := [d] }
  | _ => none }
def WalPlaysWrongFalsely : Prop := walPlaysRow.holds Try.pinned (OpenSpec.ofChange walPlaysWrong)

/-- 'frankpledgelaw07.WalKeeps': WHATEVER THE INPUT: true; the input reads as it did. -/
def walKeepsSpec : ChangeSpec := { name := "walKeeps", fn := fun _ => fun
  | [d1, d2] => { results := [.lit (.bool true)], args := [d1, d2] }
  | _ => none }
def walKeepsRow : OpenClaim := { program := "ytmbbkliekgiolaa", sum := "12cdd72b9b49b6a3550dd72cbee11f80aa2de8b4e0254c2069e73040076541a2", func := "frankpledge/frankpledgelaw07.WalKeeps", spec := "walKeeps", inPlace := ["slices.overlaps[byte]"], unfollowed := true, recurses := true, apart := false }
def WalKeepsSaid : Prop := walKeepsRow.holds Try.pinned (OpenSpec.ofChange walKeepsSpec)

/-- ITS FALSE NEIGHBOUR: 'it returns false'. Refute it at one input. -/
def walKeepsWrong : ChangeSpec := { name := "walKeeps", fn := fun _ => fun
  | [d1, d2] => { results := [.lit (.bool false)], args := [d1, d2] }
  | _ => none }
def WalKeepsWrongFalsely : Prop := walKeepsRow.holds Try.pinned (OpenSpec.ofChange walKeepsWrong)

/- THE SECOND FORM. 'bulk': how many values and letters a reading holds, each counted each time it is reached (what is shared counts as often as it is met; a slice's spare places count too). A statement '..UptoSaid' is the law's where the arguments, and the package variables that the reading takes, are together of bulk at most 1048576: NARROWER than '..Said'. Prove '..Said' where nothing that the law and all that it calls make is longer than what came in: it says more and counts as full. Else prove '..UptoSaid'. A law counts once. -/
mutual
def uptoBulk {H : Type} : DataW H → Nat
  | .lit (.string bytes) => bytes.length + 1
  | .lit _ => 1
  | .nil => 1
  | .ptr d => uptoBulk d + 1
  | .slice elems spare => uptoBulkAll elems + uptoBulkAll spare + 1
  | .agg parts => uptoBulkAll parts + 1
  | .iface _ d => uptoBulk d + 1
  | .map entries => uptoBulkEntries entries + 1
  | .held _ => 1
def uptoBulkAll {H : Type} : List (DataW H) → Nat
  | [] => 0
  | d :: r => uptoBulk d + uptoBulkAll r
def uptoBulkEntries {H : Type} : List (Lit × DataW H) → Nat
  | [] => 0
  | x :: r => uptoBulkEntry x + uptoBulkEntries r
def uptoBulkEntry {H : Type} : Lit × DataW H → Nat
  | (.string bytes, d) => bytes.length + uptoBulk d + 1
  | (_, d) => uptoBulk d + 1
 end
def uptoSmall : (H : Type) → List (DataW H) → Bool := fun _ ds => decide (uptoBulkAll ds ≤ 1048576)
def OpenSpec.upto (s : _root_.Go.ChangeSpec) : _root_.Go.OpenSpec := { _root_.Go.OpenSpec.ofChange s with cond := some uptoSmall }

/-- 'frankpledgelaw08.TableOrder', WHERE WHAT IT READS IS OF BULK AT MOST 1048576: true; the input reads as it did. -/
def tableOrderUptoRow : OpenClaim := { program := "ytmbbkliekgiolaa", sum := "12cdd72b9b49b6a3550dd72cbee11f80aa2de8b4e0254c2069e73040076541a2", func := "frankpledge/frankpledgelaw08.TableOrder", spec := "tableOrder", inPlace := ["internal/bytealg.Compare", "slices.overlaps[frankpledge/table.Entry]", "slices.overlaps[frankpledge/table.page]"], unfollowed := true, recurses := true, apart := false, narrowed := true }
def TableOrderUptoSaid : Prop := tableOrderUptoRow.holds Try.pinned (OpenSpec.upto tableOrderSpec)

/-- 'frankpledgelaw08.TableAny', WHERE WHAT IT READS IS OF BULK AT MOST 1048576: true; the input reads as it did. -/
def tableAnyUptoRow : OpenClaim := { program := "ytmbbkliekgiolaa", sum := "12cdd72b9b49b6a3550dd72cbee11f80aa2de8b4e0254c2069e73040076541a2", func := "frankpledge/frankpledgelaw08.TableAny", spec := "tableAny", inPlace := ["internal/bytealg.Compare", "slices.overlaps[frankpledge/table.Entry]", "slices.overlaps[frankpledge/table.page]"], unfollowed := true, recurses := true, apart := false, narrowed := true }
def TableAnyUptoSaid : Prop := tableAnyUptoRow.holds Try.pinned (OpenSpec.upto tableAnySpec)

/-- 'frankpledgelaw08.TableLast', WHERE WHAT IT READS IS OF BULK AT MOST 1048576: true; the input reads as it did. -/
def tableLastUptoRow : OpenClaim := { program := "ytmbbkliekgiolaa", sum := "12cdd72b9b49b6a3550dd72cbee11f80aa2de8b4e0254c2069e73040076541a2", func := "frankpledge/frankpledgelaw08.TableLast", spec := "tableLast", inPlace := ["internal/bytealg.Compare", "slices.overlaps[frankpledge/table.Entry]", "slices.overlaps[frankpledge/table.page]"], unfollowed := true, recurses := true, apart := false, narrowed := true }
def TableLastUptoSaid : Prop := tableLastUptoRow.holds Try.pinned (OpenSpec.upto tableLastSpec)

/-- 'frankpledgelaw07.WalChecks', WHERE WHAT IT READS IS OF BULK AT MOST 1048576: true; the input reads as it did. -/
def walChecksUptoRow : OpenClaim := { program := "ytmbbkliekgiolaa", sum := "12cdd72b9b49b6a3550dd72cbee11f80aa2de8b4e0254c2069e73040076541a2", func := "frankpledge/frankpledgelaw07.WalChecks", spec := "walChecks", inPlace := ["slices.overlaps[byte]"], unfollowed := true, recurses := true, apart := false, narrowed := true }
def WalChecksUptoSaid : Prop := walChecksUptoRow.holds Try.pinned (OpenSpec.upto walChecksSpec)

/-- 'frankpledgelaw07.WalTail', WHERE WHAT IT READS IS OF BULK AT MOST 1048576: true; the input reads as it did. -/
def walTailUptoRow : OpenClaim := { program := "ytmbbkliekgiolaa", sum := "12cdd72b9b49b6a3550dd72cbee11f80aa2de8b4e0254c2069e73040076541a2", func := "frankpledge/frankpledgelaw07.WalTail", spec := "walTail", inPlace := ["slices.overlaps[byte]"], unfollowed := true, recurses := true, apart := false, narrowed := true }
def WalTailUptoSaid : Prop := walTailUptoRow.holds Try.pinned (OpenSpec.upto walTailSpec)

/-- 'frankpledgelaw08.TablePlays', WHERE WHAT IT READS IS OF BULK AT MOST 1048576: true; the input reads as it did. -/
def tablePlaysUptoRow : OpenClaim := { program := "ytmbbkliekgiolaa", sum := "12cdd72b9b49b6a3550dd72cbee11f80aa2de8b4e0254c2069e73040076541a2", func := "frankpledge/frankpledgelaw08.TablePlays", spec := "tablePlays", inPlace := ["internal/bytealg.Compare", "slices.overlaps[frankpledge/table.Entry]", "slices.overlaps[frankpledge/table.page]"], unfollowed := true, recurses := true, apart := false, narrowed := true }
def TablePlaysUptoSaid : Prop := tablePlaysUptoRow.holds Try.pinned (OpenSpec.upto tablePlaysSpec)

/-- 'frankpledgelaw08.TableNil', WHERE WHAT IT READS IS OF BULK AT MOST 1048576: true; the input reads as it did. -/
def tableNilUptoRow : OpenClaim := { program := "ytmbbkliekgiolaa", sum := "12cdd72b9b49b6a3550dd72cbee11f80aa2de8b4e0254c2069e73040076541a2", func := "frankpledge/frankpledgelaw08.TableNil", spec := "tableNil", inPlace := ["internal/bytealg.Compare", "slices.overlaps[frankpledge/table.Entry]", "slices.overlaps[frankpledge/table.page]"], unfollowed := true, recurses := true, apart := false, narrowed := true }
def TableNilUptoSaid : Prop := tableNilUptoRow.holds Try.pinned (OpenSpec.upto tableNilSpec)

/-- 'frankpledgelaw07.WalNumbers', WHERE WHAT IT READS IS OF BULK AT MOST 1048576: true; the input reads as it did. -/
def walNumbersUptoRow : OpenClaim := { program := "ytmbbkliekgiolaa", sum := "12cdd72b9b49b6a3550dd72cbee11f80aa2de8b4e0254c2069e73040076541a2", func := "frankpledge/frankpledgelaw07.WalNumbers", spec := "walNumbers", inPlace := ["slices.overlaps[byte]"], unfollowed := true, recurses := true, apart := false, narrowed := true }
def WalNumbersUptoSaid : Prop := walNumbersUptoRow.holds Try.pinned (OpenSpec.upto walNumbersSpec)

/-- 'frankpledgelaw07.WalNil', WHERE WHAT IT READS IS OF BULK AT MOST 1048576: true; the input reads as it did. -/
def walNilUptoRow : OpenClaim := { program := "ytmbbkliekgiolaa", sum := "12cdd72b9b49b6a3550dd72cbee11f80aa2de8b4e0254c2069e73040076541a2", func := "frankpledge/frankpledgelaw07.WalNil", spec := "walNil", inPlace := ["slices.overlaps[byte]"], unfollowed := true, recurses := true, apart := false, narrowed := true }
def WalNilUptoSaid : Prop := walNilUptoRow.holds Try.pinned (OpenSpec.upto walNilSpec)

/-- 'frankpledgelaw07.WalPlays', WHERE WHAT IT READS IS OF BULK AT MOST 1048576: true; the input reads as it did. -/
def walPlaysUptoRow : OpenClaim := { program := "ytmbbkliekgiolaa", sum := "12cdd72b9b49b6a3550dd72cbee11f80aa2de8b4e0254c2069e73040076541a2", func := "frankpledge/frankpledgelaw07.WalPlays", spec := "walPlays", inPlace := ["slices.overlaps[byte]"], unfollowed := true, recurses := true, apart := false, narrowed := true }
def WalPlaysUptoSaid : Prop := walPlaysUptoRow.holds Try.pinned (OpenSpec.upto walPlaysSpec)

/-- 'frankpledgelaw07.WalKeeps', WHERE WHAT IT READS IS OF BULK AT MOST 1048576: true; the input reads as it did. -/
def walKeepsUptoRow : OpenClaim := { program := "ytmbbkliekgiolaa", sum := "12cdd72b9b49b6a3550dd72cbee11f80aa2de8b4e0254c2069e73040076541a2", func := "frankpledge/frankpledgelaw07.WalKeeps", spec := "walKeeps", inPlace := ["slices.overlaps[byte]"], unfollowed := true, recurses := true, apart := false, narrowed := true }
def WalKeepsUptoSaid : Prop := walKeepsUptoRow.holds Try.pinned (OpenSpec.upto walKeepsSpec)

end Rows
end Go.Proofs.Ytmbbkliekgiolaa
