/-
  DERIVED. GIVEN WITH THE SEED: THE CARDS: each row of YtcllmnepkglabaaDoorRows.lean that lists a variable, with what it lists TIED to the program's text (the seventh form; the later family's looks); each row that meets fmt, with fmt's text TOLD by the authors' own Lean function (tested against real Go, not proved from fmt's source: count such statements apart). THE CARD IS WHAT COUNTS. Prove the row's statement (the work); the ties are given (YtcllmnepkglabaaDoorTie.lean); close each card by the builder's one call (the guide's Derived/Test/ToyasCard.lean, 'card_holds'). Laid BY PROGRAM, IN A SANDBOX (cutbox-door.mjs). By AI agents, Wed Nov 11 2026. No macro, syntax, notation, axiom, sorry.
-/
import Derived.Test.YtcllmnepkglabaaDoorRows
import GoSem.ClaimSeven
namespace Go.Proofs.YtcllmnepkglabaaDoor
namespace Rows

/-- THE TIED CARD OF 'frankpledgelaw04.KeyBegins'. -/
def keyBeginsCard : Claim7 := { stood := { row := keyBeginsRow, standIns := [], harness := (true, "fa32eacc8993eb0d76f44e50d8856d282e431c8a2b22c5bbfe137198a31ed339"), looks := false }, kinds := [], alts := [], laidByText := true, laidKinds := [.data, .pinned], laidTests := true, laidLooks := .later }
def KeyBeginsCardSaid : Prop := Claim7.holds Tryd.pinned (.plain (OpenSpec.ofChange keyBeginsSpec)) keyBeginsCard

/-- THE TIED CARD OF 'frankpledgelaw04.KeyNext'. -/
def keyNextCard : Claim7 := { stood := { row := keyNextRow, standIns := [], harness := (true, "fa32eacc8993eb0d76f44e50d8856d282e431c8a2b22c5bbfe137198a31ed339"), looks := false }, kinds := [], alts := [], laidByText := true, laidKinds := [.data, .pinned], laidTests := true, laidLooks := .later }
def KeyNextCardSaid : Prop := Claim7.holds Tryd.pinned (.plain (OpenSpec.ofChange keyNextSpec)) keyNextCard

/-- THE TIED CARD OF 'frankpledgelaw04.KeyOne'. -/
def keyOneCard : Claim7 := { stood := { row := keyOneRow, standIns := [], harness := (true, "fa32eacc8993eb0d76f44e50d8856d282e431c8a2b22c5bbfe137198a31ed339"), looks := false }, kinds := [], alts := [], laidByText := true, laidKinds := [.data, .pinned], laidTests := true, laidLooks := .later }
def KeyOneCardSaid : Prop := Claim7.holds Tryd.pinned (.plain (OpenSpec.ofChange keyOneSpec)) keyOneCard

/-- THE TIED CARD OF 'frankpledgelaw04.KeyOrder'. -/
def keyOrderCard : Claim7 := { stood := { row := keyOrderRow, standIns := [], harness := (true, "fa32eacc8993eb0d76f44e50d8856d282e431c8a2b22c5bbfe137198a31ed339"), looks := false }, kinds := [], alts := [], laidByText := true, laidKinds := [.data, .pinned], laidTests := true, laidLooks := .later }
def KeyOrderCardSaid : Prop := Claim7.holds Tryd.pinned (.plain (OpenSpec.ofChange keyOrderSpec)) keyOrderCard

/-- THE TIED CARD OF 'frankpledgelaw04.KeyEncodes'. -/
def keyEncodesCard : Claim7 := { stood := { row := keyEncodesRow, standIns := [], harness := (true, "fa32eacc8993eb0d76f44e50d8856d282e431c8a2b22c5bbfe137198a31ed339"), looks := false }, kinds := [], alts := [], laidByText := true, laidKinds := [.data, .pinned], laidTests := true, laidLooks := .later }
def KeyEncodesCardSaid : Prop := Claim7.holds Tryd.pinned (.plain (OpenSpec.ofChange keyEncodesSpec)) keyEncodesCard

/-- THE TIED CARD OF 'frankpledgelaw04.KeyBack'. -/
def keyBackCard : Claim7 := { stood := { row := keyBackRow, standIns := [], harness := (true, "fa32eacc8993eb0d76f44e50d8856d282e431c8a2b22c5bbfe137198a31ed339"), looks := false }, kinds := [], alts := [], laidByText := true, laidKinds := [.data, .pinned], laidTests := true, laidLooks := .later }
def KeyBackCardSaid : Prop := Claim7.holds Tryd.pinned (.plain (OpenSpec.ofChange keyBackSpec)) keyBackCard

/-- THE SECOND FORM's CARD OF 'frankpledgelaw04.KeyBegins'. -/
def keyBeginsUptoCard : Claim7 := { stood := { row := keyBeginsUptoRow, standIns := [], harness := (true, "fa32eacc8993eb0d76f44e50d8856d282e431c8a2b22c5bbfe137198a31ed339"), looks := false }, kinds := [], alts := [], laidByText := true, laidKinds := [.data, .pinned], laidTests := true, laidLooks := .later }
def KeyBeginsUptoCardSaid : Prop := Claim7.holds Tryd.pinned (.plain (OpenSpec.upto keyBeginsSpec)) keyBeginsUptoCard

/-- THE SECOND FORM's CARD OF 'frankpledgelaw04.KeyNext'. -/
def keyNextUptoCard : Claim7 := { stood := { row := keyNextUptoRow, standIns := [], harness := (true, "fa32eacc8993eb0d76f44e50d8856d282e431c8a2b22c5bbfe137198a31ed339"), looks := false }, kinds := [], alts := [], laidByText := true, laidKinds := [.data, .pinned], laidTests := true, laidLooks := .later }
def KeyNextUptoCardSaid : Prop := Claim7.holds Tryd.pinned (.plain (OpenSpec.upto keyNextSpec)) keyNextUptoCard

/-- THE SECOND FORM's CARD OF 'frankpledgelaw04.KeyOne'. -/
def keyOneUptoCard : Claim7 := { stood := { row := keyOneUptoRow, standIns := [], harness := (true, "fa32eacc8993eb0d76f44e50d8856d282e431c8a2b22c5bbfe137198a31ed339"), looks := false }, kinds := [], alts := [], laidByText := true, laidKinds := [.data, .pinned], laidTests := true, laidLooks := .later }
def KeyOneUptoCardSaid : Prop := Claim7.holds Tryd.pinned (.plain (OpenSpec.upto keyOneSpec)) keyOneUptoCard

/-- THE SECOND FORM's CARD OF 'frankpledgelaw04.KeyOrder'. -/
def keyOrderUptoCard : Claim7 := { stood := { row := keyOrderUptoRow, standIns := [], harness := (true, "fa32eacc8993eb0d76f44e50d8856d282e431c8a2b22c5bbfe137198a31ed339"), looks := false }, kinds := [], alts := [], laidByText := true, laidKinds := [.data, .pinned], laidTests := true, laidLooks := .later }
def KeyOrderUptoCardSaid : Prop := Claim7.holds Tryd.pinned (.plain (OpenSpec.upto keyOrderSpec)) keyOrderUptoCard

/-- THE SECOND FORM's CARD OF 'frankpledgelaw04.KeyEncodes'. -/
def keyEncodesUptoCard : Claim7 := { stood := { row := keyEncodesUptoRow, standIns := [], harness := (true, "fa32eacc8993eb0d76f44e50d8856d282e431c8a2b22c5bbfe137198a31ed339"), looks := false }, kinds := [], alts := [], laidByText := true, laidKinds := [.data, .pinned], laidTests := true, laidLooks := .later }
def KeyEncodesUptoCardSaid : Prop := Claim7.holds Tryd.pinned (.plain (OpenSpec.upto keyEncodesSpec)) keyEncodesUptoCard

/-- THE SECOND FORM's CARD OF 'frankpledgelaw04.KeyBack'. -/
def keyBackUptoCard : Claim7 := { stood := { row := keyBackUptoRow, standIns := [], harness := (true, "fa32eacc8993eb0d76f44e50d8856d282e431c8a2b22c5bbfe137198a31ed339"), looks := false }, kinds := [], alts := [], laidByText := true, laidKinds := [.data, .pinned], laidTests := true, laidLooks := .later }
def KeyBackUptoCardSaid : Prop := Claim7.holds Tryd.pinned (.plain (OpenSpec.upto keyBackSpec)) keyBackUptoCard
end Rows
end Go.Proofs.YtcllmnepkglabaaDoor
