/-
  DERIVED. GIVEN WITH THE SEED: THE CARDS: each row of YtmemgpcgjephmaaDoorRows.lean that lists a variable, with what it lists TIED to the program's text (the seventh form; the later family's looks); each row that meets fmt, with fmt's text TOLD by the authors' own Lean function (tested against real Go, not proved from fmt's source: count such statements apart). THE CARD IS WHAT COUNTS. Prove the row's statement (the work); the ties are given (YtmemgpcgjephmaaDoorTie.lean); close each card by the builder's one call (the guide's Derived/Test/ToyasCard.lean, 'card_holds'). Laid BY PROGRAM, IN A SANDBOX (cutbox-door.mjs). By AI agents, Wed Nov 11 2026. No macro, syntax, notation, axiom, sorry.
-/
import Derived.Test.YtmemgpcgjephmaaDoorRows
import GoSem.ClaimSeven
namespace Go.Proofs.YtmemgpcgjephmaaDoor
namespace Rows

/-- THE TIED CARD OF 'frankpledgelaw18.CatalogRanges'. -/
def catalogRangesCard : Claim7 := { stood := { row := catalogRangesRow, standIns := [], harness := (true, "c06a97eda6f8931f3af8095511316a7a7e855299097c96d39e20ff87e67649a0"), looks := true }, kinds := [], alts := [], laidByText := true, laidKinds := [.data, .pinned], laidTests := true, laidLooks := .later }
def CatalogRangesCardSaid : Prop := Claim7.holds Tryd.pinned (.plain (OpenSpec.ofChange catalogRangesSpec)) catalogRangesCard

/-- THE TIED CARD OF 'frankpledgelaw18.CatalogOne'. -/
def catalogOneCard : Claim7 := { stood := { row := catalogOneRow, standIns := [], harness := (true, "c06a97eda6f8931f3af8095511316a7a7e855299097c96d39e20ff87e67649a0"), looks := true }, kinds := [], alts := [], laidByText := true, laidKinds := [.data, .pinned], laidTests := true, laidLooks := .later }
def CatalogOneCardSaid : Prop := Claim7.holds Tryd.pinned (.plain (OpenSpec.ofChange catalogOneSpec)) catalogOneCard

/-- THE TIED CARD OF 'frankpledgelaw18.CatalogRight'. -/
def catalogRightCard : Claim7 := { stood := { row := catalogRightRow, standIns := [], harness := (true, "c06a97eda6f8931f3af8095511316a7a7e855299097c96d39e20ff87e67649a0"), looks := true }, kinds := [], alts := [], laidByText := true, laidKinds := [.data, .handle, .pinned], laidTests := true, laidLooks := .later }
def CatalogRightCardSaid : Prop := Claim7.holds Tryd.pinned (.plain (OpenSpec.ofChange catalogRightSpec)) catalogRightCard

/-- THE TIED CARD OF 'frankpledgelaw18.CatalogParts'. -/
def catalogPartsCard : Claim7 := { stood := { row := catalogPartsRow, standIns := [], harness := (true, "c06a97eda6f8931f3af8095511316a7a7e855299097c96d39e20ff87e67649a0"), looks := true }, kinds := [], alts := [], laidByText := true, laidKinds := [.data, .handle, .pinned], laidTests := true, laidLooks := .later }
def CatalogPartsCardSaid : Prop := Claim7.holds Tryd.pinned (.plain (OpenSpec.ofChange catalogPartsSpec)) catalogPartsCard

/-- THE SECOND FORM's CARD OF 'frankpledgelaw18.CatalogRanges'. -/
def catalogRangesUptoCard : Claim7 := { stood := { row := catalogRangesUptoRow, standIns := [], harness := (true, "c06a97eda6f8931f3af8095511316a7a7e855299097c96d39e20ff87e67649a0"), looks := true }, kinds := [], alts := [], laidByText := true, laidKinds := [.data, .pinned], laidTests := true, laidLooks := .later }
def CatalogRangesUptoCardSaid : Prop := Claim7.holds Tryd.pinned (.plain (OpenSpec.upto catalogRangesSpec)) catalogRangesUptoCard

/-- THE SECOND FORM's CARD OF 'frankpledgelaw18.CatalogOne'. -/
def catalogOneUptoCard : Claim7 := { stood := { row := catalogOneUptoRow, standIns := [], harness := (true, "c06a97eda6f8931f3af8095511316a7a7e855299097c96d39e20ff87e67649a0"), looks := true }, kinds := [], alts := [], laidByText := true, laidKinds := [.data, .pinned], laidTests := true, laidLooks := .later }
def CatalogOneUptoCardSaid : Prop := Claim7.holds Tryd.pinned (.plain (OpenSpec.upto catalogOneSpec)) catalogOneUptoCard

/-- THE SECOND FORM's CARD OF 'frankpledgelaw18.CatalogRight'. -/
def catalogRightUptoCard : Claim7 := { stood := { row := catalogRightUptoRow, standIns := [], harness := (true, "c06a97eda6f8931f3af8095511316a7a7e855299097c96d39e20ff87e67649a0"), looks := true }, kinds := [], alts := [], laidByText := true, laidKinds := [.data, .handle, .pinned], laidTests := true, laidLooks := .later }
def CatalogRightUptoCardSaid : Prop := Claim7.holds Tryd.pinned (.plain (OpenSpec.upto catalogRightSpec)) catalogRightUptoCard

/-- THE SECOND FORM's CARD OF 'frankpledgelaw18.CatalogParts'. -/
def catalogPartsUptoCard : Claim7 := { stood := { row := catalogPartsUptoRow, standIns := [], harness := (true, "c06a97eda6f8931f3af8095511316a7a7e855299097c96d39e20ff87e67649a0"), looks := true }, kinds := [], alts := [], laidByText := true, laidKinds := [.data, .handle, .pinned], laidTests := true, laidLooks := .later }
def CatalogPartsUptoCardSaid : Prop := Claim7.holds Tryd.pinned (.plain (OpenSpec.upto catalogPartsSpec)) catalogPartsUptoCard
end Rows
end Go.Proofs.YtmemgpcgjephmaaDoor
