/-
  DERIVED. GIVEN WITH THE SEED: THE CARDS: each row of YtmemgpcgjephmaaGreatDoorRows.lean that lists a variable, with what it lists TIED to the program's text (the seventh form; the later family's looks); each row that meets fmt, with fmt's text TOLD by the authors' own Lean function (tested against real Go, not proved from fmt's source: count such statements apart). THE CARD IS WHAT COUNTS. Prove the row's statement (the work); the ties are given (YtmemgpcgjephmaaGreatDoorTie.lean); close each card by the builder's one call (the guide's Derived/Test/ToyasCard.lean, 'card_holds'). Laid BY PROGRAM, IN A SANDBOX (cutbox-door.mjs). By AI agents, Wed Nov 11 2026. No macro, syntax, notation, axiom, sorry.
-/
import Derived.Test.YtmemgpcgjephmaaGreatDoorRows
import GoSem.ClaimSeven
namespace Go.Proofs.YtmemgpcgjephmaaGreatDoor
namespace Rows

/-- THE TIED CARD OF 'frankpledgelaw18.CatalogNil'. -/
def catalogNilCard : Claim7 := { stood := { row := catalogNilRow, standIns := [], harness := (true, "291955c2bcecfdbe27f2a06bbbb365fbdb3f7ced249009a6c707dc79549c6c1d"), looks := true }, kinds := [], alts := [], laidByText := true, laidKinds := [.data, .handle, .pinned], laidTests := true, laidLooks := .later }
def CatalogNilCardSaid : Prop := Claim7.holds Tryz.pinned (.plain (OpenSpec.ofChange catalogNilSpec)) catalogNilCard

/-- THE TIED CARD OF 'frankpledgelaw18.CatalogAdds'. -/
def catalogAddsCard : Claim7 := { stood := { row := catalogAddsRow, standIns := [], harness := (true, "291955c2bcecfdbe27f2a06bbbb365fbdb3f7ced249009a6c707dc79549c6c1d"), looks := true }, kinds := [], alts := [], laidByText := true, laidKinds := [.data, .handle, .pinned], laidTests := true, laidLooks := .later }
def CatalogAddsCardSaid : Prop := Claim7.holds Tryz.pinned (.plain (OpenSpec.ofChange catalogAddsSpec)) catalogAddsCard

/-- THE SECOND FORM's CARD OF 'frankpledgelaw18.CatalogNil'. -/
def catalogNilUptoCard : Claim7 := { stood := { row := catalogNilUptoRow, standIns := [], harness := (true, "291955c2bcecfdbe27f2a06bbbb365fbdb3f7ced249009a6c707dc79549c6c1d"), looks := true }, kinds := [], alts := [], laidByText := true, laidKinds := [.data, .handle, .pinned], laidTests := true, laidLooks := .later }
def CatalogNilUptoCardSaid : Prop := Claim7.holds Tryz.pinned (.plain (OpenSpec.upto catalogNilSpec)) catalogNilUptoCard

/-- THE SECOND FORM's CARD OF 'frankpledgelaw18.CatalogAdds'. -/
def catalogAddsUptoCard : Claim7 := { stood := { row := catalogAddsUptoRow, standIns := [], harness := (true, "291955c2bcecfdbe27f2a06bbbb365fbdb3f7ced249009a6c707dc79549c6c1d"), looks := true }, kinds := [], alts := [], laidByText := true, laidKinds := [.data, .handle, .pinned], laidTests := true, laidLooks := .later }
def CatalogAddsUptoCardSaid : Prop := Claim7.holds Tryz.pinned (.plain (OpenSpec.upto catalogAddsSpec)) catalogAddsUptoCard
end Rows
end Go.Proofs.YtmemgpcgjephmaaGreatDoor
