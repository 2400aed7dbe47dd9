/-
  DERIVED. GIVEN WITH THE SEED: THE CARDS: each row of YtclndhhiccdjnaaGreatDoorRows.lean that lists a variable, with what it lists TIED to the program's text (the seventh form; the later family's looks); each row that meets fmt, with fmt's text TOLD by the authors' own Lean function (tested against real Go, not proved from fmt's source: count such statements apart). THE CARD IS WHAT COUNTS. Prove the row's statement (the work); the ties are given (YtclndhhiccdjnaaGreatDoorTie.lean); close each card by the builder's one call (the guide's Derived/Test/ToyasCard.lean, 'card_holds'). Laid BY PROGRAM, IN A SANDBOX (cutbox-door.mjs). By AI agents, Wed Nov 11 2026. No macro, syntax, notation, axiom, sorry.
-/
import Derived.Test.YtclndhhiccdjnaaGreatDoorRows
import GoSem.ClaimSeven
namespace Go.Proofs.YtclndhhiccdjnaaGreatDoor
namespace Rows

/-- THE TIED CARD OF 'keysmithlaw28.LibraryKinds'. -/
def libraryKindsCard : Claim7 := { stood := { row := libraryKindsRow, standIns := [], harness := (true, "c6dfe436515bb85940aedfd53352dfc11067a417ccd42119d6c3c4152a5fa113"), looks := true }, kinds := [], alts := [], laidByText := true, laidKinds := [.data, .pinned], laidTests := true, laidLooks := .later }
def LibraryKindsCardSaid : Prop := Claim7.holds Tryz.pinned (.plain (OpenSpec.ofChange libraryKindsSpec)) libraryKindsCard

/-- THE SECOND FORM's CARD OF 'keysmithlaw28.LibraryKinds'. -/
def libraryKindsUptoCard : Claim7 := { stood := { row := libraryKindsUptoRow, standIns := [], harness := (true, "c6dfe436515bb85940aedfd53352dfc11067a417ccd42119d6c3c4152a5fa113"), looks := true }, kinds := [], alts := [], laidByText := true, laidKinds := [.data, .pinned], laidTests := true, laidLooks := .later }
def LibraryKindsUptoCardSaid : Prop := Claim7.holds Tryz.pinned (.plain (OpenSpec.upto libraryKindsSpec)) libraryKindsUptoCard
end Rows
end Go.Proofs.YtclndhhiccdjnaaGreatDoor
