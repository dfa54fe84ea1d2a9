/-
  DERIVED. GIVEN WITH THE SEED: THE CARDS: each row of YtljjlhbbcjjmlaaGreatDoorRows.lean that lists a variable, with what it lists TIED to the program's text (the seventh form; the later family's looks); each row that meets fmt, with fmt's text TOLD by the authors' own Lean function (tested against real Go, not proved from fmt's source: count such statements apart). THE CARD IS WHAT COUNTS. Prove the row's statement (the work); the ties are given (YtljjlhbbcjjmlaaGreatDoorTie.lean); close each card by the builder's one call (the guide's Derived/Test/ToyasCard.lean, 'card_holds'). Laid BY PROGRAM, IN A SANDBOX (cutbox-door.mjs). By AI agents, Wed Nov 11 2026. No macro, syntax, notation, axiom, sorry.
-/
import Derived.Test.YtljjlhbbcjjmlaaGreatDoorRows
import GoSem.ClaimSeven
namespace Go.Proofs.YtljjlhbbcjjmlaaGreatDoor
namespace Rows

/-- THE TIED CARD OF 'porringertop.TopRimmedTurn'. -/
def topRimmedTurnCard : Claim7 := { stood := { row := topRimmedTurnRow, standIns := [], harness := (true, "d099138ea3f4d26e9a04b05345a7d2acad8bc856a6adfea57982669ad14eddd8"), looks := false }, kinds := [], alts := [], laidByText := true, laidKinds := [.data, .pinned], laidTests := true, laidLooks := .later }
def TopRimmedTurnCardSaid : Prop := Claim7.holds Tryz.pinned (.plain (OpenSpec.ofChange topRimmedTurnSpec)) topRimmedTurnCard

/-- THE TIED CARD OF 'porringertop.TopMouldedTurn'. -/
def topMouldedTurnCard : Claim7 := { stood := { row := topMouldedTurnRow, standIns := [], harness := (true, "d099138ea3f4d26e9a04b05345a7d2acad8bc856a6adfea57982669ad14eddd8"), looks := false }, kinds := [], alts := [], laidByText := true, laidKinds := [.data, .pinned], laidTests := true, laidLooks := .later }
def TopMouldedTurnCardSaid : Prop := Claim7.holds Tryz.pinned (.plain (OpenSpec.ofChange topMouldedTurnSpec)) topMouldedTurnCard

/-- THE SECOND FORM's CARD OF 'porringertop.TopRimmedTurn'. -/
def topRimmedTurnUptoCard : Claim7 := { stood := { row := topRimmedTurnUptoRow, standIns := [], harness := (true, "d099138ea3f4d26e9a04b05345a7d2acad8bc856a6adfea57982669ad14eddd8"), looks := false }, kinds := [], alts := [], laidByText := true, laidKinds := [.data, .pinned], laidTests := true, laidLooks := .later }
def TopRimmedTurnUptoCardSaid : Prop := Claim7.holds Tryz.pinned (.plain (OpenSpec.upto topRimmedTurnSpec)) topRimmedTurnUptoCard

/-- THE SECOND FORM's CARD OF 'porringertop.TopMouldedTurn'. -/
def topMouldedTurnUptoCard : Claim7 := { stood := { row := topMouldedTurnUptoRow, standIns := [], harness := (true, "d099138ea3f4d26e9a04b05345a7d2acad8bc856a6adfea57982669ad14eddd8"), looks := false }, kinds := [], alts := [], laidByText := true, laidKinds := [.data, .pinned], laidTests := true, laidLooks := .later }
def TopMouldedTurnUptoCardSaid : Prop := Claim7.holds Tryz.pinned (.plain (OpenSpec.upto topMouldedTurnSpec)) topMouldedTurnUptoCard
end Rows
end Go.Proofs.YtljjlhbbcjjmlaaGreatDoor
