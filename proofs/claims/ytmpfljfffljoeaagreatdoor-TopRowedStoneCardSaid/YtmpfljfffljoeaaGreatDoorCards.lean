/-
  DERIVED. GIVEN WITH THE SEED: THE CARDS: each row of YtmpfljfffljoeaaGreatDoorRows.lean that lists a variable, with what it lists TIED to the program's text (the seventh form; the later family's looks); each row that meets fmt, with fmt's text TOLD by the authors' own Lean function (tested against real Go, not proved from fmt's source: count such statements apart). THE CARD IS WHAT COUNTS. Prove the row's statement (the work); the ties are given (YtmpfljfffljoeaaGreatDoorTie.lean); close each card by the builder's one call (the guide's Derived/Test/ToyasCard.lean, 'card_holds'). Laid BY PROGRAM, IN A SANDBOX (cutbox-door.mjs). By AI agents, Wed Nov 11 2026. No macro, syntax, notation, axiom, sorry.
-/
import Derived.Test.YtmpfljfffljoeaaGreatDoorRows
import GoSem.ClaimSeven
namespace Go.Proofs.YtmpfljfffljoeaaGreatDoor
namespace Rows

/-- THE TIED CARD OF 'porringertop.TopNumberedStone'. -/
def topNumberedStoneCard : Claim7 := { stood := { row := topNumberedStoneRow, standIns := [], harness := (true, "be8ca07a08037611864179039b22b77f0359fbd3183093a8ffc4c057e4db87c4"), looks := false }, kinds := [], alts := [], laidByText := true, laidKinds := [.data, .pinned], laidTests := true, laidLooks := .later }
def TopNumberedStoneCardSaid : Prop := Claim7.holds Tryz.pinned (.plain (OpenSpec.ofChange topNumberedStoneSpec)) topNumberedStoneCard

/-- THE TIED CARD OF 'porringertop.TopRowedStone'. -/
def topRowedStoneCard : Claim7 := { stood := { row := topRowedStoneRow, standIns := [], harness := (true, "be8ca07a08037611864179039b22b77f0359fbd3183093a8ffc4c057e4db87c4"), looks := false }, kinds := [], alts := [], laidByText := true, laidKinds := [.data, .pinned], laidTests := true, laidLooks := .later }
def TopRowedStoneCardSaid : Prop := Claim7.holds Tryz.pinned (.plain (OpenSpec.ofChange topRowedStoneSpec)) topRowedStoneCard

/-- THE SECOND FORM's CARD OF 'porringertop.TopNumberedStone'. -/
def topNumberedStoneUptoCard : Claim7 := { stood := { row := topNumberedStoneUptoRow, standIns := [], harness := (true, "be8ca07a08037611864179039b22b77f0359fbd3183093a8ffc4c057e4db87c4"), looks := false }, kinds := [], alts := [], laidByText := true, laidKinds := [.data, .pinned], laidTests := true, laidLooks := .later }
def TopNumberedStoneUptoCardSaid : Prop := Claim7.holds Tryz.pinned (.plain (OpenSpec.upto topNumberedStoneSpec)) topNumberedStoneUptoCard

/-- THE SECOND FORM's CARD OF 'porringertop.TopRowedStone'. -/
def topRowedStoneUptoCard : Claim7 := { stood := { row := topRowedStoneUptoRow, standIns := [], harness := (true, "be8ca07a08037611864179039b22b77f0359fbd3183093a8ffc4c057e4db87c4"), looks := false }, kinds := [], alts := [], laidByText := true, laidKinds := [.data, .pinned], laidTests := true, laidLooks := .later }
def TopRowedStoneUptoCardSaid : Prop := Claim7.holds Tryz.pinned (.plain (OpenSpec.upto topRowedStoneSpec)) topRowedStoneUptoCard
end Rows
end Go.Proofs.YtmpfljfffljoeaaGreatDoor
