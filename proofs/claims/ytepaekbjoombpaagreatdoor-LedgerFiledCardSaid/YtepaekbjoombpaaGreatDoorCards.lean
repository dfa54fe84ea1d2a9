/-
  DERIVED. GIVEN WITH THE SEED: THE CARDS: each row of YtepaekbjoombpaaGreatDoorRows.lean that lists a variable, with what it lists TIED to the program's text (the seventh form; the later family's looks); each row that meets fmt, with fmt's text TOLD by the authors' own Lean function (tested against real Go, not proved from fmt's source: count such statements apart). THE CARD IS WHAT COUNTS. Prove the row's statement (the work); the ties are given (YtepaekbjoombpaaGreatDoorTie.lean); close each card by the builder's one call (the guide's Derived/Test/ToyasCard.lean, 'card_holds'). Laid BY PROGRAM, IN A SANDBOX (cutbox-door.mjs). By AI agents, Wed Nov 11 2026. No macro, syntax, notation, axiom, sorry.
-/
import Derived.Test.YtepaekbjoombpaaGreatDoorRows
import GoSem.ClaimSeven
namespace Go.Proofs.YtepaekbjoombpaaGreatDoor
namespace Rows

/-- THE TIED CARD OF 'porringerlaw12.LedgerBooks'. -/
def ledgerBooksCard : Claim7 := { stood := { row := ledgerBooksRow, standIns := [], harness := (true, "2aa3340013a6fad92cf2575ce3a21ef53df19b5cf3bf92be2ab210bb05281df7"), looks := true }, kinds := [], alts := [], laidByText := true, laidKinds := [.data, .data, .data, .data, .sentinel, .sentinel, .pinned], laidTests := true, laidLooks := .later }
def LedgerBooksCardSaid : Prop := Claim7.holds Tryz.pinned (.plain (OpenSpec.ofChange ledgerBooksSpec)) ledgerBooksCard

/-- THE TIED CARD OF 'porringerlaw12.LedgerBalances'. -/
def ledgerBalancesCard : Claim7 := { stood := { row := ledgerBalancesRow, standIns := [], harness := (true, "2aa3340013a6fad92cf2575ce3a21ef53df19b5cf3bf92be2ab210bb05281df7"), looks := true }, kinds := [], alts := [], laidByText := true, laidKinds := [.data, .data, .data, .data, .sentinel, .sentinel, .pinned], laidTests := true, laidLooks := .later }
def LedgerBalancesCardSaid : Prop := Claim7.holds Tryz.pinned (.plain (OpenSpec.ofChange ledgerBalancesSpec)) ledgerBalancesCard

/-- THE TIED CARD OF 'porringerlaw12.LedgerSigns'. -/
def ledgerSignsCard : Claim7 := { stood := { row := ledgerSignsRow, standIns := [], harness := (true, "2aa3340013a6fad92cf2575ce3a21ef53df19b5cf3bf92be2ab210bb05281df7"), looks := true }, kinds := [], alts := [], laidByText := true, laidKinds := [.data, .data, .data, .data, .sentinel, .sentinel, .pinned], laidTests := true, laidLooks := .later }
def LedgerSignsCardSaid : Prop := Claim7.holds Tryz.pinned (.plain (OpenSpec.ofChange ledgerSignsSpec)) ledgerSignsCard

/-- THE TIED CARD OF 'porringerlaw12.LedgerFiles'. -/
def ledgerFilesCard : Claim7 := { stood := { row := ledgerFilesRow, standIns := [], harness := (true, "2aa3340013a6fad92cf2575ce3a21ef53df19b5cf3bf92be2ab210bb05281df7"), looks := true }, kinds := [], alts := [], laidByText := true, laidKinds := [.data, .data, .data, .data, .sentinel, .sentinel, .pinned], laidTests := true, laidLooks := .later }
def LedgerFilesCardSaid : Prop := Claim7.holds Tryz.pinned (.plain (OpenSpec.ofChange ledgerFilesSpec)) ledgerFilesCard

/-- THE TIED CARD OF 'porringerlaw12.LedgerBalanced'. -/
def ledgerBalancedCard : Claim7 := { stood := { row := ledgerBalancedRow, standIns := [], harness := (true, "2aa3340013a6fad92cf2575ce3a21ef53df19b5cf3bf92be2ab210bb05281df7"), looks := true }, kinds := [], alts := [], laidByText := true, laidKinds := [.data, .data, .data, .data, .sentinel, .sentinel, .pinned], laidTests := true, laidLooks := .later }
def LedgerBalancedCardSaid : Prop := Claim7.holds Tryz.pinned (.plain (OpenSpec.ofChange ledgerBalancedSpec)) ledgerBalancedCard

/-- THE TIED CARD OF 'porringerlaw12.LedgerBack'. -/
def ledgerBackCard : Claim7 := { stood := { row := ledgerBackRow, standIns := [], harness := (true, "2aa3340013a6fad92cf2575ce3a21ef53df19b5cf3bf92be2ab210bb05281df7"), looks := true }, kinds := [], alts := [], laidByText := true, laidKinds := [.data, .data, .data, .data, .sentinel, .sentinel, .pinned], laidTests := true, laidLooks := .later }
def LedgerBackCardSaid : Prop := Claim7.holds Tryz.pinned (.plain (OpenSpec.ofChange ledgerBackSpec)) ledgerBackCard

/-- THE TIED CARD OF 'porringerlaw12.LedgerClosed'. -/
def ledgerClosedCard : Claim7 := { stood := { row := ledgerClosedRow, standIns := [], harness := (true, "2aa3340013a6fad92cf2575ce3a21ef53df19b5cf3bf92be2ab210bb05281df7"), looks := true }, kinds := [], alts := [], laidByText := true, laidKinds := [.data, .data, .data, .data, .sentinel, .sentinel, .pinned], laidTests := true, laidLooks := .later }
def LedgerClosedCardSaid : Prop := Claim7.holds Tryz.pinned (.plain (OpenSpec.ofChange ledgerClosedSpec)) ledgerClosedCard

/-- THE TIED CARD OF 'porringerlaw12.LedgerOrder'. -/
def ledgerOrderCard : Claim7 := { stood := { row := ledgerOrderRow, standIns := [], harness := (true, "2aa3340013a6fad92cf2575ce3a21ef53df19b5cf3bf92be2ab210bb05281df7"), looks := true }, kinds := [], alts := [], laidByText := true, laidKinds := [.data, .data, .data, .data, .sentinel, .sentinel, .pinned], laidTests := true, laidLooks := .later }
def LedgerOrderCardSaid : Prop := Claim7.holds Tryz.pinned (.plain (OpenSpec.ofChange ledgerOrderSpec)) ledgerOrderCard

/-- THE TIED CARD OF 'porringerlaw12.LedgerSigned'. -/
def ledgerSignedCard : Claim7 := { stood := { row := ledgerSignedRow, standIns := [], harness := (true, "2aa3340013a6fad92cf2575ce3a21ef53df19b5cf3bf92be2ab210bb05281df7"), looks := true }, kinds := [], alts := [], laidByText := true, laidKinds := [.data, .data, .data, .data, .sentinel, .sentinel, .pinned], laidTests := true, laidLooks := .later }
def LedgerSignedCardSaid : Prop := Claim7.holds Tryz.pinned (.plain (OpenSpec.ofChange ledgerSignedSpec)) ledgerSignedCard

/-- THE TIED CARD OF 'porringerlaw12.LedgerFiled'. -/
def ledgerFiledCard : Claim7 := { stood := { row := ledgerFiledRow, standIns := [], harness := (true, "2aa3340013a6fad92cf2575ce3a21ef53df19b5cf3bf92be2ab210bb05281df7"), looks := true }, kinds := [], alts := [], laidByText := true, laidKinds := [.data, .data, .data, .data, .sentinel, .sentinel, .pinned], laidTests := true, laidLooks := .later }
def LedgerFiledCardSaid : Prop := Claim7.holds Tryz.pinned (.plain (OpenSpec.ofChange ledgerFiledSpec)) ledgerFiledCard

/-- THE TIED CARD OF 'porringerlaw12.LedgerTurned'. -/
def ledgerTurnedCard : Claim7 := { stood := { row := ledgerTurnedRow, standIns := [], harness := (true, "2aa3340013a6fad92cf2575ce3a21ef53df19b5cf3bf92be2ab210bb05281df7"), looks := true }, kinds := [], alts := [], laidByText := true, laidKinds := [.data, .data, .data, .data, .sentinel, .sentinel, .pinned], laidTests := true, laidLooks := .later }
def LedgerTurnedCardSaid : Prop := Claim7.holds Tryz.pinned (.plain (OpenSpec.ofChange ledgerTurnedSpec)) ledgerTurnedCard

/-- THE TIED CARD OF 'porringerlaw12.LedgerKnown'. -/
def ledgerKnownCard : Claim7 := { stood := { row := ledgerKnownRow, standIns := [], harness := (true, "2aa3340013a6fad92cf2575ce3a21ef53df19b5cf3bf92be2ab210bb05281df7"), looks := true }, kinds := [], alts := [], laidByText := true, laidKinds := [.data, .data, .data, .data, .sentinel, .sentinel, .pinned], laidTests := true, laidLooks := .later }
def LedgerKnownCardSaid : Prop := Claim7.holds Tryz.pinned (.plain (OpenSpec.ofChange ledgerKnownSpec)) ledgerKnownCard

/-- THE TIED CARD OF 'porringerlaw12.LedgerSettles'. -/
def ledgerSettlesCard : Claim7 := { stood := { row := ledgerSettlesRow, standIns := [], harness := (true, "2aa3340013a6fad92cf2575ce3a21ef53df19b5cf3bf92be2ab210bb05281df7"), looks := true }, kinds := [], alts := [], laidByText := true, laidKinds := [.data, .data, .data, .data, .sentinel, .sentinel, .pinned], laidTests := true, laidLooks := .later }
def LedgerSettlesCardSaid : Prop := Claim7.holds Tryz.pinned (.plain (OpenSpec.ofChange ledgerSettlesSpec)) ledgerSettlesCard

/-- THE TIED CARD OF 'porringerlaw12.LedgerSettled'. -/
def ledgerSettledCard : Claim7 := { stood := { row := ledgerSettledRow, standIns := [], harness := (true, "2aa3340013a6fad92cf2575ce3a21ef53df19b5cf3bf92be2ab210bb05281df7"), looks := true }, kinds := [], alts := [], laidByText := true, laidKinds := [.data, .data, .data, .data, .sentinel, .sentinel, .pinned], laidTests := true, laidLooks := .later }
def LedgerSettledCardSaid : Prop := Claim7.holds Tryz.pinned (.plain (OpenSpec.ofChange ledgerSettledSpec)) ledgerSettledCard

/-- THE SECOND FORM's CARD OF 'porringerlaw12.LedgerBooks'. -/
def ledgerBooksUptoCard : Claim7 := { stood := { row := ledgerBooksUptoRow, standIns := [], harness := (true, "2aa3340013a6fad92cf2575ce3a21ef53df19b5cf3bf92be2ab210bb05281df7"), looks := true }, kinds := [], alts := [], laidByText := true, laidKinds := [.data, .data, .data, .data, .sentinel, .sentinel, .pinned], laidTests := true, laidLooks := .later }
def LedgerBooksUptoCardSaid : Prop := Claim7.holds Tryz.pinned (.plain (OpenSpec.upto ledgerBooksSpec)) ledgerBooksUptoCard

/-- THE SECOND FORM's CARD OF 'porringerlaw12.LedgerBalances'. -/
def ledgerBalancesUptoCard : Claim7 := { stood := { row := ledgerBalancesUptoRow, standIns := [], harness := (true, "2aa3340013a6fad92cf2575ce3a21ef53df19b5cf3bf92be2ab210bb05281df7"), looks := true }, kinds := [], alts := [], laidByText := true, laidKinds := [.data, .data, .data, .data, .sentinel, .sentinel, .pinned], laidTests := true, laidLooks := .later }
def LedgerBalancesUptoCardSaid : Prop := Claim7.holds Tryz.pinned (.plain (OpenSpec.upto ledgerBalancesSpec)) ledgerBalancesUptoCard

/-- THE SECOND FORM's CARD OF 'porringerlaw12.LedgerSigns'. -/
def ledgerSignsUptoCard : Claim7 := { stood := { row := ledgerSignsUptoRow, standIns := [], harness := (true, "2aa3340013a6fad92cf2575ce3a21ef53df19b5cf3bf92be2ab210bb05281df7"), looks := true }, kinds := [], alts := [], laidByText := true, laidKinds := [.data, .data, .data, .data, .sentinel, .sentinel, .pinned], laidTests := true, laidLooks := .later }
def LedgerSignsUptoCardSaid : Prop := Claim7.holds Tryz.pinned (.plain (OpenSpec.upto ledgerSignsSpec)) ledgerSignsUptoCard

/-- THE SECOND FORM's CARD OF 'porringerlaw12.LedgerFiles'. -/
def ledgerFilesUptoCard : Claim7 := { stood := { row := ledgerFilesUptoRow, standIns := [], harness := (true, "2aa3340013a6fad92cf2575ce3a21ef53df19b5cf3bf92be2ab210bb05281df7"), looks := true }, kinds := [], alts := [], laidByText := true, laidKinds := [.data, .data, .data, .data, .sentinel, .sentinel, .pinned], laidTests := true, laidLooks := .later }
def LedgerFilesUptoCardSaid : Prop := Claim7.holds Tryz.pinned (.plain (OpenSpec.upto ledgerFilesSpec)) ledgerFilesUptoCard

/-- THE SECOND FORM's CARD OF 'porringerlaw12.LedgerBalanced'. -/
def ledgerBalancedUptoCard : Claim7 := { stood := { row := ledgerBalancedUptoRow, standIns := [], harness := (true, "2aa3340013a6fad92cf2575ce3a21ef53df19b5cf3bf92be2ab210bb05281df7"), looks := true }, kinds := [], alts := [], laidByText := true, laidKinds := [.data, .data, .data, .data, .sentinel, .sentinel, .pinned], laidTests := true, laidLooks := .later }
def LedgerBalancedUptoCardSaid : Prop := Claim7.holds Tryz.pinned (.plain (OpenSpec.upto ledgerBalancedSpec)) ledgerBalancedUptoCard

/-- THE SECOND FORM's CARD OF 'porringerlaw12.LedgerBack'. -/
def ledgerBackUptoCard : Claim7 := { stood := { row := ledgerBackUptoRow, standIns := [], harness := (true, "2aa3340013a6fad92cf2575ce3a21ef53df19b5cf3bf92be2ab210bb05281df7"), looks := true }, kinds := [], alts := [], laidByText := true, laidKinds := [.data, .data, .data, .data, .sentinel, .sentinel, .pinned], laidTests := true, laidLooks := .later }
def LedgerBackUptoCardSaid : Prop := Claim7.holds Tryz.pinned (.plain (OpenSpec.upto ledgerBackSpec)) ledgerBackUptoCard

/-- THE SECOND FORM's CARD OF 'porringerlaw12.LedgerClosed'. -/
def ledgerClosedUptoCard : Claim7 := { stood := { row := ledgerClosedUptoRow, standIns := [], harness := (true, "2aa3340013a6fad92cf2575ce3a21ef53df19b5cf3bf92be2ab210bb05281df7"), looks := true }, kinds := [], alts := [], laidByText := true, laidKinds := [.data, .data, .data, .data, .sentinel, .sentinel, .pinned], laidTests := true, laidLooks := .later }
def LedgerClosedUptoCardSaid : Prop := Claim7.holds Tryz.pinned (.plain (OpenSpec.upto ledgerClosedSpec)) ledgerClosedUptoCard

/-- THE SECOND FORM's CARD OF 'porringerlaw12.LedgerOrder'. -/
def ledgerOrderUptoCard : Claim7 := { stood := { row := ledgerOrderUptoRow, standIns := [], harness := (true, "2aa3340013a6fad92cf2575ce3a21ef53df19b5cf3bf92be2ab210bb05281df7"), looks := true }, kinds := [], alts := [], laidByText := true, laidKinds := [.data, .data, .data, .data, .sentinel, .sentinel, .pinned], laidTests := true, laidLooks := .later }
def LedgerOrderUptoCardSaid : Prop := Claim7.holds Tryz.pinned (.plain (OpenSpec.upto ledgerOrderSpec)) ledgerOrderUptoCard

/-- THE SECOND FORM's CARD OF 'porringerlaw12.LedgerSigned'. -/
def ledgerSignedUptoCard : Claim7 := { stood := { row := ledgerSignedUptoRow, standIns := [], harness := (true, "2aa3340013a6fad92cf2575ce3a21ef53df19b5cf3bf92be2ab210bb05281df7"), looks := true }, kinds := [], alts := [], laidByText := true, laidKinds := [.data, .data, .data, .data, .sentinel, .sentinel, .pinned], laidTests := true, laidLooks := .later }
def LedgerSignedUptoCardSaid : Prop := Claim7.holds Tryz.pinned (.plain (OpenSpec.upto ledgerSignedSpec)) ledgerSignedUptoCard

/-- THE SECOND FORM's CARD OF 'porringerlaw12.LedgerFiled'. -/
def ledgerFiledUptoCard : Claim7 := { stood := { row := ledgerFiledUptoRow, standIns := [], harness := (true, "2aa3340013a6fad92cf2575ce3a21ef53df19b5cf3bf92be2ab210bb05281df7"), looks := true }, kinds := [], alts := [], laidByText := true, laidKinds := [.data, .data, .data, .data, .sentinel, .sentinel, .pinned], laidTests := true, laidLooks := .later }
def LedgerFiledUptoCardSaid : Prop := Claim7.holds Tryz.pinned (.plain (OpenSpec.upto ledgerFiledSpec)) ledgerFiledUptoCard

/-- THE SECOND FORM's CARD OF 'porringerlaw12.LedgerTurned'. -/
def ledgerTurnedUptoCard : Claim7 := { stood := { row := ledgerTurnedUptoRow, standIns := [], harness := (true, "2aa3340013a6fad92cf2575ce3a21ef53df19b5cf3bf92be2ab210bb05281df7"), looks := true }, kinds := [], alts := [], laidByText := true, laidKinds := [.data, .data, .data, .data, .sentinel, .sentinel, .pinned], laidTests := true, laidLooks := .later }
def LedgerTurnedUptoCardSaid : Prop := Claim7.holds Tryz.pinned (.plain (OpenSpec.upto ledgerTurnedSpec)) ledgerTurnedUptoCard

/-- THE SECOND FORM's CARD OF 'porringerlaw12.LedgerKnown'. -/
def ledgerKnownUptoCard : Claim7 := { stood := { row := ledgerKnownUptoRow, standIns := [], harness := (true, "2aa3340013a6fad92cf2575ce3a21ef53df19b5cf3bf92be2ab210bb05281df7"), looks := true }, kinds := [], alts := [], laidByText := true, laidKinds := [.data, .data, .data, .data, .sentinel, .sentinel, .pinned], laidTests := true, laidLooks := .later }
def LedgerKnownUptoCardSaid : Prop := Claim7.holds Tryz.pinned (.plain (OpenSpec.upto ledgerKnownSpec)) ledgerKnownUptoCard

/-- THE SECOND FORM's CARD OF 'porringerlaw12.LedgerSettles'. -/
def ledgerSettlesUptoCard : Claim7 := { stood := { row := ledgerSettlesUptoRow, standIns := [], harness := (true, "2aa3340013a6fad92cf2575ce3a21ef53df19b5cf3bf92be2ab210bb05281df7"), looks := true }, kinds := [], alts := [], laidByText := true, laidKinds := [.data, .data, .data, .data, .sentinel, .sentinel, .pinned], laidTests := true, laidLooks := .later }
def LedgerSettlesUptoCardSaid : Prop := Claim7.holds Tryz.pinned (.plain (OpenSpec.upto ledgerSettlesSpec)) ledgerSettlesUptoCard

/-- THE SECOND FORM's CARD OF 'porringerlaw12.LedgerSettled'. -/
def ledgerSettledUptoCard : Claim7 := { stood := { row := ledgerSettledUptoRow, standIns := [], harness := (true, "2aa3340013a6fad92cf2575ce3a21ef53df19b5cf3bf92be2ab210bb05281df7"), looks := true }, kinds := [], alts := [], laidByText := true, laidKinds := [.data, .data, .data, .data, .sentinel, .sentinel, .pinned], laidTests := true, laidLooks := .later }
def LedgerSettledUptoCardSaid : Prop := Claim7.holds Tryz.pinned (.plain (OpenSpec.upto ledgerSettledSpec)) ledgerSettledUptoCard
end Rows
end Go.Proofs.YtepaekbjoombpaaGreatDoor
