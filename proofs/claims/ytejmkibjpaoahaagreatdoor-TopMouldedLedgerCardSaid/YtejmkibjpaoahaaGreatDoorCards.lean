/-
  DERIVED. GIVEN WITH THE SEED: THE CARDS: each row of YtejmkibjpaoahaaGreatDoorRows.lean that lists a variable, with what it lists TIED to the program's text (the seventh form; the later family's looks); each row that meets fmt, with fmt's text TOLD by the authors' own Lean function (tested against real Go, not proved from fmt's source: count such statements apart). THE CARD IS WHAT COUNTS. Prove the row's statement (the work); the ties are given (YtejmkibjpaoahaaGreatDoorTie.lean); close each card by the builder's one call (the guide's Derived/Test/ToyasCard.lean, 'card_holds'). Laid BY PROGRAM, IN A SANDBOX (cutbox-door.mjs). By AI agents, Wed Nov 11 2026. No macro, syntax, notation, axiom, sorry.
-/
import Derived.Test.YtejmkibjpaoahaaGreatDoorRows
import GoSem.ClaimSeven
namespace Go.Proofs.YtejmkibjpaoahaaGreatDoor
namespace Rows

/-- THE TIED CARD OF 'porringertop.TopMouldedLedger'. -/
def topMouldedLedgerCard : Claim7 := { stood := { row := topMouldedLedgerRow, standIns := [], harness := (true, "d42ee5b65e1b53760b3b6fffc57b52c8dd88e810e4f2e613d548304e31caf40c"), looks := true }, kinds := [], alts := [], laidByText := true, laidKinds := [.data, .data, .data, .data, .sentinel, .sentinel, .pinned], laidTests := true, laidLooks := .later }
def TopMouldedLedgerCardSaid : Prop := Claim7.holds Tryz.pinned (.plain (OpenSpec.ofChange topMouldedLedgerSpec)) topMouldedLedgerCard

/-- THE TIED CARD OF 'porringertop.TopMeltedLedger'. -/
def topMeltedLedgerCard : Claim7 := { stood := { row := topMeltedLedgerRow, standIns := [], harness := (true, "d42ee5b65e1b53760b3b6fffc57b52c8dd88e810e4f2e613d548304e31caf40c"), looks := true }, kinds := [], alts := [], laidByText := true, laidKinds := [.data, .data, .data, .data, .sentinel, .sentinel, .pinned], laidTests := true, laidLooks := .later }
def TopMeltedLedgerCardSaid : Prop := Claim7.holds Tryz.pinned (.plain (OpenSpec.ofChange topMeltedLedgerSpec)) topMeltedLedgerCard

/-- THE TIED CARD OF 'porringertop.TopRimmedLedger'. -/
def topRimmedLedgerCard : Claim7 := { stood := { row := topRimmedLedgerRow, standIns := [], harness := (true, "d42ee5b65e1b53760b3b6fffc57b52c8dd88e810e4f2e613d548304e31caf40c"), looks := true }, kinds := [], alts := [], laidByText := true, laidKinds := [.data, .data, .data, .data, .sentinel, .sentinel, .pinned], laidTests := true, laidLooks := .later }
def TopRimmedLedgerCardSaid : Prop := Claim7.holds Tryz.pinned (.plain (OpenSpec.ofChange topRimmedLedgerSpec)) topRimmedLedgerCard

/-- THE SECOND FORM's CARD OF 'porringertop.TopMouldedLedger'. -/
def topMouldedLedgerUptoCard : Claim7 := { stood := { row := topMouldedLedgerUptoRow, standIns := [], harness := (true, "d42ee5b65e1b53760b3b6fffc57b52c8dd88e810e4f2e613d548304e31caf40c"), looks := true }, kinds := [], alts := [], laidByText := true, laidKinds := [.data, .data, .data, .data, .sentinel, .sentinel, .pinned], laidTests := true, laidLooks := .later }
def TopMouldedLedgerUptoCardSaid : Prop := Claim7.holds Tryz.pinned (.plain (OpenSpec.upto topMouldedLedgerSpec)) topMouldedLedgerUptoCard

/-- THE SECOND FORM's CARD OF 'porringertop.TopMeltedLedger'. -/
def topMeltedLedgerUptoCard : Claim7 := { stood := { row := topMeltedLedgerUptoRow, standIns := [], harness := (true, "d42ee5b65e1b53760b3b6fffc57b52c8dd88e810e4f2e613d548304e31caf40c"), looks := true }, kinds := [], alts := [], laidByText := true, laidKinds := [.data, .data, .data, .data, .sentinel, .sentinel, .pinned], laidTests := true, laidLooks := .later }
def TopMeltedLedgerUptoCardSaid : Prop := Claim7.holds Tryz.pinned (.plain (OpenSpec.upto topMeltedLedgerSpec)) topMeltedLedgerUptoCard

/-- THE SECOND FORM's CARD OF 'porringertop.TopRimmedLedger'. -/
def topRimmedLedgerUptoCard : Claim7 := { stood := { row := topRimmedLedgerUptoRow, standIns := [], harness := (true, "d42ee5b65e1b53760b3b6fffc57b52c8dd88e810e4f2e613d548304e31caf40c"), looks := true }, kinds := [], alts := [], laidByText := true, laidKinds := [.data, .data, .data, .data, .sentinel, .sentinel, .pinned], laidTests := true, laidLooks := .later }
def TopRimmedLedgerUptoCardSaid : Prop := Claim7.holds Tryz.pinned (.plain (OpenSpec.upto topRimmedLedgerSpec)) topRimmedLedgerUptoCard
end Rows
end Go.Proofs.YtejmkibjpaoahaaGreatDoor
