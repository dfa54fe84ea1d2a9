/-
  DERIVED. GIVEN WITH THE SEED: THE CARDS: each row of YtafemfjhflfdeaaDoorRows.lean that lists a variable, with what it lists TIED to the program's text (the seventh form; the later family's looks); each row that meets fmt, with fmt's text TOLD by the authors' own Lean function (tested against real Go, not proved from fmt's source: count such statements apart). THE CARD IS WHAT COUNTS. Prove the row's statement (the work); the ties are given (YtafemfjhflfdeaaDoorTie.lean); close each card by the builder's one call (the guide's Derived/Test/ToyasCard.lean, 'card_holds'). Laid BY PROGRAM, IN A SANDBOX (cutbox-door.mjs). By AI agents, Wed Nov 11 2026. No macro, syntax, notation, axiom, sorry.
-/
import Derived.Test.YtafemfjhflfdeaaDoorRows
import GoSem.ClaimSeven
namespace Go.Proofs.YtafemfjhflfdeaaDoor
namespace Rows

/-- THE TIED CARD OF 'porringerlaw07.HeatMoulds'. -/
def heatMouldsCard : Claim7 := { stood := { row := heatMouldsRow, standIns := [], harness := (true, "bc8726acb983071f89b62a2fe24b8370b29588b2cbc97bd97225a90a22e5b3c7"), looks := false }, kinds := [], alts := [], laidByText := true, laidKinds := [.data, .pinned], laidTests := true, laidLooks := .later }
def HeatMouldsCardSaid : Prop := Claim7.holds Tryd.pinned (.plain (OpenSpec.ofChange heatMouldsSpec)) heatMouldsCard

/-- THE TIED CARD OF 'porringerlaw07.HeatPlans'. -/
def heatPlansCard : Claim7 := { stood := { row := heatPlansRow, standIns := [], harness := (true, "bc8726acb983071f89b62a2fe24b8370b29588b2cbc97bd97225a90a22e5b3c7"), looks := false }, kinds := [], alts := [], laidByText := true, laidKinds := [.data, .pinned], laidTests := true, laidLooks := .later }
def HeatPlansCardSaid : Prop := Claim7.holds Tryd.pinned (.plain (OpenSpec.ofChange heatPlansSpec)) heatPlansCard

/-- THE TIED CARD OF 'porringerlaw07.HeatLabels'. -/
def heatLabelsCard : Claim7 := { stood := { row := heatLabelsRow, standIns := [], harness := (true, "bc8726acb983071f89b62a2fe24b8370b29588b2cbc97bd97225a90a22e5b3c7"), looks := false }, kinds := [], alts := [], laidByText := true, laidKinds := [.data, .pinned], laidTests := true, laidLooks := .later }
def HeatLabelsCardSaid : Prop := Claim7.holds Tryd.pinned (.plain (OpenSpec.ofChange heatLabelsSpec)) heatLabelsCard

/-- THE TIED CARD OF 'porringerlaw07.HeatRounds'. -/
def heatRoundsCard : Claim7 := { stood := { row := heatRoundsRow, standIns := [], harness := (true, "bc8726acb983071f89b62a2fe24b8370b29588b2cbc97bd97225a90a22e5b3c7"), looks := false }, kinds := [], alts := [], laidByText := true, laidKinds := [.data, .pinned], laidTests := true, laidLooks := .later }
def HeatRoundsCardSaid : Prop := Claim7.holds Tryd.pinned (.plain (OpenSpec.ofChange heatRoundsSpec)) heatRoundsCard

/-- THE TIED CARD OF 'porringerlaw07.HeatSures'. -/
def heatSuresCard : Claim7 := { stood := { row := heatSuresRow, standIns := [], harness := (true, "bc8726acb983071f89b62a2fe24b8370b29588b2cbc97bd97225a90a22e5b3c7"), looks := false }, kinds := [], alts := [], laidByText := true, laidKinds := [.data, .pinned], laidTests := true, laidLooks := .later }
def HeatSuresCardSaid : Prop := Claim7.holds Tryd.pinned (.plain (OpenSpec.ofChange heatSuresSpec)) heatSuresCard

/-- THE TIED CARD OF 'porringerlaw07.HeatProved'. -/
def heatProvedCard : Claim7 := { stood := { row := heatProvedRow, standIns := [], harness := (true, "bc8726acb983071f89b62a2fe24b8370b29588b2cbc97bd97225a90a22e5b3c7"), looks := false }, kinds := [], alts := [], laidByText := true, laidKinds := [.data, .pinned], laidTests := true, laidLooks := .later }
def HeatProvedCardSaid : Prop := Claim7.holds Tryd.pinned (.plain (OpenSpec.ofChange heatProvedSpec)) heatProvedCard

/-- THE TIED CARD OF 'porringerlaw07.HeatEither'. -/
def heatEitherCard : Claim7 := { stood := { row := heatEitherRow, standIns := [], harness := (true, "bc8726acb983071f89b62a2fe24b8370b29588b2cbc97bd97225a90a22e5b3c7"), looks := false }, kinds := [], alts := [], laidByText := true, laidKinds := [.data, .pinned], laidTests := true, laidLooks := .later }
def HeatEitherCardSaid : Prop := Claim7.holds Tryd.pinned (.plain (OpenSpec.ofChange heatEitherSpec)) heatEitherCard

/-- THE TIED CARD OF 'porringerlaw07.HeatHotter'. -/
def heatHotterCard : Claim7 := { stood := { row := heatHotterRow, standIns := [], harness := (true, "bc8726acb983071f89b62a2fe24b8370b29588b2cbc97bd97225a90a22e5b3c7"), looks := false }, kinds := [], alts := [], laidByText := true, laidKinds := [.data, .pinned], laidTests := true, laidLooks := .later }
def HeatHotterCardSaid : Prop := Claim7.holds Tryd.pinned (.plain (OpenSpec.ofChange heatHotterSpec)) heatHotterCard

/-- THE TIED CARD OF 'porringerlaw07.HeatGrown'. -/
def heatGrownCard : Claim7 := { stood := { row := heatGrownRow, standIns := [], harness := (true, "bc8726acb983071f89b62a2fe24b8370b29588b2cbc97bd97225a90a22e5b3c7"), looks := false }, kinds := [], alts := [], laidByText := true, laidKinds := [.data, .pinned], laidTests := true, laidLooks := .later }
def HeatGrownCardSaid : Prop := Claim7.holds Tryd.pinned (.plain (OpenSpec.ofChange heatGrownSpec)) heatGrownCard

/-- THE TIED CARD OF 'porringerlaw07.HeatRate'. -/
def heatRateCard : Claim7 := { stood := { row := heatRateRow, standIns := [], harness := (true, "bc8726acb983071f89b62a2fe24b8370b29588b2cbc97bd97225a90a22e5b3c7"), looks := false }, kinds := [], alts := [], laidByText := true, laidKinds := [.data, .pinned], laidTests := true, laidLooks := .later }
def HeatRateCardSaid : Prop := Claim7.holds Tryd.pinned (.plain (OpenSpec.ofChange heatRateSpec)) heatRateCard

/-- THE TIED CARD OF 'porringerlaw07.HeatWider'. -/
def heatWiderCard : Claim7 := { stood := { row := heatWiderRow, standIns := [], harness := (true, "bc8726acb983071f89b62a2fe24b8370b29588b2cbc97bd97225a90a22e5b3c7"), looks := false }, kinds := [], alts := [], laidByText := true, laidKinds := [.data, .pinned], laidTests := true, laidLooks := .later }
def HeatWiderCardSaid : Prop := Claim7.holds Tryd.pinned (.plain (OpenSpec.ofChange heatWiderSpec)) heatWiderCard

/-- THE TIED CARD OF 'porringerlaw07.HeatSurely'. -/
def heatSurelyCard : Claim7 := { stood := { row := heatSurelyRow, standIns := [], harness := (true, "bc8726acb983071f89b62a2fe24b8370b29588b2cbc97bd97225a90a22e5b3c7"), looks := false }, kinds := [], alts := [], laidByText := true, laidKinds := [.data, .pinned], laidTests := true, laidLooks := .later }
def HeatSurelyCardSaid : Prop := Claim7.holds Tryd.pinned (.plain (OpenSpec.ofChange heatSurelySpec)) heatSurelyCard

/-- THE TIED CARD OF 'porringerlaw07.HeatBegun'. -/
def heatBegunCard : Claim7 := { stood := { row := heatBegunRow, standIns := [], harness := (true, "bc8726acb983071f89b62a2fe24b8370b29588b2cbc97bd97225a90a22e5b3c7"), looks := false }, kinds := [], alts := [], laidByText := true, laidKinds := [.data, .pinned], laidTests := true, laidLooks := .later }
def HeatBegunCardSaid : Prop := Claim7.holds Tryd.pinned (.plain (OpenSpec.ofChange heatBegunSpec)) heatBegunCard

/-- THE TIED CARD OF 'porringerlaw07.HeatKnown'. -/
def heatKnownCard : Claim7 := { stood := { row := heatKnownRow, standIns := [], harness := (true, "bc8726acb983071f89b62a2fe24b8370b29588b2cbc97bd97225a90a22e5b3c7"), looks := false }, kinds := [], alts := [], laidByText := true, laidKinds := [.data, .pinned], laidTests := true, laidLooks := .later }
def HeatKnownCardSaid : Prop := Claim7.holds Tryd.pinned (.plain (OpenSpec.ofChange heatKnownSpec)) heatKnownCard

/-- THE SECOND FORM's CARD OF 'porringerlaw07.HeatMoulds'. -/
def heatMouldsUptoCard : Claim7 := { stood := { row := heatMouldsUptoRow, standIns := [], harness := (true, "bc8726acb983071f89b62a2fe24b8370b29588b2cbc97bd97225a90a22e5b3c7"), looks := false }, kinds := [], alts := [], laidByText := true, laidKinds := [.data, .pinned], laidTests := true, laidLooks := .later }
def HeatMouldsUptoCardSaid : Prop := Claim7.holds Tryd.pinned (.plain (OpenSpec.upto heatMouldsSpec)) heatMouldsUptoCard

/-- THE SECOND FORM's CARD OF 'porringerlaw07.HeatPlans'. -/
def heatPlansUptoCard : Claim7 := { stood := { row := heatPlansUptoRow, standIns := [], harness := (true, "bc8726acb983071f89b62a2fe24b8370b29588b2cbc97bd97225a90a22e5b3c7"), looks := false }, kinds := [], alts := [], laidByText := true, laidKinds := [.data, .pinned], laidTests := true, laidLooks := .later }
def HeatPlansUptoCardSaid : Prop := Claim7.holds Tryd.pinned (.plain (OpenSpec.upto heatPlansSpec)) heatPlansUptoCard

/-- THE SECOND FORM's CARD OF 'porringerlaw07.HeatLabels'. -/
def heatLabelsUptoCard : Claim7 := { stood := { row := heatLabelsUptoRow, standIns := [], harness := (true, "bc8726acb983071f89b62a2fe24b8370b29588b2cbc97bd97225a90a22e5b3c7"), looks := false }, kinds := [], alts := [], laidByText := true, laidKinds := [.data, .pinned], laidTests := true, laidLooks := .later }
def HeatLabelsUptoCardSaid : Prop := Claim7.holds Tryd.pinned (.plain (OpenSpec.upto heatLabelsSpec)) heatLabelsUptoCard

/-- THE SECOND FORM's CARD OF 'porringerlaw07.HeatRounds'. -/
def heatRoundsUptoCard : Claim7 := { stood := { row := heatRoundsUptoRow, standIns := [], harness := (true, "bc8726acb983071f89b62a2fe24b8370b29588b2cbc97bd97225a90a22e5b3c7"), looks := false }, kinds := [], alts := [], laidByText := true, laidKinds := [.data, .pinned], laidTests := true, laidLooks := .later }
def HeatRoundsUptoCardSaid : Prop := Claim7.holds Tryd.pinned (.plain (OpenSpec.upto heatRoundsSpec)) heatRoundsUptoCard

/-- THE SECOND FORM's CARD OF 'porringerlaw07.HeatSures'. -/
def heatSuresUptoCard : Claim7 := { stood := { row := heatSuresUptoRow, standIns := [], harness := (true, "bc8726acb983071f89b62a2fe24b8370b29588b2cbc97bd97225a90a22e5b3c7"), looks := false }, kinds := [], alts := [], laidByText := true, laidKinds := [.data, .pinned], laidTests := true, laidLooks := .later }
def HeatSuresUptoCardSaid : Prop := Claim7.holds Tryd.pinned (.plain (OpenSpec.upto heatSuresSpec)) heatSuresUptoCard

/-- THE SECOND FORM's CARD OF 'porringerlaw07.HeatProved'. -/
def heatProvedUptoCard : Claim7 := { stood := { row := heatProvedUptoRow, standIns := [], harness := (true, "bc8726acb983071f89b62a2fe24b8370b29588b2cbc97bd97225a90a22e5b3c7"), looks := false }, kinds := [], alts := [], laidByText := true, laidKinds := [.data, .pinned], laidTests := true, laidLooks := .later }
def HeatProvedUptoCardSaid : Prop := Claim7.holds Tryd.pinned (.plain (OpenSpec.upto heatProvedSpec)) heatProvedUptoCard

/-- THE SECOND FORM's CARD OF 'porringerlaw07.HeatEither'. -/
def heatEitherUptoCard : Claim7 := { stood := { row := heatEitherUptoRow, standIns := [], harness := (true, "bc8726acb983071f89b62a2fe24b8370b29588b2cbc97bd97225a90a22e5b3c7"), looks := false }, kinds := [], alts := [], laidByText := true, laidKinds := [.data, .pinned], laidTests := true, laidLooks := .later }
def HeatEitherUptoCardSaid : Prop := Claim7.holds Tryd.pinned (.plain (OpenSpec.upto heatEitherSpec)) heatEitherUptoCard

/-- THE SECOND FORM's CARD OF 'porringerlaw07.HeatHotter'. -/
def heatHotterUptoCard : Claim7 := { stood := { row := heatHotterUptoRow, standIns := [], harness := (true, "bc8726acb983071f89b62a2fe24b8370b29588b2cbc97bd97225a90a22e5b3c7"), looks := false }, kinds := [], alts := [], laidByText := true, laidKinds := [.data, .pinned], laidTests := true, laidLooks := .later }
def HeatHotterUptoCardSaid : Prop := Claim7.holds Tryd.pinned (.plain (OpenSpec.upto heatHotterSpec)) heatHotterUptoCard

/-- THE SECOND FORM's CARD OF 'porringerlaw07.HeatGrown'. -/
def heatGrownUptoCard : Claim7 := { stood := { row := heatGrownUptoRow, standIns := [], harness := (true, "bc8726acb983071f89b62a2fe24b8370b29588b2cbc97bd97225a90a22e5b3c7"), looks := false }, kinds := [], alts := [], laidByText := true, laidKinds := [.data, .pinned], laidTests := true, laidLooks := .later }
def HeatGrownUptoCardSaid : Prop := Claim7.holds Tryd.pinned (.plain (OpenSpec.upto heatGrownSpec)) heatGrownUptoCard

/-- THE SECOND FORM's CARD OF 'porringerlaw07.HeatRate'. -/
def heatRateUptoCard : Claim7 := { stood := { row := heatRateUptoRow, standIns := [], harness := (true, "bc8726acb983071f89b62a2fe24b8370b29588b2cbc97bd97225a90a22e5b3c7"), looks := false }, kinds := [], alts := [], laidByText := true, laidKinds := [.data, .pinned], laidTests := true, laidLooks := .later }
def HeatRateUptoCardSaid : Prop := Claim7.holds Tryd.pinned (.plain (OpenSpec.upto heatRateSpec)) heatRateUptoCard

/-- THE SECOND FORM's CARD OF 'porringerlaw07.HeatWider'. -/
def heatWiderUptoCard : Claim7 := { stood := { row := heatWiderUptoRow, standIns := [], harness := (true, "bc8726acb983071f89b62a2fe24b8370b29588b2cbc97bd97225a90a22e5b3c7"), looks := false }, kinds := [], alts := [], laidByText := true, laidKinds := [.data, .pinned], laidTests := true, laidLooks := .later }
def HeatWiderUptoCardSaid : Prop := Claim7.holds Tryd.pinned (.plain (OpenSpec.upto heatWiderSpec)) heatWiderUptoCard

/-- THE SECOND FORM's CARD OF 'porringerlaw07.HeatSurely'. -/
def heatSurelyUptoCard : Claim7 := { stood := { row := heatSurelyUptoRow, standIns := [], harness := (true, "bc8726acb983071f89b62a2fe24b8370b29588b2cbc97bd97225a90a22e5b3c7"), looks := false }, kinds := [], alts := [], laidByText := true, laidKinds := [.data, .pinned], laidTests := true, laidLooks := .later }
def HeatSurelyUptoCardSaid : Prop := Claim7.holds Tryd.pinned (.plain (OpenSpec.upto heatSurelySpec)) heatSurelyUptoCard

/-- THE SECOND FORM's CARD OF 'porringerlaw07.HeatBegun'. -/
def heatBegunUptoCard : Claim7 := { stood := { row := heatBegunUptoRow, standIns := [], harness := (true, "bc8726acb983071f89b62a2fe24b8370b29588b2cbc97bd97225a90a22e5b3c7"), looks := false }, kinds := [], alts := [], laidByText := true, laidKinds := [.data, .pinned], laidTests := true, laidLooks := .later }
def HeatBegunUptoCardSaid : Prop := Claim7.holds Tryd.pinned (.plain (OpenSpec.upto heatBegunSpec)) heatBegunUptoCard

/-- THE SECOND FORM's CARD OF 'porringerlaw07.HeatKnown'. -/
def heatKnownUptoCard : Claim7 := { stood := { row := heatKnownUptoRow, standIns := [], harness := (true, "bc8726acb983071f89b62a2fe24b8370b29588b2cbc97bd97225a90a22e5b3c7"), looks := false }, kinds := [], alts := [], laidByText := true, laidKinds := [.data, .pinned], laidTests := true, laidLooks := .later }
def HeatKnownUptoCardSaid : Prop := Claim7.holds Tryd.pinned (.plain (OpenSpec.upto heatKnownSpec)) heatKnownUptoCard
end Rows
end Go.Proofs.YtafemfjhflfdeaaDoor
