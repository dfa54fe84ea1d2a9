/-
  NARROWER THAN 'FOR EVERY INPUT', by the rows' own cells (each row's printed sentence says how): HeatMoulds: laid · HeatPlans: laid · HeatLabels: laid · HeatRounds: laid · HeatSures: laid · HeatProved: laid · HeatEither: laid · HeatHotter: laid · HeatGrown: laid · HeatRate: laid · HeatWider: laid · HeatSurely: laid · HeatBegun: laid · HeatKnown: laid.
  DERIVED. THE GIVEN ROWS OF THIS SEAT. 14 by the template 'for every input the law returns true; each argument reads behind the call as it read before'; 0 by the template 'total and deterministic' (their statements: YtafemfjhflfdeaaDoorTotals.lean).
  GIVEN WITH THE SEED: the statements are not yours to turn. If you find one false, say at which input.
  Laid BY PROGRAM, IN A SANDBOX (cutbox-rows.mjs): the forced cells as the released guide's own fill.sh prints them over the translation 13169dd6b7888054… (all of the seat's roots in one cut). By AI agents, Wed Nov 11 2026. No macro, syntax, notation, axiom, sorry.
-/
import Derived.Test.YtafemfjhflfdeaaDoorChecked
import GoSem.PinnedTables
import GoSem.Claim
import GoSem.ClaimJoined
import GoSem.ClaimMapViews
import Derived.JoinedTies
import Derived.KernelRfl
namespace Go.Proofs.YtafemfjhflfdeaaDoor
/- THE CELL 'sum', in the pinned program and in every row, IS THE sha256 OF THE DUMP (.gsa) THAT YtafemfjhflfdeaaDoorProg.lean LOADS. Nothing in Lean hashes anything: it is a label: what it is worth is what the hold of that sum in a sandbox is worth. -/
noncomputable def Tryd.pinned : Pinned := { name := "ytafemfjhflfdeaadoor", sum := "13169dd6b788805403d9f3a87107411bdf7a4e14f1841786a44c2fcfd7d45218", checked := Tryd.checked }
namespace Rows
def none {H : Type} : Left H := { results := [], args := [] }

/- WHAT THE LISTED PACKAGE-LEVEL VARIABLES READ AS WHEN THE CALL BEGINS. Each datum BY PROGRAM (the guide's laid-datum.mjs) off the statement by which the dump's own 'gosem.cut.vars' lays the variable. In a bare row this is a premise. The card (YtafemfjhflfdeaaDoorCards.lean) ties it to the program's text. -/
def laid_unicode_utf8_acceptRanges {H : Type} : DataW H := .agg [.agg [.lit (.int .u8 128), .lit (.int .u8 191)], .agg [.lit (.int .u8 160), .lit (.int .u8 191)], .agg [.lit (.int .u8 128), .lit (.int .u8 159)], .agg [.lit (.int .u8 144), .lit (.int .u8 191)], .agg [.lit (.int .u8 128), .lit (.int .u8 143)], .agg [.lit (.int .u8 0), .lit (.int .u8 0)], .agg [.lit (.int .u8 0), .lit (.int .u8 0)], .agg [.lit (.int .u8 0), .lit (.int .u8 0)], .agg [.lit (.int .u8 0), .lit (.int .u8 0)], .agg [.lit (.int .u8 0), .lit (.int .u8 0)], .agg [.lit (.int .u8 0), .lit (.int .u8 0)], .agg [.lit (.int .u8 0), .lit (.int .u8 0)], .agg [.lit (.int .u8 0), .lit (.int .u8 0)], .agg [.lit (.int .u8 0), .lit (.int .u8 0)], .agg [.lit (.int .u8 0), .lit (.int .u8 0)], .agg [.lit (.int .u8 0), .lit (.int .u8 0)]]
/-- One of Go's own tables, pinned by name: the form's constant. -/
def laid_unicode_utf8_first : DataW Unit := Go.Pinned.utf8First

/-- 'porringerlaw07.HeatMoulds': WHATEVER THE INPUT: true; the input reads as it did. -/
def heatMouldsSpec : ChangeSpec := { name := "heatMoulds", fn := fun _ => fun
  | [d1, d2, d3] => { results := [.lit (.bool true)], args := [d1, d2, d3] }
  | _ => none }
def heatMouldsRow : OpenClaim := { program := "ytafemfjhflfdeaadoor", sum := "13169dd6b788805403d9f3a87107411bdf7a4e14f1841786a44c2fcfd7d45218", func := "porringer/porringerlaw07.HeatMoulds", spec := "heatMoulds", inPlace := ["internal/bytealg.IndexByteString", "internal/bytealg.IndexString", "internal/bytealg.CountString"], unfollowed := true, recurses := true, named := ["unicode/utf8.first", "unicode/utf8.acceptRanges", "internal/bytealg.MaxLen"], plainKeys := false, apart := false, laid := [("unicode/utf8.acceptRanges", laid_unicode_utf8_acceptRanges), ("unicode/utf8.first", laid_unicode_utf8_first)] }
def HeatMouldsSaid : Prop := heatMouldsRow.holds Tryd.pinned (OpenSpec.ofChange heatMouldsSpec)

/-- ITS FALSE NEIGHBOUR: 'it returns false'. Refute it at one input. -/
def heatMouldsWrong : ChangeSpec := { name := "heatMoulds", fn := fun _ => fun
  | [d1, d2, d3] => { results := [.lit (.bool false)], args := [d1, d2, d3] }
  | _ => none }
def HeatMouldsWrongFalsely : Prop := heatMouldsRow.holds Tryd.pinned (OpenSpec.ofChange heatMouldsWrong)

/-- 'porringerlaw07.HeatPlans': WHATEVER THE INPUT: true; the input reads as it did. -/
def heatPlansSpec : ChangeSpec := { name := "heatPlans", fn := fun _ => fun
  | [d1, d2, d3] => { results := [.lit (.bool true)], args := [d1, d2, d3] }
  | _ => none }
def heatPlansRow : OpenClaim := { program := "ytafemfjhflfdeaadoor", sum := "13169dd6b788805403d9f3a87107411bdf7a4e14f1841786a44c2fcfd7d45218", func := "porringer/porringerlaw07.HeatPlans", spec := "heatPlans", inPlace := ["internal/bytealg.IndexByteString", "internal/bytealg.IndexString", "internal/bytealg.CountString"], unfollowed := true, recurses := true, named := ["unicode/utf8.first", "unicode/utf8.acceptRanges", "internal/bytealg.MaxLen"], plainKeys := false, apart := false, laid := [("unicode/utf8.acceptRanges", laid_unicode_utf8_acceptRanges), ("unicode/utf8.first", laid_unicode_utf8_first)] }
def HeatPlansSaid : Prop := heatPlansRow.holds Tryd.pinned (OpenSpec.ofChange heatPlansSpec)

/-- ITS FALSE NEIGHBOUR: 'it returns false'. Refute it at one input. -/
def heatPlansWrong : ChangeSpec := { name := "heatPlans", fn := fun _ => fun
  | [d1, d2, d3] => { results := [.lit (.bool false)], args := [d1, d2, d3] }
  | _ => none }
def HeatPlansWrongFalsely : Prop := heatPlansRow.holds Tryd.pinned (OpenSpec.ofChange heatPlansWrong)

/-- 'porringerlaw07.HeatLabels': WHATEVER THE INPUT: true; the input reads as it did. -/
def heatLabelsSpec : ChangeSpec := { name := "heatLabels", fn := fun _ => fun
  | [d1, d2, d3] => { results := [.lit (.bool true)], args := [d1, d2, d3] }
  | _ => none }
def heatLabelsRow : OpenClaim := { program := "ytafemfjhflfdeaadoor", sum := "13169dd6b788805403d9f3a87107411bdf7a4e14f1841786a44c2fcfd7d45218", func := "porringer/porringerlaw07.HeatLabels", spec := "heatLabels", inPlace := ["internal/bytealg.IndexByteString", "internal/bytealg.IndexString", "internal/bytealg.CountString"], unfollowed := true, recurses := true, named := ["unicode/utf8.first", "unicode/utf8.acceptRanges", "internal/bytealg.MaxLen"], plainKeys := false, apart := false, laid := [("unicode/utf8.acceptRanges", laid_unicode_utf8_acceptRanges), ("unicode/utf8.first", laid_unicode_utf8_first)] }
def HeatLabelsSaid : Prop := heatLabelsRow.holds Tryd.pinned (OpenSpec.ofChange heatLabelsSpec)

/-- ITS FALSE NEIGHBOUR: 'it returns false'. Refute it at one input. -/
def heatLabelsWrong : ChangeSpec := { name := "heatLabels", fn := fun _ => fun
  | [d1, d2, d3] => { results := [.lit (.bool false)], args := [d1, d2, d3] }
  | _ => none }
def HeatLabelsWrongFalsely : Prop := heatLabelsRow.holds Tryd.pinned (OpenSpec.ofChange heatLabelsWrong)

/-- 'porringerlaw07.HeatRounds': WHATEVER THE INPUT: true; the input reads as it did. -/
def heatRoundsSpec : ChangeSpec := { name := "heatRounds", fn := fun _ => fun
  | [d1, d2, d3, d4] => { results := [.lit (.bool true)], args := [d1, d2, d3, d4] }
  | _ => none }
def heatRoundsRow : OpenClaim := { program := "ytafemfjhflfdeaadoor", sum := "13169dd6b788805403d9f3a87107411bdf7a4e14f1841786a44c2fcfd7d45218", func := "porringer/porringerlaw07.HeatRounds", spec := "heatRounds", inPlace := ["internal/bytealg.IndexByteString", "internal/bytealg.IndexString", "internal/bytealg.CountString"], unfollowed := true, recurses := true, named := ["unicode/utf8.first", "unicode/utf8.acceptRanges", "internal/bytealg.MaxLen"], plainKeys := false, apart := false, laid := [("unicode/utf8.acceptRanges", laid_unicode_utf8_acceptRanges), ("unicode/utf8.first", laid_unicode_utf8_first)] }
def HeatRoundsSaid : Prop := heatRoundsRow.holds Tryd.pinned (OpenSpec.ofChange heatRoundsSpec)

/-- ITS FALSE NEIGHBOUR: 'it returns false'. Refute it at one input. -/
def heatRoundsWrong : ChangeSpec := { name := "heatRounds", fn := fun _ => fun
  | [d1, d2, d3, d4] => { results := [.lit (.bool false)], args := [d1, d2, d3, d4] }
  | _ => none }
def HeatRoundsWrongFalsely : Prop := heatRoundsRow.holds Tryd.pinned (OpenSpec.ofChange heatRoundsWrong)

/-- 'porringerlaw07.HeatSures': WHATEVER THE INPUT: true; the input reads as it did. -/
def heatSuresSpec : ChangeSpec := { name := "heatSures", fn := fun _ => fun
  | [d1, d2, d3, d4] => { results := [.lit (.bool true)], args := [d1, d2, d3, d4] }
  | _ => none }
def heatSuresRow : OpenClaim := { program := "ytafemfjhflfdeaadoor", sum := "13169dd6b788805403d9f3a87107411bdf7a4e14f1841786a44c2fcfd7d45218", func := "porringer/porringerlaw07.HeatSures", spec := "heatSures", inPlace := ["internal/bytealg.IndexByteString", "internal/bytealg.IndexString", "internal/bytealg.CountString"], unfollowed := true, recurses := true, named := ["unicode/utf8.first", "unicode/utf8.acceptRanges", "internal/bytealg.MaxLen"], plainKeys := false, apart := false, laid := [("unicode/utf8.acceptRanges", laid_unicode_utf8_acceptRanges), ("unicode/utf8.first", laid_unicode_utf8_first)] }
def HeatSuresSaid : Prop := heatSuresRow.holds Tryd.pinned (OpenSpec.ofChange heatSuresSpec)

/-- ITS FALSE NEIGHBOUR: 'it returns false'. Refute it at one input. -/
def heatSuresWrong : ChangeSpec := { name := "heatSures", fn := fun _ => fun
  | [d1, d2, d3, d4] => { results := [.lit (.bool false)], args := [d1, d2, d3, d4] }
  | _ => none }
def HeatSuresWrongFalsely : Prop := heatSuresRow.holds Tryd.pinned (OpenSpec.ofChange heatSuresWrong)

/-- 'porringerlaw07.HeatProved': WHATEVER THE INPUT: true; the input reads as it did. -/
def heatProvedSpec : ChangeSpec := { name := "heatProved", fn := fun _ => fun
  | [d1, d2, d3, d4] => { results := [.lit (.bool true)], args := [d1, d2, d3, d4] }
  | _ => none }
def heatProvedRow : OpenClaim := { program := "ytafemfjhflfdeaadoor", sum := "13169dd6b788805403d9f3a87107411bdf7a4e14f1841786a44c2fcfd7d45218", func := "porringer/porringerlaw07.HeatProved", spec := "heatProved", inPlace := ["internal/bytealg.IndexByteString", "internal/bytealg.IndexString", "internal/bytealg.CountString"], unfollowed := true, recurses := true, named := ["unicode/utf8.first", "unicode/utf8.acceptRanges", "internal/bytealg.MaxLen"], plainKeys := false, apart := false, laid := [("unicode/utf8.acceptRanges", laid_unicode_utf8_acceptRanges), ("unicode/utf8.first", laid_unicode_utf8_first)] }
def HeatProvedSaid : Prop := heatProvedRow.holds Tryd.pinned (OpenSpec.ofChange heatProvedSpec)

/-- ITS FALSE NEIGHBOUR: 'it returns false'. Refute it at one input. -/
def heatProvedWrong : ChangeSpec := { name := "heatProved", fn := fun _ => fun
  | [d1, d2, d3, d4] => { results := [.lit (.bool false)], args := [d1, d2, d3, d4] }
  | _ => none }
def HeatProvedWrongFalsely : Prop := heatProvedRow.holds Tryd.pinned (OpenSpec.ofChange heatProvedWrong)

/-- 'porringerlaw07.HeatEither': WHATEVER THE INPUT: true; the input reads as it did. -/
def heatEitherSpec : ChangeSpec := { name := "heatEither", fn := fun _ => fun
  | [d1, d2, d3] => { results := [.lit (.bool true)], args := [d1, d2, d3] }
  | _ => none }
def heatEitherRow : OpenClaim := { program := "ytafemfjhflfdeaadoor", sum := "13169dd6b788805403d9f3a87107411bdf7a4e14f1841786a44c2fcfd7d45218", func := "porringer/porringerlaw07.HeatEither", spec := "heatEither", inPlace := ["internal/bytealg.IndexByteString", "internal/bytealg.IndexString", "internal/bytealg.CountString"], unfollowed := true, recurses := true, named := ["unicode/utf8.first", "unicode/utf8.acceptRanges", "internal/bytealg.MaxLen"], plainKeys := false, apart := false, laid := [("unicode/utf8.acceptRanges", laid_unicode_utf8_acceptRanges), ("unicode/utf8.first", laid_unicode_utf8_first)] }
def HeatEitherSaid : Prop := heatEitherRow.holds Tryd.pinned (OpenSpec.ofChange heatEitherSpec)

/-- ITS FALSE NEIGHBOUR: 'it returns false'. Refute it at one input. -/
def heatEitherWrong : ChangeSpec := { name := "heatEither", fn := fun _ => fun
  | [d1, d2, d3] => { results := [.lit (.bool false)], args := [d1, d2, d3] }
  | _ => none }
def HeatEitherWrongFalsely : Prop := heatEitherRow.holds Tryd.pinned (OpenSpec.ofChange heatEitherWrong)

/-- 'porringerlaw07.HeatHotter': WHATEVER THE INPUT: true; the input reads as it did. -/
def heatHotterSpec : ChangeSpec := { name := "heatHotter", fn := fun _ => fun
  | [d1, d2, d3, d4] => { results := [.lit (.bool true)], args := [d1, d2, d3, d4] }
  | _ => none }
def heatHotterRow : OpenClaim := { program := "ytafemfjhflfdeaadoor", sum := "13169dd6b788805403d9f3a87107411bdf7a4e14f1841786a44c2fcfd7d45218", func := "porringer/porringerlaw07.HeatHotter", spec := "heatHotter", inPlace := ["internal/bytealg.IndexByteString", "internal/bytealg.IndexString", "internal/bytealg.CountString"], unfollowed := true, recurses := true, named := ["unicode/utf8.first", "unicode/utf8.acceptRanges", "internal/bytealg.MaxLen"], plainKeys := false, apart := false, laid := [("unicode/utf8.acceptRanges", laid_unicode_utf8_acceptRanges), ("unicode/utf8.first", laid_unicode_utf8_first)] }
def HeatHotterSaid : Prop := heatHotterRow.holds Tryd.pinned (OpenSpec.ofChange heatHotterSpec)

/-- ITS FALSE NEIGHBOUR: 'it returns false'. Refute it at one input. -/
def heatHotterWrong : ChangeSpec := { name := "heatHotter", fn := fun _ => fun
  | [d1, d2, d3, d4] => { results := [.lit (.bool false)], args := [d1, d2, d3, d4] }
  | _ => none }
def HeatHotterWrongFalsely : Prop := heatHotterRow.holds Tryd.pinned (OpenSpec.ofChange heatHotterWrong)

/-- 'porringerlaw07.HeatGrown': WHATEVER THE INPUT: true; the input reads as it did. -/
def heatGrownSpec : ChangeSpec := { name := "heatGrown", fn := fun _ => fun
  | [d1, d2, d3, d4, d5] => { results := [.lit (.bool true)], args := [d1, d2, d3, d4, d5] }
  | _ => none }
def heatGrownRow : OpenClaim := { program := "ytafemfjhflfdeaadoor", sum := "13169dd6b788805403d9f3a87107411bdf7a4e14f1841786a44c2fcfd7d45218", func := "porringer/porringerlaw07.HeatGrown", spec := "heatGrown", inPlace := ["internal/bytealg.IndexByteString", "internal/bytealg.IndexString", "internal/bytealg.CountString"], unfollowed := true, recurses := true, named := ["unicode/utf8.first", "unicode/utf8.acceptRanges", "internal/bytealg.MaxLen"], plainKeys := false, apart := false, laid := [("unicode/utf8.acceptRanges", laid_unicode_utf8_acceptRanges), ("unicode/utf8.first", laid_unicode_utf8_first)] }
def HeatGrownSaid : Prop := heatGrownRow.holds Tryd.pinned (OpenSpec.ofChange heatGrownSpec)

/-- ITS FALSE NEIGHBOUR: 'it returns false'. Refute it at one input. -/
def heatGrownWrong : ChangeSpec := { name := "heatGrown", fn := fun _ => fun
  | [d1, d2, d3, d4, d5] => { results := [.lit (.bool false)], args := [d1, d2, d3, d4, d5] }
  | _ => none }
def HeatGrownWrongFalsely : Prop := heatGrownRow.holds Tryd.pinned (OpenSpec.ofChange heatGrownWrong)

/-- 'porringerlaw07.HeatRate': WHATEVER THE INPUT: true; the input reads as it did. -/
def heatRateSpec : ChangeSpec := { name := "heatRate", fn := fun _ => fun
  | [d1, d2, d3, d4, d5] => { results := [.lit (.bool true)], args := [d1, d2, d3, d4, d5] }
  | _ => none }
def heatRateRow : OpenClaim := { program := "ytafemfjhflfdeaadoor", sum := "13169dd6b788805403d9f3a87107411bdf7a4e14f1841786a44c2fcfd7d45218", func := "porringer/porringerlaw07.HeatRate", spec := "heatRate", inPlace := ["internal/bytealg.IndexByteString", "internal/bytealg.IndexString", "internal/bytealg.CountString"], unfollowed := true, recurses := true, named := ["unicode/utf8.first", "unicode/utf8.acceptRanges", "internal/bytealg.MaxLen"], plainKeys := false, apart := false, laid := [("unicode/utf8.acceptRanges", laid_unicode_utf8_acceptRanges), ("unicode/utf8.first", laid_unicode_utf8_first)] }
def HeatRateSaid : Prop := heatRateRow.holds Tryd.pinned (OpenSpec.ofChange heatRateSpec)

/-- ITS FALSE NEIGHBOUR: 'it returns false'. Refute it at one input. -/
def heatRateWrong : ChangeSpec := { name := "heatRate", fn := fun _ => fun
  | [d1, d2, d3, d4, d5] => { results := [.lit (.bool false)], args := [d1, d2, d3, d4, d5] }
  | _ => none }
def HeatRateWrongFalsely : Prop := heatRateRow.holds Tryd.pinned (OpenSpec.ofChange heatRateWrong)

/-- 'porringerlaw07.HeatWider': WHATEVER THE INPUT: true; the input reads as it did. -/
def heatWiderSpec : ChangeSpec := { name := "heatWider", fn := fun _ => fun
  | [d1, d2, d3, d4, d5] => { results := [.lit (.bool true)], args := [d1, d2, d3, d4, d5] }
  | _ => none }
def heatWiderRow : OpenClaim := { program := "ytafemfjhflfdeaadoor", sum := "13169dd6b788805403d9f3a87107411bdf7a4e14f1841786a44c2fcfd7d45218", func := "porringer/porringerlaw07.HeatWider", spec := "heatWider", inPlace := ["internal/bytealg.IndexByteString", "internal/bytealg.IndexString", "internal/bytealg.CountString"], unfollowed := true, recurses := true, named := ["unicode/utf8.first", "unicode/utf8.acceptRanges", "internal/bytealg.MaxLen"], plainKeys := false, apart := false, laid := [("unicode/utf8.acceptRanges", laid_unicode_utf8_acceptRanges), ("unicode/utf8.first", laid_unicode_utf8_first)] }
def HeatWiderSaid : Prop := heatWiderRow.holds Tryd.pinned (OpenSpec.ofChange heatWiderSpec)

/-- ITS FALSE NEIGHBOUR: 'it returns false'. Refute it at one input. -/
def heatWiderWrong : ChangeSpec := { name := "heatWider", fn := fun _ => fun
  | [d1, d2, d3, d4, d5] => { results := [.lit (.bool false)], args := [d1, d2, d3, d4, d5] }
  | _ => none }
def HeatWiderWrongFalsely : Prop := heatWiderRow.holds Tryd.pinned (OpenSpec.ofChange heatWiderWrong)

/-- 'porringerlaw07.HeatSurely': WHATEVER THE INPUT: true; the input reads as it did. -/
def heatSurelySpec : ChangeSpec := { name := "heatSurely", fn := fun _ => fun
  | [d1, d2, d3, d4, d5, d6] => { results := [.lit (.bool true)], args := [d1, d2, d3, d4, d5, d6] }
  | _ => none }
def heatSurelyRow : OpenClaim := { program := "ytafemfjhflfdeaadoor", sum := "13169dd6b788805403d9f3a87107411bdf7a4e14f1841786a44c2fcfd7d45218", func := "porringer/porringerlaw07.HeatSurely", spec := "heatSurely", inPlace := ["internal/bytealg.IndexByteString", "internal/bytealg.IndexString", "internal/bytealg.CountString"], unfollowed := true, recurses := true, named := ["unicode/utf8.first", "unicode/utf8.acceptRanges", "internal/bytealg.MaxLen"], plainKeys := false, apart := false, laid := [("unicode/utf8.acceptRanges", laid_unicode_utf8_acceptRanges), ("unicode/utf8.first", laid_unicode_utf8_first)] }
def HeatSurelySaid : Prop := heatSurelyRow.holds Tryd.pinned (OpenSpec.ofChange heatSurelySpec)

/-- ITS FALSE NEIGHBOUR: 'it returns false'. Refute it at one input. -/
def heatSurelyWrong : ChangeSpec := { name := "heatSurely", fn := fun _ => fun
  | [d1, d2, d3, d4, d5, d6] => { results := [.lit (.bool false)], args := [d1, d2, d3, d4, d5, d6] }
  | _ => none }
def HeatSurelyWrongFalsely : Prop := heatSurelyRow.holds Tryd.pinned (OpenSpec.ofChange heatSurelyWrong)

/-- 'porringerlaw07.HeatBegun': WHATEVER THE INPUT: true; the input reads as it did. -/
def heatBegunSpec : ChangeSpec := { name := "heatBegun", fn := fun _ => fun
  | [d1, d2, d3, d4] => { results := [.lit (.bool true)], args := [d1, d2, d3, d4] }
  | _ => none }
def heatBegunRow : OpenClaim := { program := "ytafemfjhflfdeaadoor", sum := "13169dd6b788805403d9f3a87107411bdf7a4e14f1841786a44c2fcfd7d45218", func := "porringer/porringerlaw07.HeatBegun", spec := "heatBegun", inPlace := ["internal/bytealg.IndexByteString", "internal/bytealg.IndexString", "internal/bytealg.CountString"], unfollowed := true, recurses := true, named := ["unicode/utf8.first", "unicode/utf8.acceptRanges", "internal/bytealg.MaxLen"], plainKeys := false, apart := false, laid := [("unicode/utf8.acceptRanges", laid_unicode_utf8_acceptRanges), ("unicode/utf8.first", laid_unicode_utf8_first)] }
def HeatBegunSaid : Prop := heatBegunRow.holds Tryd.pinned (OpenSpec.ofChange heatBegunSpec)

/-- ITS FALSE NEIGHBOUR: 'it returns false'. Refute it at one input. -/
def heatBegunWrong : ChangeSpec := { name := "heatBegun", fn := fun _ => fun
  | [d1, d2, d3, d4] => { results := [.lit (.bool false)], args := [d1, d2, d3, d4] }
  | _ => none }
def HeatBegunWrongFalsely : Prop := heatBegunRow.holds Tryd.pinned (OpenSpec.ofChange heatBegunWrong)

/-- 'porringerlaw07.HeatKnown': WHATEVER THE INPUT: true; the input reads as it did. -/
def heatKnownSpec : ChangeSpec := { name := "heatKnown", fn := fun _ => fun
  | [] => { results := [.lit (.bool true)], args := [] }
  | _ => none }
def heatKnownRow : OpenClaim := { program := "ytafemfjhflfdeaadoor", sum := "13169dd6b788805403d9f3a87107411bdf7a4e14f1841786a44c2fcfd7d45218", func := "porringer/porringerlaw07.HeatKnown", spec := "heatKnown", inPlace := ["internal/bytealg.IndexByteString", "internal/bytealg.IndexString", "internal/bytealg.CountString"], unfollowed := true, recurses := true, named := ["unicode/utf8.first", "unicode/utf8.acceptRanges", "internal/bytealg.MaxLen"], plainKeys := false, apart := false, laid := [("unicode/utf8.acceptRanges", laid_unicode_utf8_acceptRanges), ("unicode/utf8.first", laid_unicode_utf8_first)] }
def HeatKnownSaid : Prop := heatKnownRow.holds Tryd.pinned (OpenSpec.ofChange heatKnownSpec)

/-- ITS FALSE NEIGHBOUR: 'it returns false'. Refute it at one input. -/
def heatKnownWrong : ChangeSpec := { name := "heatKnown", fn := fun _ => fun
  | [] => { results := [.lit (.bool false)], args := [] }
  | _ => none }
def HeatKnownWrongFalsely : Prop := heatKnownRow.holds Tryd.pinned (OpenSpec.ofChange heatKnownWrong)

/- THE SECOND FORM. 'bulk': how many values and letters a reading holds, each counted each time it is reached (what is shared counts as often as it is met; a slice's spare places count too). A statement '..UptoSaid' is the law's where the arguments, and the package variables that the reading takes, are together of bulk at most 1048576: NARROWER than '..Said'. Prove '..Said' where nothing that the law and all that it calls make is longer than what came in: it says more and counts as full. Else prove '..UptoSaid'. A law counts once. -/
mutual
def uptoBulk {H : Type} : DataW H → Nat
  | .lit (.string bytes) => bytes.length + 1
  | .lit _ => 1
  | .nil => 1
  | .ptr d => uptoBulk d + 1
  | .slice elems spare => uptoBulkAll elems + uptoBulkAll spare + 1
  | .agg parts => uptoBulkAll parts + 1
  | .iface _ d => uptoBulk d + 1
  | .map entries => uptoBulkEntries entries + 1
  | .held _ => 1
def uptoBulkAll {H : Type} : List (DataW H) → Nat
  | [] => 0
  | d :: r => uptoBulk d + uptoBulkAll r
def uptoBulkEntries {H : Type} : List (Lit × DataW H) → Nat
  | [] => 0
  | x :: r => uptoBulkEntry x + uptoBulkEntries r
def uptoBulkEntry {H : Type} : Lit × DataW H → Nat
  | (.string bytes, d) => bytes.length + uptoBulk d + 1
  | (_, d) => uptoBulk d + 1
 end
def uptoSmall : (H : Type) → List (DataW H) → Bool := fun _ ds => decide (uptoBulkAll ds ≤ 1048576)
def OpenSpec.upto (s : _root_.Go.ChangeSpec) : _root_.Go.OpenSpec := { _root_.Go.OpenSpec.ofChange s with cond := some uptoSmall }

/-- 'porringerlaw07.HeatMoulds', WHERE WHAT IT READS IS OF BULK AT MOST 1048576: true; the input reads as it did. -/
def heatMouldsUptoRow : OpenClaim := { program := "ytafemfjhflfdeaadoor", sum := "13169dd6b788805403d9f3a87107411bdf7a4e14f1841786a44c2fcfd7d45218", func := "porringer/porringerlaw07.HeatMoulds", spec := "heatMoulds", inPlace := ["internal/bytealg.IndexByteString", "internal/bytealg.IndexString", "internal/bytealg.CountString"], unfollowed := true, recurses := true, named := ["unicode/utf8.first", "unicode/utf8.acceptRanges", "internal/bytealg.MaxLen"], plainKeys := false, apart := false, laid := [("unicode/utf8.acceptRanges", laid_unicode_utf8_acceptRanges), ("unicode/utf8.first", laid_unicode_utf8_first)], narrowed := true }
def HeatMouldsUptoSaid : Prop := heatMouldsUptoRow.holds Tryd.pinned (OpenSpec.upto heatMouldsSpec)

/-- 'porringerlaw07.HeatPlans', WHERE WHAT IT READS IS OF BULK AT MOST 1048576: true; the input reads as it did. -/
def heatPlansUptoRow : OpenClaim := { program := "ytafemfjhflfdeaadoor", sum := "13169dd6b788805403d9f3a87107411bdf7a4e14f1841786a44c2fcfd7d45218", func := "porringer/porringerlaw07.HeatPlans", spec := "heatPlans", inPlace := ["internal/bytealg.IndexByteString", "internal/bytealg.IndexString", "internal/bytealg.CountString"], unfollowed := true, recurses := true, named := ["unicode/utf8.first", "unicode/utf8.acceptRanges", "internal/bytealg.MaxLen"], plainKeys := false, apart := false, laid := [("unicode/utf8.acceptRanges", laid_unicode_utf8_acceptRanges), ("unicode/utf8.first", laid_unicode_utf8_first)], narrowed := true }
def HeatPlansUptoSaid : Prop := heatPlansUptoRow.holds Tryd.pinned (OpenSpec.upto heatPlansSpec)

/-- 'porringerlaw07.HeatLabels', WHERE WHAT IT READS IS OF BULK AT MOST 1048576: true; the input reads as it did. -/
def heatLabelsUptoRow : OpenClaim := { program := "ytafemfjhflfdeaadoor", sum := "13169dd6b788805403d9f3a87107411bdf7a4e14f1841786a44c2fcfd7d45218", func := "porringer/porringerlaw07.HeatLabels", spec := "heatLabels", inPlace := ["internal/bytealg.IndexByteString", "internal/bytealg.IndexString", "internal/bytealg.CountString"], unfollowed := true, recurses := true, named := ["unicode/utf8.first", "unicode/utf8.acceptRanges", "internal/bytealg.MaxLen"], plainKeys := false, apart := false, laid := [("unicode/utf8.acceptRanges", laid_unicode_utf8_acceptRanges), ("unicode/utf8.first", laid_unicode_utf8_first)], narrowed := true }
def HeatLabelsUptoSaid : Prop := heatLabelsUptoRow.holds Tryd.pinned (OpenSpec.upto heatLabelsSpec)

/-- 'porringerlaw07.HeatRounds', WHERE WHAT IT READS IS OF BULK AT MOST 1048576: true; the input reads as it did. -/
def heatRoundsUptoRow : OpenClaim := { program := "ytafemfjhflfdeaadoor", sum := "13169dd6b788805403d9f3a87107411bdf7a4e14f1841786a44c2fcfd7d45218", func := "porringer/porringerlaw07.HeatRounds", spec := "heatRounds", inPlace := ["internal/bytealg.IndexByteString", "internal/bytealg.IndexString", "internal/bytealg.CountString"], unfollowed := true, recurses := true, named := ["unicode/utf8.first", "unicode/utf8.acceptRanges", "internal/bytealg.MaxLen"], plainKeys := false, apart := false, laid := [("unicode/utf8.acceptRanges", laid_unicode_utf8_acceptRanges), ("unicode/utf8.first", laid_unicode_utf8_first)], narrowed := true }
def HeatRoundsUptoSaid : Prop := heatRoundsUptoRow.holds Tryd.pinned (OpenSpec.upto heatRoundsSpec)

/-- 'porringerlaw07.HeatSures', WHERE WHAT IT READS IS OF BULK AT MOST 1048576: true; the input reads as it did. -/
def heatSuresUptoRow : OpenClaim := { program := "ytafemfjhflfdeaadoor", sum := "13169dd6b788805403d9f3a87107411bdf7a4e14f1841786a44c2fcfd7d45218", func := "porringer/porringerlaw07.HeatSures", spec := "heatSures", inPlace := ["internal/bytealg.IndexByteString", "internal/bytealg.IndexString", "internal/bytealg.CountString"], unfollowed := true, recurses := true, named := ["unicode/utf8.first", "unicode/utf8.acceptRanges", "internal/bytealg.MaxLen"], plainKeys := false, apart := false, laid := [("unicode/utf8.acceptRanges", laid_unicode_utf8_acceptRanges), ("unicode/utf8.first", laid_unicode_utf8_first)], narrowed := true }
def HeatSuresUptoSaid : Prop := heatSuresUptoRow.holds Tryd.pinned (OpenSpec.upto heatSuresSpec)

/-- 'porringerlaw07.HeatProved', WHERE WHAT IT READS IS OF BULK AT MOST 1048576: true; the input reads as it did. -/
def heatProvedUptoRow : OpenClaim := { program := "ytafemfjhflfdeaadoor", sum := "13169dd6b788805403d9f3a87107411bdf7a4e14f1841786a44c2fcfd7d45218", func := "porringer/porringerlaw07.HeatProved", spec := "heatProved", inPlace := ["internal/bytealg.IndexByteString", "internal/bytealg.IndexString", "internal/bytealg.CountString"], unfollowed := true, recurses := true, named := ["unicode/utf8.first", "unicode/utf8.acceptRanges", "internal/bytealg.MaxLen"], plainKeys := false, apart := false, laid := [("unicode/utf8.acceptRanges", laid_unicode_utf8_acceptRanges), ("unicode/utf8.first", laid_unicode_utf8_first)], narrowed := true }
def HeatProvedUptoSaid : Prop := heatProvedUptoRow.holds Tryd.pinned (OpenSpec.upto heatProvedSpec)

/-- 'porringerlaw07.HeatEither', WHERE WHAT IT READS IS OF BULK AT MOST 1048576: true; the input reads as it did. -/
def heatEitherUptoRow : OpenClaim := { program := "ytafemfjhflfdeaadoor", sum := "13169dd6b788805403d9f3a87107411bdf7a4e14f1841786a44c2fcfd7d45218", func := "porringer/porringerlaw07.HeatEither", spec := "heatEither", inPlace := ["internal/bytealg.IndexByteString", "internal/bytealg.IndexString", "internal/bytealg.CountString"], unfollowed := true, recurses := true, named := ["unicode/utf8.first", "unicode/utf8.acceptRanges", "internal/bytealg.MaxLen"], plainKeys := false, apart := false, laid := [("unicode/utf8.acceptRanges", laid_unicode_utf8_acceptRanges), ("unicode/utf8.first", laid_unicode_utf8_first)], narrowed := true }
def HeatEitherUptoSaid : Prop := heatEitherUptoRow.holds Tryd.pinned (OpenSpec.upto heatEitherSpec)

/-- 'porringerlaw07.HeatHotter', WHERE WHAT IT READS IS OF BULK AT MOST 1048576: true; the input reads as it did. -/
def heatHotterUptoRow : OpenClaim := { program := "ytafemfjhflfdeaadoor", sum := "13169dd6b788805403d9f3a87107411bdf7a4e14f1841786a44c2fcfd7d45218", func := "porringer/porringerlaw07.HeatHotter", spec := "heatHotter", inPlace := ["internal/bytealg.IndexByteString", "internal/bytealg.IndexString", "internal/bytealg.CountString"], unfollowed := true, recurses := true, named := ["unicode/utf8.first", "unicode/utf8.acceptRanges", "internal/bytealg.MaxLen"], plainKeys := false, apart := false, laid := [("unicode/utf8.acceptRanges", laid_unicode_utf8_acceptRanges), ("unicode/utf8.first", laid_unicode_utf8_first)], narrowed := true }
def HeatHotterUptoSaid : Prop := heatHotterUptoRow.holds Tryd.pinned (OpenSpec.upto heatHotterSpec)

/-- 'porringerlaw07.HeatGrown', WHERE WHAT IT READS IS OF BULK AT MOST 1048576: true; the input reads as it did. -/
def heatGrownUptoRow : OpenClaim := { program := "ytafemfjhflfdeaadoor", sum := "13169dd6b788805403d9f3a87107411bdf7a4e14f1841786a44c2fcfd7d45218", func := "porringer/porringerlaw07.HeatGrown", spec := "heatGrown", inPlace := ["internal/bytealg.IndexByteString", "internal/bytealg.IndexString", "internal/bytealg.CountString"], unfollowed := true, recurses := true, named := ["unicode/utf8.first", "unicode/utf8.acceptRanges", "internal/bytealg.MaxLen"], plainKeys := false, apart := false, laid := [("unicode/utf8.acceptRanges", laid_unicode_utf8_acceptRanges), ("unicode/utf8.first", laid_unicode_utf8_first)], narrowed := true }
def HeatGrownUptoSaid : Prop := heatGrownUptoRow.holds Tryd.pinned (OpenSpec.upto heatGrownSpec)

/-- 'porringerlaw07.HeatRate', WHERE WHAT IT READS IS OF BULK AT MOST 1048576: true; the input reads as it did. -/
def heatRateUptoRow : OpenClaim := { program := "ytafemfjhflfdeaadoor", sum := "13169dd6b788805403d9f3a87107411bdf7a4e14f1841786a44c2fcfd7d45218", func := "porringer/porringerlaw07.HeatRate", spec := "heatRate", inPlace := ["internal/bytealg.IndexByteString", "internal/bytealg.IndexString", "internal/bytealg.CountString"], unfollowed := true, recurses := true, named := ["unicode/utf8.first", "unicode/utf8.acceptRanges", "internal/bytealg.MaxLen"], plainKeys := false, apart := false, laid := [("unicode/utf8.acceptRanges", laid_unicode_utf8_acceptRanges), ("unicode/utf8.first", laid_unicode_utf8_first)], narrowed := true }
def HeatRateUptoSaid : Prop := heatRateUptoRow.holds Tryd.pinned (OpenSpec.upto heatRateSpec)

/-- 'porringerlaw07.HeatWider', WHERE WHAT IT READS IS OF BULK AT MOST 1048576: true; the input reads as it did. -/
def heatWiderUptoRow : OpenClaim := { program := "ytafemfjhflfdeaadoor", sum := "13169dd6b788805403d9f3a87107411bdf7a4e14f1841786a44c2fcfd7d45218", func := "porringer/porringerlaw07.HeatWider", spec := "heatWider", inPlace := ["internal/bytealg.IndexByteString", "internal/bytealg.IndexString", "internal/bytealg.CountString"], unfollowed := true, recurses := true, named := ["unicode/utf8.first", "unicode/utf8.acceptRanges", "internal/bytealg.MaxLen"], plainKeys := false, apart := false, laid := [("unicode/utf8.acceptRanges", laid_unicode_utf8_acceptRanges), ("unicode/utf8.first", laid_unicode_utf8_first)], narrowed := true }
def HeatWiderUptoSaid : Prop := heatWiderUptoRow.holds Tryd.pinned (OpenSpec.upto heatWiderSpec)

/-- 'porringerlaw07.HeatSurely', WHERE WHAT IT READS IS OF BULK AT MOST 1048576: true; the input reads as it did. -/
def heatSurelyUptoRow : OpenClaim := { program := "ytafemfjhflfdeaadoor", sum := "13169dd6b788805403d9f3a87107411bdf7a4e14f1841786a44c2fcfd7d45218", func := "porringer/porringerlaw07.HeatSurely", spec := "heatSurely", inPlace := ["internal/bytealg.IndexByteString", "internal/bytealg.IndexString", "internal/bytealg.CountString"], unfollowed := true, recurses := true, named := ["unicode/utf8.first", "unicode/utf8.acceptRanges", "internal/bytealg.MaxLen"], plainKeys := false, apart := false, laid := [("unicode/utf8.acceptRanges", laid_unicode_utf8_acceptRanges), ("unicode/utf8.first", laid_unicode_utf8_first)], narrowed := true }
def HeatSurelyUptoSaid : Prop := heatSurelyUptoRow.holds Tryd.pinned (OpenSpec.upto heatSurelySpec)

/-- 'porringerlaw07.HeatBegun', WHERE WHAT IT READS IS OF BULK AT MOST 1048576: true; the input reads as it did. -/
def heatBegunUptoRow : OpenClaim := { program := "ytafemfjhflfdeaadoor", sum := "13169dd6b788805403d9f3a87107411bdf7a4e14f1841786a44c2fcfd7d45218", func := "porringer/porringerlaw07.HeatBegun", spec := "heatBegun", inPlace := ["internal/bytealg.IndexByteString", "internal/bytealg.IndexString", "internal/bytealg.CountString"], unfollowed := true, recurses := true, named := ["unicode/utf8.first", "unicode/utf8.acceptRanges", "internal/bytealg.MaxLen"], plainKeys := false, apart := false, laid := [("unicode/utf8.acceptRanges", laid_unicode_utf8_acceptRanges), ("unicode/utf8.first", laid_unicode_utf8_first)], narrowed := true }
def HeatBegunUptoSaid : Prop := heatBegunUptoRow.holds Tryd.pinned (OpenSpec.upto heatBegunSpec)

/-- 'porringerlaw07.HeatKnown', WHERE WHAT IT READS IS OF BULK AT MOST 1048576: true; the input reads as it did. -/
def heatKnownUptoRow : OpenClaim := { program := "ytafemfjhflfdeaadoor", sum := "13169dd6b788805403d9f3a87107411bdf7a4e14f1841786a44c2fcfd7d45218", func := "porringer/porringerlaw07.HeatKnown", spec := "heatKnown", inPlace := ["internal/bytealg.IndexByteString", "internal/bytealg.IndexString", "internal/bytealg.CountString"], unfollowed := true, recurses := true, named := ["unicode/utf8.first", "unicode/utf8.acceptRanges", "internal/bytealg.MaxLen"], plainKeys := false, apart := false, laid := [("unicode/utf8.acceptRanges", laid_unicode_utf8_acceptRanges), ("unicode/utf8.first", laid_unicode_utf8_first)], narrowed := true }
def HeatKnownUptoSaid : Prop := heatKnownUptoRow.holds Tryd.pinned (OpenSpec.upto heatKnownSpec)

end Rows
end Go.Proofs.YtafemfjhflfdeaaDoor
