/- Answers of some calls, each by a run of its own. No condition. -/
import Derived.Test.YtmpfljfffljoeaaGreatDoorR4
namespace Go.Proofs.YtmpfljfffljoeaaGreatDoor.R4
open Go Go.Proofs Go.Run Go.Eng
set_option maxRecDepth 100000
set_option linter.unusedVariables false
set_option linter.unusedSimpArgs false
theorem e43_21 : mrB Pt.pr 1000000 8 10000 x43_21 = true := by kernel_rfl
theorem e43_22 : mrB Pt.pr 1000000 8 10000 x43_22 = true := by kernel_rfl
theorem e43_23 : mrB Pt.pr 1000000 8 10000 x43_23 = true := by kernel_rfl
theorem e43_24 : mrB Pt.pr 1000000 8 10000 x43_24 = true := by kernel_rfl
theorem e43_25 : mrB Pt.pr 1000000 8 10000 x43_25 = true := by kernel_rfl
theorem e43_26 : mrB Pt.pr 1000000 8 10000 x43_26 = true := by kernel_rfl
theorem e43_27 : mrB Pt.pr 1000000 8 10000 x43_27 = true := by kernel_rfl
theorem e43_28 : mrB Pt.pr 1000000 8 10000 x43_28 = true := by kernel_rfl
theorem e43_29 : mrB Pt.pr 1000000 8 10000 x43_29 = true := by kernel_rfl
theorem e43_30 : mrB Pt.pr 1000000 8 10000 x43_30 = true := by kernel_rfl
theorem e43_31 : mrB Pt.pr 1000000 8 10000 x43_31 = true := by kernel_rfl
theorem e43_32 : mrB Pt.pr 1000000 8 10000 x43_32 = true := by kernel_rfl
theorem e43_33 : mrB Pt.pr 1000000 8 10000 x43_33 = true := by kernel_rfl
theorem e43_34 : mrB Pt.pr 1000000 8 10000 x43_34 = true := by kernel_rfl
theorem e43_35 : mrB Pt.pr 1000000 8 10000 x43_35 = true := by kernel_rfl
theorem e43_36 : mrB Pt.pr 1000000 8 10000 x43_36 = true := by kernel_rfl
theorem e43_37 : mrB Pt.pr 1000000 8 10000 x43_37 = true := by kernel_rfl
theorem e43_38 : mrB Pt.pr 1000000 8 10000 x43_38 = true := by kernel_rfl
theorem e43_39 : mrB Pt.pr 1000000 8 10000 x43_39 = true := by kernel_rfl
theorem e43_40 : mrB Pt.pr 1000000 8 10000 x43_40 = true := by kernel_rfl
end Go.Proofs.YtmpfljfffljoeaaGreatDoor.R4
