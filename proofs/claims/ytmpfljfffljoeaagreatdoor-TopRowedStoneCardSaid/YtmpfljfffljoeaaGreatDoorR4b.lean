/- Answers of some calls, each by a run of its own. No condition. -/
import Derived.Test.YtmpfljfffljoeaaGreatDoorR4
namespace Go.Proofs.YtmpfljfffljoeaaGreatDoor.R4
open Go Go.Proofs Go.Run Go.Eng
set_option maxRecDepth 100000
set_option linter.unusedVariables false
set_option linter.unusedSimpArgs false
theorem e43_1 : mrB Pt.pr 1000000 8 10000 x43_1 = true := by kernel_rfl
theorem e43_2 : mrB Pt.pr 1000000 8 10000 x43_2 = true := by kernel_rfl
theorem e43_3 : mrB Pt.pr 1000000 8 10000 x43_3 = true := by kernel_rfl
theorem e43_4 : mrB Pt.pr 1000000 8 10000 x43_4 = true := by kernel_rfl
theorem e43_5 : mrB Pt.pr 1000000 8 10000 x43_5 = true := by kernel_rfl
theorem e43_6 : mrB Pt.pr 1000000 8 10000 x43_6 = true := by kernel_rfl
theorem e43_7 : mrB Pt.pr 1000000 8 10000 x43_7 = true := by kernel_rfl
theorem e43_8 : mrB Pt.pr 1000000 8 10000 x43_8 = true := by kernel_rfl
theorem e43_9 : mrB Pt.pr 1000000 8 10000 x43_9 = true := by kernel_rfl
theorem e43_10 : mrB Pt.pr 1000000 8 10000 x43_10 = true := by kernel_rfl
theorem e43_11 : mrB Pt.pr 1000000 8 10000 x43_11 = true := by kernel_rfl
theorem e43_12 : mrB Pt.pr 1000000 8 10000 x43_12 = true := by kernel_rfl
theorem e43_13 : mrB Pt.pr 1000000 8 10000 x43_13 = true := by kernel_rfl
theorem e43_14 : mrB Pt.pr 1000000 8 10000 x43_14 = true := by kernel_rfl
theorem e43_15 : mrB Pt.pr 1000000 8 10000 x43_15 = true := by kernel_rfl
theorem e43_16 : mrB Pt.pr 1000000 8 10000 x43_16 = true := by kernel_rfl
theorem e43_17 : mrB Pt.pr 1000000 8 10000 x43_17 = true := by kernel_rfl
theorem e43_18 : mrB Pt.pr 1000000 8 10000 x43_18 = true := by kernel_rfl
theorem e43_19 : mrB Pt.pr 1000000 8 10000 x43_19 = true := by kernel_rfl
theorem e43_20 : mrB Pt.pr 1000000 8 10000 x43_20 = true := by kernel_rfl
end Go.Proofs.YtmpfljfffljoeaaGreatDoor.R4
