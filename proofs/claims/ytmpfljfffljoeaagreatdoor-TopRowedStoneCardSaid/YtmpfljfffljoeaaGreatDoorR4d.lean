/- Answers of some calls, each by a run of its own. No condition. -/
import Derived.Test.YtmpfljfffljoeaaGreatDoorR4
namespace Go.Proofs.YtmpfljfffljoeaaGreatDoor.R4
open Go Go.Proofs Go.Run Go.Eng
set_option maxRecDepth 100000
set_option linter.unusedVariables false
set_option linter.unusedSimpArgs false
theorem e43_41 : mrB Pt.pr 1000000 8 10000 x43_41 = true := by kernel_rfl
theorem e43_42 : mrB Pt.pr 1000000 8 10000 x43_42 = true := by kernel_rfl
theorem e43_43 : mrB Pt.pr 1000000 8 10000 x43_43 = true := by kernel_rfl
theorem e43_44 : mrB Pt.pr 1000000 8 10000 x43_44 = true := by kernel_rfl
theorem e43_45 : mrB Pt.pr 1000000 8 10000 x43_45 = true := by kernel_rfl
theorem e43_46 : mrB Pt.pr 1000000 8 10000 x43_46 = true := by kernel_rfl
theorem e43_47 : mrB Pt.pr 1000000 8 10000 x43_47 = true := by kernel_rfl
theorem e43_48 : mrB Pt.pr 1000000 8 10000 x43_48 = true := by kernel_rfl
theorem e43_49 : mrB Pt.pr 1000000 8 10000 x43_49 = true := by kernel_rfl
theorem e43_50 : mrB Pt.pr 1000000 8 10000 x43_50 = true := by kernel_rfl
theorem e43_51 : mrB Pt.pr 1000000 8 10000 x43_51 = true := by kernel_rfl
theorem e43_52 : mrB Pt.pr 1000000 8 10000 x43_52 = true := by kernel_rfl
theorem e43_53 : mrB Pt.pr 1000000 8 10000 x43_53 = true := by kernel_rfl
theorem e43_54 : mrB Pt.pr 1000000 8 10000 x43_54 = true := by kernel_rfl
theorem e43_55 : mrB Pt.pr 1000000 8 10000 x43_55 = true := by kernel_rfl
theorem e43_56 : mrB Pt.pr 1000000 8 10000 x43_56 = true := by kernel_rfl
theorem e43_57 : mrB Pt.pr 1000000 8 10000 x43_57 = true := by kernel_rfl
theorem e43_58 : mrB Pt.pr 1000000 8 10000 x43_58 = true := by kernel_rfl
theorem e43_59 : mrB Pt.pr 1000000 8 10000 x43_59 = true := by kernel_rfl
theorem e43_60 : mrB Pt.pr 1000000 8 10000 x43_60 = true := by kernel_rfl
end Go.Proofs.YtmpfljfffljoeaaGreatDoor.R4
