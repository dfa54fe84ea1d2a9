/- Answers of some calls, each by a run of its own. No condition. -/
import Derived.Test.YtmpfljfffljoeaaGreatDoorR4
namespace Go.Proofs.YtmpfljfffljoeaaGreatDoor.R4
open Go Go.Proofs Go.Run Go.Eng
set_option maxRecDepth 100000
set_option linter.unusedVariables false
set_option linter.unusedSimpArgs false
theorem e43_61 : mrB Pt.pr 1000000 8 10000 x43_61 = true := by kernel_rfl
theorem e43_62 : mrB Pt.pr 1000000 8 10000 x43_62 = true := by kernel_rfl
theorem e43_63 : mrB Pt.pr 1000000 8 10000 x43_63 = true := by kernel_rfl
theorem e43_64 : mrB Pt.pr 1000000 8 10000 x43_64 = true := by kernel_rfl
end Go.Proofs.YtmpfljfffljoeaaGreatDoor.R4
