/- Closed runs of the statement on rims and weights. No condition. -/
import Derived.Test.YtmpfljfffljoeaaGreatDoorR4
namespace Go.Proofs.YtmpfljfffljoeaaGreatDoor.R4
open Go Go.Proofs Go.Run Go.Eng
set_option maxRecDepth 100000
set_option linter.unusedVariables false
set_option linter.unusedSimpArgs false
theorem t43_35 : Q43 35 := by unfold Q43; kernel_rfl
theorem t43_36 : Q43 36 := by unfold Q43; kernel_rfl
theorem t43_37 : Q43 37 := by unfold Q43; kernel_rfl
theorem t43_38 : Q43 38 := by unfold Q43; kernel_rfl
theorem t43_39 : Q43 39 := by unfold Q43; kernel_rfl
theorem t43_40 : Q43 40 := by unfold Q43; kernel_rfl
theorem t43_41 : Q43 41 := by unfold Q43; kernel_rfl
theorem t43_42 : Q43 42 := by unfold Q43; kernel_rfl
theorem t43_43 : Q43 43 := by unfold Q43; kernel_rfl
theorem t43_44 : Q43 44 := by unfold Q43; kernel_rfl
theorem t43_45 : Q43 45 := by unfold Q43; kernel_rfl
theorem t43_46 : Q43 46 := by unfold Q43; kernel_rfl
theorem t43_47 : Q43 47 := by unfold Q43; kernel_rfl
theorem t43_48 : Q43 48 := by unfold Q43; kernel_rfl
theorem t43_49 : Q43 49 := by unfold Q43; kernel_rfl
theorem t43_50 : Q43 50 := by unfold Q43; kernel_rfl
theorem t43_51 : Q43 51 := by unfold Q43; kernel_rfl
theorem t43_52 : Q43 52 := by unfold Q43; kernel_rfl
theorem t43_53 : Q43 53 := by unfold Q43; kernel_rfl
theorem t43_54 : Q43 54 := by unfold Q43; kernel_rfl
theorem t43_55 : Q43 55 := by unfold Q43; kernel_rfl
theorem t43_56 : Q43 56 := by unfold Q43; kernel_rfl
theorem t43_57 : Q43 57 := by unfold Q43; kernel_rfl
theorem t43_58 : Q43 58 := by unfold Q43; kernel_rfl
theorem t43_59 : Q43 59 := by unfold Q43; kernel_rfl
theorem t43_60 : Q43 60 := by unfold Q43; kernel_rfl
theorem t43_61 : Q43 61 := by unfold Q43; kernel_rfl
theorem t43_62 : Q43 62 := by unfold Q43; kernel_rfl
theorem t43_63 : Q43 63 := by unfold Q43; kernel_rfl
end Go.Proofs.YtmpfljfffljoeaaGreatDoor.R4
