/- Closed runs of the statement on rims and weights. No condition. -/
import Derived.Test.YtmpfljfffljoeaaGreatDoorR4
namespace Go.Proofs.YtmpfljfffljoeaaGreatDoor.R4
open Go Go.Proofs Go.Run Go.Eng
set_option maxRecDepth 100000
set_option linter.unusedVariables false
set_option linter.unusedSimpArgs false
theorem t42_15 : Q42 15 := by unfold Q42; kernel_rfl
theorem t43_0 : Q43 0 := by unfold Q43; kernel_rfl
theorem t43_1 : Q43 1 := by unfold Q43; kernel_rfl
theorem t43_2 : Q43 2 := by unfold Q43; kernel_rfl
theorem t43_3 : Q43 3 := by unfold Q43; kernel_rfl
theorem t43_4 : Q43 4 := by unfold Q43; kernel_rfl
theorem t43_5 : Q43 5 := by unfold Q43; kernel_rfl
theorem t43_6 : Q43 6 := by unfold Q43; kernel_rfl
theorem t43_7 : Q43 7 := by unfold Q43; kernel_rfl
theorem t43_8 : Q43 8 := by unfold Q43; kernel_rfl
theorem t43_9 : Q43 9 := by unfold Q43; kernel_rfl
theorem t43_10 : Q43 10 := by unfold Q43; kernel_rfl
theorem t43_11 : Q43 11 := by unfold Q43; kernel_rfl
theorem t43_12 : Q43 12 := by unfold Q43; kernel_rfl
theorem t43_13 : Q43 13 := by unfold Q43; kernel_rfl
theorem t43_14 : Q43 14 := by unfold Q43; kernel_rfl
theorem t43_15 : Q43 15 := by unfold Q43; kernel_rfl
theorem t43_16 : Q43 16 := by unfold Q43; kernel_rfl
theorem t43_17 : Q43 17 := by unfold Q43; kernel_rfl
theorem t43_18 : Q43 18 := by unfold Q43; kernel_rfl
theorem t43_19 : Q43 19 := by unfold Q43; kernel_rfl
theorem t43_20 : Q43 20 := by unfold Q43; kernel_rfl
theorem t43_21 : Q43 21 := by unfold Q43; kernel_rfl
theorem t43_22 : Q43 22 := by unfold Q43; kernel_rfl
theorem t43_23 : Q43 23 := by unfold Q43; kernel_rfl
theorem t43_24 : Q43 24 := by unfold Q43; kernel_rfl
theorem t43_25 : Q43 25 := by unfold Q43; kernel_rfl
theorem t43_26 : Q43 26 := by unfold Q43; kernel_rfl
theorem t43_27 : Q43 27 := by unfold Q43; kernel_rfl
theorem t43_28 : Q43 28 := by unfold Q43; kernel_rfl
theorem t43_29 : Q43 29 := by unfold Q43; kernel_rfl
theorem t43_30 : Q43 30 := by unfold Q43; kernel_rfl
theorem t43_31 : Q43 31 := by unfold Q43; kernel_rfl
theorem t43_32 : Q43 32 := by unfold Q43; kernel_rfl
theorem t43_33 : Q43 33 := by unfold Q43; kernel_rfl
theorem t43_34 : Q43 34 := by unfold Q43; kernel_rfl
end Go.Proofs.YtmpfljfffljoeaaGreatDoor.R4
