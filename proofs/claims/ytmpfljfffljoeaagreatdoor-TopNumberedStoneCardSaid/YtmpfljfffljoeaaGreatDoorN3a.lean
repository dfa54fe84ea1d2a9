/- Closed runs of the statement on orders and weights. No condition. -/
import Derived.Test.YtmpfljfffljoeaaGreatDoorN3
namespace Go.Proofs.YtmpfljfffljoeaaGreatDoor.N3
open Go Go.Proofs Go.Run Go.Eng
set_option maxRecDepth 100000
set_option linter.unusedVariables false
set_option linter.unusedSimpArgs false

theorem t2_0 : Q2 0 := by unfold Q2; kernel_rfl
theorem t2_1 : Q2 1 := by unfold Q2; kernel_rfl
theorem t3_0 : Q3 0 := by unfold Q3; kernel_rfl
theorem t3_1 : Q3 1 := by unfold Q3; kernel_rfl
theorem t3_2 : Q3 2 := by unfold Q3; kernel_rfl
theorem t3_3 : Q3 3 := by unfold Q3; kernel_rfl
theorem t3_4 : Q3 4 := by unfold Q3; kernel_rfl
theorem t3_5 : Q3 5 := by unfold Q3; kernel_rfl
theorem t4_0 : Q4 0 := by unfold Q4; kernel_rfl
theorem t4_1 : Q4 1 := by unfold Q4; kernel_rfl
theorem t4_2 : Q4 2 := by unfold Q4; kernel_rfl
theorem t4_3 : Q4 3 := by unfold Q4; kernel_rfl
theorem t4_4 : Q4 4 := by unfold Q4; kernel_rfl
theorem t4_5 : Q4 5 := by unfold Q4; kernel_rfl
theorem t4_6 : Q4 6 := by unfold Q4; kernel_rfl
theorem t4_7 : Q4 7 := by unfold Q4; kernel_rfl
theorem t4_8 : Q4 8 := by unfold Q4; kernel_rfl
theorem t4_9 : Q4 9 := by unfold Q4; kernel_rfl
theorem t4_10 : Q4 10 := by unfold Q4; kernel_rfl
theorem t4_11 : Q4 11 := by unfold Q4; kernel_rfl
theorem t4_12 : Q4 12 := by unfold Q4; kernel_rfl
theorem t4_13 : Q4 13 := by unfold Q4; kernel_rfl
theorem t4_14 : Q4 14 := by unfold Q4; kernel_rfl
theorem t4_15 : Q4 15 := by unfold Q4; kernel_rfl
theorem t4_16 : Q4 16 := by unfold Q4; kernel_rfl
theorem t4_17 : Q4 17 := by unfold Q4; kernel_rfl
theorem t4_18 : Q4 18 := by unfold Q4; kernel_rfl
theorem t4_19 : Q4 19 := by unfold Q4; kernel_rfl
theorem t4_20 : Q4 20 := by unfold Q4; kernel_rfl
theorem t4_21 : Q4 21 := by unfold Q4; kernel_rfl
theorem t4_22 : Q4 22 := by unfold Q4; kernel_rfl
theorem t4_23 : Q4 23 := by unfold Q4; kernel_rfl
end Go.Proofs.YtmpfljfffljoeaaGreatDoor.N3
