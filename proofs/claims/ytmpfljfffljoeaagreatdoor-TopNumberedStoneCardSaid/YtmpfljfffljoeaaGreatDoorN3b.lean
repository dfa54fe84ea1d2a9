/- Closed runs of the statement on orders and weights. No condition. -/
import Derived.Test.YtmpfljfffljoeaaGreatDoorN3
namespace Go.Proofs.YtmpfljfffljoeaaGreatDoor.N3
open Go Go.Proofs Go.Run Go.Eng
set_option maxRecDepth 100000
set_option linter.unusedVariables false
set_option linter.unusedSimpArgs false

theorem t5_0 : Q5 0 := by unfold Q5; kernel_rfl
theorem t5_1 : Q5 1 := by unfold Q5; kernel_rfl
theorem t5_2 : Q5 2 := by unfold Q5; kernel_rfl
theorem t5_3 : Q5 3 := by unfold Q5; kernel_rfl
theorem t5_4 : Q5 4 := by unfold Q5; kernel_rfl
theorem t5_5 : Q5 5 := by unfold Q5; kernel_rfl
theorem t5_6 : Q5 6 := by unfold Q5; kernel_rfl
theorem t5_7 : Q5 7 := by unfold Q5; kernel_rfl
theorem t5_8 : Q5 8 := by unfold Q5; kernel_rfl
theorem t5_9 : Q5 9 := by unfold Q5; kernel_rfl
theorem t5_10 : Q5 10 := by unfold Q5; kernel_rfl
theorem t5_11 : Q5 11 := by unfold Q5; kernel_rfl
theorem t5_12 : Q5 12 := by unfold Q5; kernel_rfl
theorem t5_13 : Q5 13 := by unfold Q5; kernel_rfl
theorem t5_14 : Q5 14 := by unfold Q5; kernel_rfl
end Go.Proofs.YtmpfljfffljoeaaGreatDoor.N3
