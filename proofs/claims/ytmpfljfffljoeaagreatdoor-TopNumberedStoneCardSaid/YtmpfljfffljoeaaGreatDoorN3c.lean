/- Closed runs of the statement on orders and weights. No condition. -/
import Derived.Test.YtmpfljfffljoeaaGreatDoorN3
namespace Go.Proofs.YtmpfljfffljoeaaGreatDoor.N3
open Go Go.Proofs Go.Run Go.Eng
set_option maxRecDepth 100000
set_option linter.unusedVariables false
set_option linter.unusedSimpArgs false

theorem t5_15 : Q5 15 := by unfold Q5; kernel_rfl
theorem t5_16 : Q5 16 := by unfold Q5; kernel_rfl
theorem t5_17 : Q5 17 := by unfold Q5; kernel_rfl
theorem t5_18 : Q5 18 := by unfold Q5; kernel_rfl
theorem t5_19 : Q5 19 := by unfold Q5; kernel_rfl
theorem t5_20 : Q5 20 := by unfold Q5; kernel_rfl
theorem t5_21 : Q5 21 := by unfold Q5; kernel_rfl
theorem t5_22 : Q5 22 := by unfold Q5; kernel_rfl
theorem t5_23 : Q5 23 := by unfold Q5; kernel_rfl
theorem t5_24 : Q5 24 := by unfold Q5; kernel_rfl
theorem t5_25 : Q5 25 := by unfold Q5; kernel_rfl
theorem t5_26 : Q5 26 := by unfold Q5; kernel_rfl
theorem t5_27 : Q5 27 := by unfold Q5; kernel_rfl
theorem t5_28 : Q5 28 := by unfold Q5; kernel_rfl
theorem t5_29 : Q5 29 := by unfold Q5; kernel_rfl
end Go.Proofs.YtmpfljfffljoeaaGreatDoor.N3
