/- Closed runs of the statement on orders and weights. No condition. -/
import Derived.Test.YtmpfljfffljoeaaGreatDoorN3
namespace Go.Proofs.YtmpfljfffljoeaaGreatDoor.N3
open Go Go.Proofs Go.Run Go.Eng
set_option maxRecDepth 100000
set_option linter.unusedVariables false
set_option linter.unusedSimpArgs false

theorem t5_30 : Q5 30 := by unfold Q5; kernel_rfl
theorem t5_31 : Q5 31 := by unfold Q5; kernel_rfl
theorem t5_32 : Q5 32 := by unfold Q5; kernel_rfl
theorem t5_33 : Q5 33 := by unfold Q5; kernel_rfl
theorem t5_34 : Q5 34 := by unfold Q5; kernel_rfl
theorem t5_35 : Q5 35 := by unfold Q5; kernel_rfl
theorem t5_36 : Q5 36 := by unfold Q5; kernel_rfl
theorem t5_37 : Q5 37 := by unfold Q5; kernel_rfl
theorem t5_38 : Q5 38 := by unfold Q5; kernel_rfl
theorem t5_39 : Q5 39 := by unfold Q5; kernel_rfl
theorem t5_40 : Q5 40 := by unfold Q5; kernel_rfl
theorem t5_41 : Q5 41 := by unfold Q5; kernel_rfl
theorem t5_42 : Q5 42 := by unfold Q5; kernel_rfl
theorem t5_43 : Q5 43 := by unfold Q5; kernel_rfl
theorem t5_44 : Q5 44 := by unfold Q5; kernel_rfl
end Go.Proofs.YtmpfljfffljoeaaGreatDoor.N3
