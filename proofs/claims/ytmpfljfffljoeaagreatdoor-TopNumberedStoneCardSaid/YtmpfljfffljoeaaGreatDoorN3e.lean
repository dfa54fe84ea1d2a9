/- Closed runs of the statement on orders and weights. No condition. -/
import Derived.Test.YtmpfljfffljoeaaGreatDoorN3
namespace Go.Proofs.YtmpfljfffljoeaaGreatDoor.N3
open Go Go.Proofs Go.Run Go.Eng
set_option maxRecDepth 100000
set_option linter.unusedVariables false
set_option linter.unusedSimpArgs false

theorem t5_45 : Q5 45 := by unfold Q5; kernel_rfl
theorem t5_46 : Q5 46 := by unfold Q5; kernel_rfl
theorem t5_47 : Q5 47 := by unfold Q5; kernel_rfl
theorem t5_48 : Q5 48 := by unfold Q5; kernel_rfl
theorem t5_49 : Q5 49 := by unfold Q5; kernel_rfl
theorem t5_50 : Q5 50 := by unfold Q5; kernel_rfl
theorem t5_51 : Q5 51 := by unfold Q5; kernel_rfl
theorem t5_52 : Q5 52 := by unfold Q5; kernel_rfl
theorem t5_53 : Q5 53 := by unfold Q5; kernel_rfl
theorem t5_54 : Q5 54 := by unfold Q5; kernel_rfl
theorem t5_55 : Q5 55 := by unfold Q5; kernel_rfl
theorem t5_56 : Q5 56 := by unfold Q5; kernel_rfl
theorem t5_57 : Q5 57 := by unfold Q5; kernel_rfl
theorem t5_58 : Q5 58 := by unfold Q5; kernel_rfl
theorem t5_59 : Q5 59 := by unfold Q5; kernel_rfl
end Go.Proofs.YtmpfljfffljoeaaGreatDoor.N3
