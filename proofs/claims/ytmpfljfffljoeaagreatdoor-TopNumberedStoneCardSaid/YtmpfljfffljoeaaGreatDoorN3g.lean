/- Closed runs of the statement on orders and weights. No condition. -/
import Derived.Test.YtmpfljfffljoeaaGreatDoorN3
namespace Go.Proofs.YtmpfljfffljoeaaGreatDoor.N3
open Go Go.Proofs Go.Run Go.Eng
set_option maxRecDepth 100000
set_option linter.unusedVariables false
set_option linter.unusedSimpArgs false

theorem t5_75 : Q5 75 := by unfold Q5; kernel_rfl
theorem t5_76 : Q5 76 := by unfold Q5; kernel_rfl
theorem t5_77 : Q5 77 := by unfold Q5; kernel_rfl
theorem t5_78 : Q5 78 := by unfold Q5; kernel_rfl
theorem t5_79 : Q5 79 := by unfold Q5; kernel_rfl
theorem t5_80 : Q5 80 := by unfold Q5; kernel_rfl
theorem t5_81 : Q5 81 := by unfold Q5; kernel_rfl
theorem t5_82 : Q5 82 := by unfold Q5; kernel_rfl
theorem t5_83 : Q5 83 := by unfold Q5; kernel_rfl
theorem t5_84 : Q5 84 := by unfold Q5; kernel_rfl
theorem t5_85 : Q5 85 := by unfold Q5; kernel_rfl
theorem t5_86 : Q5 86 := by unfold Q5; kernel_rfl
theorem t5_87 : Q5 87 := by unfold Q5; kernel_rfl
theorem t5_88 : Q5 88 := by unfold Q5; kernel_rfl
theorem t5_89 : Q5 89 := by unfold Q5; kernel_rfl
end Go.Proofs.YtmpfljfffljoeaaGreatDoor.N3
