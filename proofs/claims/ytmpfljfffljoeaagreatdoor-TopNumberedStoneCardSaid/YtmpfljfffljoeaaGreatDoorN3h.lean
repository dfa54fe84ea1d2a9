/- Closed runs of the statement on orders and weights. No condition. -/
import Derived.Test.YtmpfljfffljoeaaGreatDoorN3
namespace Go.Proofs.YtmpfljfffljoeaaGreatDoor.N3
open Go Go.Proofs Go.Run Go.Eng
set_option maxRecDepth 100000
set_option linter.unusedVariables false
set_option linter.unusedSimpArgs false

theorem t5_90 : Q5 90 := by unfold Q5; kernel_rfl
theorem t5_91 : Q5 91 := by unfold Q5; kernel_rfl
theorem t5_92 : Q5 92 := by unfold Q5; kernel_rfl
theorem t5_93 : Q5 93 := by unfold Q5; kernel_rfl
theorem t5_94 : Q5 94 := by unfold Q5; kernel_rfl
theorem t5_95 : Q5 95 := by unfold Q5; kernel_rfl
theorem t5_96 : Q5 96 := by unfold Q5; kernel_rfl
theorem t5_97 : Q5 97 := by unfold Q5; kernel_rfl
theorem t5_98 : Q5 98 := by unfold Q5; kernel_rfl
theorem t5_99 : Q5 99 := by unfold Q5; kernel_rfl
theorem t5_100 : Q5 100 := by unfold Q5; kernel_rfl
theorem t5_101 : Q5 101 := by unfold Q5; kernel_rfl
theorem t5_102 : Q5 102 := by unfold Q5; kernel_rfl
theorem t5_103 : Q5 103 := by unfold Q5; kernel_rfl
theorem t5_104 : Q5 104 := by unfold Q5; kernel_rfl
end Go.Proofs.YtmpfljfffljoeaaGreatDoor.N3
