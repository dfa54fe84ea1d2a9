/- Closed runs of the statement on orders and weights. No condition. -/
import Derived.Test.YtmpfljfffljoeaaGreatDoorN3
namespace Go.Proofs.YtmpfljfffljoeaaGreatDoor.N3
open Go Go.Proofs Go.Run Go.Eng
set_option maxRecDepth 100000
set_option linter.unusedVariables false
set_option linter.unusedSimpArgs false

theorem t5_105 : Q5 105 := by unfold Q5; kernel_rfl
theorem t5_106 : Q5 106 := by unfold Q5; kernel_rfl
theorem t5_107 : Q5 107 := by unfold Q5; kernel_rfl
theorem t5_108 : Q5 108 := by unfold Q5; kernel_rfl
theorem t5_109 : Q5 109 := by unfold Q5; kernel_rfl
theorem t5_110 : Q5 110 := by unfold Q5; kernel_rfl
theorem t5_111 : Q5 111 := by unfold Q5; kernel_rfl
theorem t5_112 : Q5 112 := by unfold Q5; kernel_rfl
theorem t5_113 : Q5 113 := by unfold Q5; kernel_rfl
theorem t5_114 : Q5 114 := by unfold Q5; kernel_rfl
theorem t5_115 : Q5 115 := by unfold Q5; kernel_rfl
theorem t5_116 : Q5 116 := by unfold Q5; kernel_rfl
theorem t5_117 : Q5 117 := by unfold Q5; kernel_rfl
theorem t5_118 : Q5 118 := by unfold Q5; kernel_rfl
theorem t5_119 : Q5 119 := by unfold Q5; kernel_rfl
end Go.Proofs.YtmpfljfffljoeaaGreatDoor.N3
