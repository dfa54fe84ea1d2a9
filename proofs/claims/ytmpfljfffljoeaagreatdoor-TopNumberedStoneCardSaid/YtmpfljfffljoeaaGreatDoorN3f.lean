/- Closed runs of the statement on orders and weights. No condition. -/
import Derived.Test.YtmpfljfffljoeaaGreatDoorN3
namespace Go.Proofs.YtmpfljfffljoeaaGreatDoor.N3
open Go Go.Proofs Go.Run Go.Eng
set_option maxRecDepth 100000
set_option linter.unusedVariables false
set_option linter.unusedSimpArgs false

theorem t5_60 : Q5 60 := by unfold Q5; kernel_rfl
theorem t5_61 : Q5 61 := by unfold Q5; kernel_rfl
theorem t5_62 : Q5 62 := by unfold Q5; kernel_rfl
theorem t5_63 : Q5 63 := by unfold Q5; kernel_rfl
theorem t5_64 : Q5 64 := by unfold Q5; kernel_rfl
theorem t5_65 : Q5 65 := by unfold Q5; kernel_rfl
theorem t5_66 : Q5 66 := by unfold Q5; kernel_rfl
theorem t5_67 : Q5 67 := by unfold Q5; kernel_rfl
theorem t5_68 : Q5 68 := by unfold Q5; kernel_rfl
theorem t5_69 : Q5 69 := by unfold Q5; kernel_rfl
theorem t5_70 : Q5 70 := by unfold Q5; kernel_rfl
theorem t5_71 : Q5 71 := by unfold Q5; kernel_rfl
theorem t5_72 : Q5 72 := by unfold Q5; kernel_rfl
theorem t5_73 : Q5 73 := by unfold Q5; kernel_rfl
theorem t5_74 : Q5 74 := by unfold Q5; kernel_rfl
end Go.Proofs.YtmpfljfffljoeaaGreatDoor.N3
