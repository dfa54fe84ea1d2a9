/- Closed runs of the statement on rims and weights. No condition. -/
import Derived.Test.YtmpfljfffljoeaaGreatDoorR4
namespace Go.Proofs.YtmpfljfffljoeaaGreatDoor.R4
open Go Go.Proofs Go.Run Go.Eng
set_option maxRecDepth 100000
set_option linter.unusedVariables false
set_option linter.unusedSimpArgs false
theorem t21_0 : Q21 0 := by unfold Q21; kernel_rfl
theorem t21_1 : Q21 1 := by unfold Q21; kernel_rfl
theorem t22_0 : Q22 0 := by unfold Q22; kernel_rfl
theorem t22_1 : Q22 1 := by unfold Q22; kernel_rfl
theorem t22_2 : Q22 2 := by unfold Q22; kernel_rfl
theorem t22_3 : Q22 3 := by unfold Q22; kernel_rfl
theorem t23_0 : Q23 0 := by unfold Q23; kernel_rfl
theorem t23_1 : Q23 1 := by unfold Q23; kernel_rfl
theorem t23_2 : Q23 2 := by unfold Q23; kernel_rfl
theorem t23_3 : Q23 3 := by unfold Q23; kernel_rfl
theorem t23_4 : Q23 4 := by unfold Q23; kernel_rfl
theorem t23_5 : Q23 5 := by unfold Q23; kernel_rfl
theorem t23_6 : Q23 6 := by unfold Q23; kernel_rfl
theorem t23_7 : Q23 7 := by unfold Q23; kernel_rfl
theorem t31_0 : Q31 0 := by unfold Q31; kernel_rfl
theorem t31_1 : Q31 1 := by unfold Q31; kernel_rfl
theorem t31_2 : Q31 2 := by unfold Q31; kernel_rfl
theorem t32_0 : Q32 0 := by unfold Q32; kernel_rfl
theorem t32_1 : Q32 1 := by unfold Q32; kernel_rfl
theorem t32_2 : Q32 2 := by unfold Q32; kernel_rfl
theorem t32_3 : Q32 3 := by unfold Q32; kernel_rfl
theorem t32_4 : Q32 4 := by unfold Q32; kernel_rfl
theorem t32_5 : Q32 5 := by unfold Q32; kernel_rfl
theorem t32_6 : Q32 6 := by unfold Q32; kernel_rfl
theorem t32_7 : Q32 7 := by unfold Q32; kernel_rfl
theorem t32_8 : Q32 8 := by unfold Q32; kernel_rfl
theorem t33_0 : Q33 0 := by unfold Q33; kernel_rfl
theorem t33_1 : Q33 1 := by unfold Q33; kernel_rfl
theorem t33_2 : Q33 2 := by unfold Q33; kernel_rfl
theorem t33_3 : Q33 3 := by unfold Q33; kernel_rfl
theorem t33_4 : Q33 4 := by unfold Q33; kernel_rfl
theorem t33_5 : Q33 5 := by unfold Q33; kernel_rfl
theorem t33_6 : Q33 6 := by unfold Q33; kernel_rfl
theorem t33_7 : Q33 7 := by unfold Q33; kernel_rfl
theorem t33_8 : Q33 8 := by unfold Q33; kernel_rfl
theorem t33_9 : Q33 9 := by unfold Q33; kernel_rfl
theorem t33_10 : Q33 10 := by unfold Q33; kernel_rfl
theorem t33_11 : Q33 11 := by unfold Q33; kernel_rfl
theorem t33_12 : Q33 12 := by unfold Q33; kernel_rfl
theorem t33_13 : Q33 13 := by unfold Q33; kernel_rfl
theorem t33_14 : Q33 14 := by unfold Q33; kernel_rfl
theorem t33_15 : Q33 15 := by unfold Q33; kernel_rfl
theorem t33_16 : Q33 16 := by unfold Q33; kernel_rfl
theorem t33_17 : Q33 17 := by unfold Q33; kernel_rfl
theorem t33_18 : Q33 18 := by unfold Q33; kernel_rfl
theorem t33_19 : Q33 19 := by unfold Q33; kernel_rfl
theorem t33_20 : Q33 20 := by unfold Q33; kernel_rfl
theorem t33_21 : Q33 21 := by unfold Q33; kernel_rfl
theorem t33_22 : Q33 22 := by unfold Q33; kernel_rfl
theorem t33_23 : Q33 23 := by unfold Q33; kernel_rfl
theorem t33_24 : Q33 24 := by unfold Q33; kernel_rfl
theorem t33_25 : Q33 25 := by unfold Q33; kernel_rfl
theorem t33_26 : Q33 26 := by unfold Q33; kernel_rfl
theorem t41_0 : Q41 0 := by unfold Q41; kernel_rfl
theorem t41_1 : Q41 1 := by unfold Q41; kernel_rfl
theorem t41_2 : Q41 2 := by unfold Q41; kernel_rfl
theorem t41_3 : Q41 3 := by unfold Q41; kernel_rfl
theorem t42_0 : Q42 0 := by unfold Q42; kernel_rfl
theorem t42_1 : Q42 1 := by unfold Q42; kernel_rfl
theorem t42_2 : Q42 2 := by unfold Q42; kernel_rfl
theorem t42_3 : Q42 3 := by unfold Q42; kernel_rfl
theorem t42_4 : Q42 4 := by unfold Q42; kernel_rfl
theorem t42_5 : Q42 5 := by unfold Q42; kernel_rfl
theorem t42_6 : Q42 6 := by unfold Q42; kernel_rfl
theorem t42_7 : Q42 7 := by unfold Q42; kernel_rfl
theorem t42_8 : Q42 8 := by unfold Q42; kernel_rfl
theorem t42_9 : Q42 9 := by unfold Q42; kernel_rfl
theorem t42_10 : Q42 10 := by unfold Q42; kernel_rfl
theorem t42_11 : Q42 11 := by unfold Q42; kernel_rfl
theorem t42_12 : Q42 12 := by unfold Q42; kernel_rfl
theorem t42_13 : Q42 13 := by unfold Q42; kernel_rfl
theorem t42_14 : Q42 14 := by unfold Q42; kernel_rfl
end Go.Proofs.YtmpfljfffljoeaaGreatDoor.R4
