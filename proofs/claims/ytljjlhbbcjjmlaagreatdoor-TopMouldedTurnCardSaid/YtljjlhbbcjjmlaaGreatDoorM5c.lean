/- Closed runs of the statement on moulds and turns. No condition. -/
import Derived.Test.YtljjlhbbcjjmlaaGreatDoorM5
namespace Go.Proofs.YtljjlhbbcjjmlaaGreatDoor.M5
open Go Go.Proofs Go.Run Go.Eng
set_option maxRecDepth 100000
set_option linter.unusedVariables false
set_option linter.unusedSimpArgs false
theorem t3_0:Q 3 0:=by unfold Q;kernel_rfl
theorem t3_1:Q 3 1:=by unfold Q;kernel_rfl
theorem t3_2:Q 3 2:=by unfold Q;kernel_rfl
theorem t3_3:Q 3 3:=by unfold Q;kernel_rfl
theorem t3_4:Q 3 4:=by unfold Q;kernel_rfl
theorem t3_5:Q 3 5:=by unfold Q;kernel_rfl
end Go.Proofs.YtljjlhbbcjjmlaaGreatDoor.M5
