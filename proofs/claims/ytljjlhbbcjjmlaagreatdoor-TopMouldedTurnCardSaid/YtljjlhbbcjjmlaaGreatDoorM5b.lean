/- Closed runs of the statement on moulds and turns. No condition. -/
import Derived.Test.YtljjlhbbcjjmlaaGreatDoorM5
namespace Go.Proofs.YtljjlhbbcjjmlaaGreatDoor.M5
open Go Go.Proofs Go.Run Go.Eng
set_option maxRecDepth 100000
set_option linter.unusedVariables false
set_option linter.unusedSimpArgs false
theorem t2_0:Q 2 0:=by unfold Q;kernel_rfl
theorem t2_1:Q 2 1:=by unfold Q;kernel_rfl
theorem t2_2:Q 2 2:=by unfold Q;kernel_rfl
theorem t2_3:Q 2 3:=by unfold Q;kernel_rfl
theorem t2_4:Q 2 4:=by unfold Q;kernel_rfl
theorem t2_5:Q 2 5:=by unfold Q;kernel_rfl
end Go.Proofs.YtljjlhbbcjjmlaaGreatDoor.M5
