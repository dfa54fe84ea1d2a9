/- Closed runs of the statement on moulds and turns. No condition. -/
import Derived.Test.YtljjlhbbcjjmlaaGreatDoorM5
namespace Go.Proofs.YtljjlhbbcjjmlaaGreatDoor.M5
open Go Go.Proofs Go.Run Go.Eng
set_option maxRecDepth 100000
set_option linter.unusedVariables false
set_option linter.unusedSimpArgs false
theorem t1_0:Q 1 0:=by unfold Q;kernel_rfl
theorem t1_1:Q 1 1:=by unfold Q;kernel_rfl
theorem t1_2:Q 1 2:=by unfold Q;kernel_rfl
theorem t1_3:Q 1 3:=by unfold Q;kernel_rfl
theorem t1_4:Q 1 4:=by unfold Q;kernel_rfl
theorem t1_5:Q 1 5:=by unfold Q;kernel_rfl
end Go.Proofs.YtljjlhbbcjjmlaaGreatDoor.M5
