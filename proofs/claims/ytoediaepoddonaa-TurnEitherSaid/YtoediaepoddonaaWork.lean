/- The chapter's works function returns true. No condition: it has no input. -/
import Derived.Test.YtoediaepoddonaaOk
namespace Go.Proofs.Ytoediaepoddonaa
open Go Go.Proofs Go.Run
theorem says18 : says Pt.pr 1000000 18 = true := by kernel_rfl
end Go.Proofs.Ytoediaepoddonaa
