/-
  NodeOpens: cases, part 15.
-/
import Derived.Test.YtejilihddphnbaaGreatNodeOpensC0
import Derived.KernelRfl
set_option maxRecDepth 1000000
namespace Go.Proofs.YtejilihddphnbaaGreat.Ev
open Go.Ev
theorem cNodeOpens42 : runNodeOpens false [(10, 10)] = true := by kernel_rfl
theorem cNodeOpens43 : runNodeOpens false [(11, 11)] = true := by kernel_rfl
theorem cNodeOpens44 : runNodeOpens false [(12, 12)] = true := by kernel_rfl
end Go.Proofs.YtejilihddphnbaaGreat.Ev
