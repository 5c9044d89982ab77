/-
  NodeOpens: cases, part 18.
-/
import Derived.Test.YtejilihddphnbaaGreatNodeOpensC0
import Derived.KernelRfl
set_option maxRecDepth 1000000
namespace Go.Proofs.YtejilihddphnbaaGreat.Ev
open Go.Ev
theorem cNodeOpens51 : runNodeOpens false [(19, 19)] = true := by kernel_rfl
theorem cNodeOpens52 : runNodeOpens false [(20, 20)] = true := by kernel_rfl
theorem cNodeOpens53 : runNodeOpens false [(21, 21)] = true := by kernel_rfl
end Go.Proofs.YtejilihddphnbaaGreat.Ev
