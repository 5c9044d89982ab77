/-
  NodeOpens: cases, part 16.
-/
import Derived.Test.YtejilihddphnbaaGreatNodeOpensC0
import Derived.KernelRfl
set_option maxRecDepth 1000000
namespace Go.Proofs.YtejilihddphnbaaGreat.Ev
open Go.Ev
theorem cNodeOpens45 : runNodeOpens false [(13, 13)] = true := by kernel_rfl
theorem cNodeOpens46 : runNodeOpens false [(14, 14)] = true := by kernel_rfl
theorem cNodeOpens47 : runNodeOpens false [(15, 15)] = true := by kernel_rfl
end Go.Proofs.YtejilihddphnbaaGreat.Ev
