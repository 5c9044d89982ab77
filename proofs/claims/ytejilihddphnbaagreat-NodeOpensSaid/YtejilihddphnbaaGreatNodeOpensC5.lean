/-
  NodeOpens: cases, part 5.
-/
import Derived.Test.YtejilihddphnbaaGreatNodeOpensC0
import Derived.KernelRfl
set_option maxRecDepth 1000000
namespace Go.Proofs.YtejilihddphnbaaGreat.Ev
open Go.Ev
theorem cNodeOpens12 : runNodeOpens true [(12, 12)] = true := by kernel_rfl
theorem cNodeOpens13 : runNodeOpens true [(13, 13)] = true := by kernel_rfl
theorem cNodeOpens14 : runNodeOpens true [(14, 14)] = true := by kernel_rfl
end Go.Proofs.YtejilihddphnbaaGreat.Ev
