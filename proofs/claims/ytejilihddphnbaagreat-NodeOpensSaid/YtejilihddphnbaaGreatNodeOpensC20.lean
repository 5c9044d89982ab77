/-
  NodeOpens: cases, part 20.
-/
import Derived.Test.YtejilihddphnbaaGreatNodeOpensC0
import Derived.KernelRfl
set_option maxRecDepth 1000000
namespace Go.Proofs.YtejilihddphnbaaGreat.Ev
open Go.Ev
theorem cNodeOpens57 : runNodeOpens false [(25, 25)] = true := by kernel_rfl
theorem cNodeOpens58 : runNodeOpens false [(26, 26)] = true := by kernel_rfl
theorem cNodeOpens59 : runNodeOpens false [(27, 27)] = true := by kernel_rfl
end Go.Proofs.YtejilihddphnbaaGreat.Ev
