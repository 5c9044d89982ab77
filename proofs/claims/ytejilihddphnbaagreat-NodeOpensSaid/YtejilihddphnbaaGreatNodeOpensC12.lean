/-
  NodeOpens: cases, part 12.
-/
import Derived.Test.YtejilihddphnbaaGreatNodeOpensC0
import Derived.KernelRfl
set_option maxRecDepth 1000000
namespace Go.Proofs.YtejilihddphnbaaGreat.Ev
open Go.Ev
theorem cNodeOpens33 : runNodeOpens false [(1, 1)] = true := by kernel_rfl
theorem cNodeOpens34 : runNodeOpens false [(2, 2)] = true := by kernel_rfl
theorem cNodeOpens35 : runNodeOpens false [(3, 3)] = true := by kernel_rfl
end Go.Proofs.YtejilihddphnbaaGreat.Ev
