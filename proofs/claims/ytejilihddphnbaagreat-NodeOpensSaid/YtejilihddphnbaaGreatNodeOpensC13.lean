/-
  NodeOpens: cases, part 13.
-/
import Derived.Test.YtejilihddphnbaaGreatNodeOpensC0
import Derived.KernelRfl
set_option maxRecDepth 1000000
namespace Go.Proofs.YtejilihddphnbaaGreat.Ev
open Go.Ev
theorem cNodeOpens36 : runNodeOpens false [(4, 4)] = true := by kernel_rfl
theorem cNodeOpens37 : runNodeOpens false [(5, 5)] = true := by kernel_rfl
theorem cNodeOpens38 : runNodeOpens false [(6, 6)] = true := by kernel_rfl
end Go.Proofs.YtejilihddphnbaaGreat.Ev
