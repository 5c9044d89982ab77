/-
  NodeOpens: cases, part 17.
-/
import Derived.Test.YtejilihddphnbaaGreatNodeOpensC0
import Derived.KernelRfl
set_option maxRecDepth 1000000
namespace Go.Proofs.YtejilihddphnbaaGreat.Ev
open Go.Ev
theorem cNodeOpens48 : runNodeOpens false [(16, 16)] = true := by kernel_rfl
theorem cNodeOpens49 : runNodeOpens false [(17, 17)] = true := by kernel_rfl
theorem cNodeOpens50 : runNodeOpens false [(18, 18)] = true := by kernel_rfl
end Go.Proofs.YtejilihddphnbaaGreat.Ev
