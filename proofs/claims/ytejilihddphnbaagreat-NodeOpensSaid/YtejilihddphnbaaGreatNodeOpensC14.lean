/-
  NodeOpens: cases, part 14.
-/
import Derived.Test.YtejilihddphnbaaGreatNodeOpensC0
import Derived.KernelRfl
set_option maxRecDepth 1000000
namespace Go.Proofs.YtejilihddphnbaaGreat.Ev
open Go.Ev
theorem cNodeOpens39 : runNodeOpens false [(7, 7)] = true := by kernel_rfl
theorem cNodeOpens40 : runNodeOpens false [(8, 8)] = true := by kernel_rfl
theorem cNodeOpens41 : runNodeOpens false [(9, 9)] = true := by kernel_rfl
end Go.Proofs.YtejilihddphnbaaGreat.Ev
