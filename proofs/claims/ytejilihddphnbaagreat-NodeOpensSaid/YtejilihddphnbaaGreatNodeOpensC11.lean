/-
  NodeOpens: cases, part 11.
-/
import Derived.Test.YtejilihddphnbaaGreatNodeOpensC0
import Derived.KernelRfl
set_option maxRecDepth 1000000
namespace Go.Proofs.YtejilihddphnbaaGreat.Ev
open Go.Ev
theorem cNodeOpens30 : runNodeOpens true [(30, 30)] = true := by kernel_rfl
theorem cNodeOpens31 : runNodeOpens true [(31, 31)] = true := by kernel_rfl
theorem cNodeOpens32 : runNodeOpens false [(0, 0)] = true := by kernel_rfl
end Go.Proofs.YtejilihddphnbaaGreat.Ev
