/-
  NodeOpens: cases, part 2.
-/
import Derived.Test.YtejilihddphnbaaGreatNodeOpensC0
import Derived.KernelRfl
set_option maxRecDepth 1000000
namespace Go.Proofs.YtejilihddphnbaaGreat.Ev
open Go.Ev
theorem cNodeOpens3 : runNodeOpens true [(3, 3)] = true := by kernel_rfl
theorem cNodeOpens4 : runNodeOpens true [(4, 4)] = true := by kernel_rfl
theorem cNodeOpens5 : runNodeOpens true [(5, 5)] = true := by kernel_rfl
end Go.Proofs.YtejilihddphnbaaGreat.Ev
