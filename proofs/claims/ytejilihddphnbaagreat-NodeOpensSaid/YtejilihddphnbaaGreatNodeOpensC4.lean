/-
  NodeOpens: cases, part 4.
-/
import Derived.Test.YtejilihddphnbaaGreatNodeOpensC0
import Derived.KernelRfl
set_option maxRecDepth 1000000
namespace Go.Proofs.YtejilihddphnbaaGreat.Ev
open Go.Ev
theorem cNodeOpens9 : runNodeOpens true [(9, 9)] = true := by kernel_rfl
theorem cNodeOpens10 : runNodeOpens true [(10, 10)] = true := by kernel_rfl
theorem cNodeOpens11 : runNodeOpens true [(11, 11)] = true := by kernel_rfl
end Go.Proofs.YtejilihddphnbaaGreat.Ev
