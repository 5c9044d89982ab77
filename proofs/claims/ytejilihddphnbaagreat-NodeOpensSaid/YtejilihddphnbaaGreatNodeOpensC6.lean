/-
  NodeOpens: cases, part 6.
-/
import Derived.Test.YtejilihddphnbaaGreatNodeOpensC0
import Derived.KernelRfl
set_option maxRecDepth 1000000
namespace Go.Proofs.YtejilihddphnbaaGreat.Ev
open Go.Ev
theorem cNodeOpens15 : runNodeOpens true [(15, 15)] = true := by kernel_rfl
theorem cNodeOpens16 : runNodeOpens true [(16, 16)] = true := by kernel_rfl
theorem cNodeOpens17 : runNodeOpens true [(17, 17)] = true := by kernel_rfl
end Go.Proofs.YtejilihddphnbaaGreat.Ev
