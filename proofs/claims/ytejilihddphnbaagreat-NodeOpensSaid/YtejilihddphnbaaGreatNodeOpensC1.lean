/-
  NodeOpens: cases, part 1.
-/
import Derived.Test.YtejilihddphnbaaGreatNodeOpensC0
import Derived.KernelRfl
set_option maxRecDepth 1000000
namespace Go.Proofs.YtejilihddphnbaaGreat.Ev
open Go.Ev
theorem cNodeOpens0 : runNodeOpens true [(0, 0)] = true := by kernel_rfl
theorem cNodeOpens1 : runNodeOpens true [(1, 1)] = true := by kernel_rfl
theorem cNodeOpens2 : runNodeOpens true [(2, 2)] = true := by kernel_rfl
end Go.Proofs.YtejilihddphnbaaGreat.Ev
