/-
  NodeOpens: cases, part 7.
-/
import Derived.Test.YtejilihddphnbaaGreatNodeOpensC0
import Derived.KernelRfl
set_option maxRecDepth 1000000
namespace Go.Proofs.YtejilihddphnbaaGreat.Ev
open Go.Ev
theorem cNodeOpens18 : runNodeOpens true [(18, 18)] = true := by kernel_rfl
theorem cNodeOpens19 : runNodeOpens true [(19, 19)] = true := by kernel_rfl
theorem cNodeOpens20 : runNodeOpens true [(20, 20)] = true := by kernel_rfl
end Go.Proofs.YtejilihddphnbaaGreat.Ev
