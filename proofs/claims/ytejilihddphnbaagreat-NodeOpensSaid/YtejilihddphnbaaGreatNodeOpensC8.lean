/-
  NodeOpens: cases, part 8.
-/
import Derived.Test.YtejilihddphnbaaGreatNodeOpensC0
import Derived.KernelRfl
set_option maxRecDepth 1000000
namespace Go.Proofs.YtejilihddphnbaaGreat.Ev
open Go.Ev
theorem cNodeOpens21 : runNodeOpens true [(21, 21)] = true := by kernel_rfl
theorem cNodeOpens22 : runNodeOpens true [(22, 22)] = true := by kernel_rfl
theorem cNodeOpens23 : runNodeOpens true [(23, 23)] = true := by kernel_rfl
end Go.Proofs.YtejilihddphnbaaGreat.Ev
