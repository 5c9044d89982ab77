/-
  NodeOpens: cases, part 9.
-/
import Derived.Test.YtejilihddphnbaaGreatNodeOpensC0
import Derived.KernelRfl
set_option maxRecDepth 1000000
namespace Go.Proofs.YtejilihddphnbaaGreat.Ev
open Go.Ev
theorem cNodeOpens24 : runNodeOpens true [(24, 24)] = true := by kernel_rfl
theorem cNodeOpens25 : runNodeOpens true [(25, 25)] = true := by kernel_rfl
theorem cNodeOpens26 : runNodeOpens true [(26, 26)] = true := by kernel_rfl
end Go.Proofs.YtejilihddphnbaaGreat.Ev
