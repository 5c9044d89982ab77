/-
  NodeOpens: cases, part 10.
-/
import Derived.Test.YtejilihddphnbaaGreatNodeOpensC0
import Derived.KernelRfl
set_option maxRecDepth 1000000
namespace Go.Proofs.YtejilihddphnbaaGreat.Ev
open Go.Ev
theorem cNodeOpens27 : runNodeOpens true [(27, 27)] = true := by kernel_rfl
theorem cNodeOpens28 : runNodeOpens true [(28, 28)] = true := by kernel_rfl
theorem cNodeOpens29 : runNodeOpens true [(29, 29)] = true := by kernel_rfl
end Go.Proofs.YtejilihddphnbaaGreat.Ev
