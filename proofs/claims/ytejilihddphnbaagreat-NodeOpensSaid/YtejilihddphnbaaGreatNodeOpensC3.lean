/-
  NodeOpens: cases, part 3.
-/
import Derived.Test.YtejilihddphnbaaGreatNodeOpensC0
import Derived.KernelRfl
set_option maxRecDepth 1000000
namespace Go.Proofs.YtejilihddphnbaaGreat.Ev
open Go.Ev
theorem cNodeOpens6 : runNodeOpens true [(6, 6)] = true := by kernel_rfl
theorem cNodeOpens7 : runNodeOpens true [(7, 7)] = true := by kernel_rfl
theorem cNodeOpens8 : runNodeOpens true [(8, 8)] = true := by kernel_rfl
end Go.Proofs.YtejilihddphnbaaGreat.Ev
