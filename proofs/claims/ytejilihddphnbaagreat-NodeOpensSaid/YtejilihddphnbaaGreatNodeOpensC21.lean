/-
  NodeOpens: cases, part 21.
-/
import Derived.Test.YtejilihddphnbaaGreatNodeOpensC0
import Derived.KernelRfl
set_option maxRecDepth 1000000
namespace Go.Proofs.YtejilihddphnbaaGreat.Ev
open Go.Ev
theorem cNodeOpens60 : runNodeOpens false [(28, 28)] = true := by kernel_rfl
theorem cNodeOpens61 : runNodeOpens false [(29, 29)] = true := by kernel_rfl
theorem cNodeOpens62 : runNodeOpens false [(30, 30)] = true := by kernel_rfl
end Go.Proofs.YtejilihddphnbaaGreat.Ev
