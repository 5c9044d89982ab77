/-
  NodeOpens: cases, part 19.
-/
import Derived.Test.YtejilihddphnbaaGreatNodeOpensC0
import Derived.KernelRfl
set_option maxRecDepth 1000000
namespace Go.Proofs.YtejilihddphnbaaGreat.Ev
open Go.Ev
theorem cNodeOpens54 : runNodeOpens false [(22, 22)] = true := by kernel_rfl
theorem cNodeOpens55 : runNodeOpens false [(23, 23)] = true := by kernel_rfl
theorem cNodeOpens56 : runNodeOpens false [(24, 24)] = true := by kernel_rfl
end Go.Proofs.YtejilihddphnbaaGreat.Ev
