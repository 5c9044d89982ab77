/-
  NodeOpens: cases, part 22.
-/
import Derived.Test.YtejilihddphnbaaGreatNodeOpensC0
import Derived.KernelRfl
set_option maxRecDepth 1000000
namespace Go.Proofs.YtejilihddphnbaaGreat.Ev
open Go.Ev
theorem cNodeOpens63 : runNodeOpens false [(31, 31)] = true := by kernel_rfl
end Go.Proofs.YtejilihddphnbaaGreat.Ev
