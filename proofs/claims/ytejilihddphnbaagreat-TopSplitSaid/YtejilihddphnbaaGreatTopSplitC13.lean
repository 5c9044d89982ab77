/-
  TopSplit: cases, part 13.
-/
import Derived.Test.YtejilihddphnbaaGreatTopSplitC0
import Derived.KernelRfl
set_option maxRecDepth 1000000
namespace Go.Proofs.YtejilihddphnbaaGreat.Ev
open Go.Ev
theorem cTopSplit24 : runTopSplit [(3, 3), (0, 0)] = true := by kernel_rfl
theorem cTopSplit25 : runTopSplit [(3, 3), (1, 1)] = true := by kernel_rfl
end Go.Proofs.YtejilihddphnbaaGreat.Ev
