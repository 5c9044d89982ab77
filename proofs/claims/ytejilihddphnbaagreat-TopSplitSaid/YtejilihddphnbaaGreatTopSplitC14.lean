/-
  TopSplit: cases, part 14.
-/
import Derived.Test.YtejilihddphnbaaGreatTopSplitC0
import Derived.KernelRfl
set_option maxRecDepth 1000000
namespace Go.Proofs.YtejilihddphnbaaGreat.Ev
open Go.Ev
theorem cTopSplit26 : runTopSplit [(3, 3), (2, 2)] = true := by kernel_rfl
theorem cTopSplit27 : runTopSplit [(3, 3), (3, 3)] = true := by kernel_rfl
end Go.Proofs.YtejilihddphnbaaGreat.Ev
