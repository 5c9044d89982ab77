/-
  TopSplit: cases, part 3.
-/
import Derived.Test.YtejilihddphnbaaGreatTopSplitC0
import Derived.KernelRfl
set_option maxRecDepth 1000000
namespace Go.Proofs.YtejilihddphnbaaGreat.Ev
open Go.Ev
theorem cTopSplit4 : runTopSplit [(0, 0), (4, 4)] = true := by kernel_rfl
theorem cTopSplit5 : runTopSplit [(0, 0), (5, 5)] = true := by kernel_rfl
end Go.Proofs.YtejilihddphnbaaGreat.Ev
