/-
  TopSplit: cases, part 7.
-/
import Derived.Test.YtejilihddphnbaaGreatTopSplitC0
import Derived.KernelRfl
set_option maxRecDepth 1000000
namespace Go.Proofs.YtejilihddphnbaaGreat.Ev
open Go.Ev
theorem cTopSplit12 : runTopSplit [(1, 1), (4, 4)] = true := by kernel_rfl
theorem cTopSplit13 : runTopSplit [(1, 1), (5, 5)] = true := by kernel_rfl
end Go.Proofs.YtejilihddphnbaaGreat.Ev
