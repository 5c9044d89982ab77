/-
  TopSplit: cases, part 19.
-/
import Derived.Test.YtejilihddphnbaaGreatTopSplitC0
import Derived.KernelRfl
set_option maxRecDepth 1000000
set_option maxHeartbeats 1000000
namespace Go.Proofs.YtejilihddphnbaaGreat.Ev
open Go.Ev
theorem cTopSplit21 : runTopSplit [(2, 2), (5, 5)] = true := by kernel_rfl
end Go.Proofs.YtejilihddphnbaaGreat.Ev
