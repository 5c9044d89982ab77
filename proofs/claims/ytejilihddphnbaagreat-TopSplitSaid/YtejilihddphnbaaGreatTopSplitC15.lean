/-
  TopSplit: cases, part 15.
-/
import Derived.Test.YtejilihddphnbaaGreatTopSplitC0
import Derived.KernelRfl
set_option maxRecDepth 1000000
set_option maxHeartbeats 1000000
namespace Go.Proofs.YtejilihddphnbaaGreat.Ev
open Go.Ev
theorem cTopSplit28 : runTopSplit [(3, 3), (4, 4)] = true := by kernel_rfl
end Go.Proofs.YtejilihddphnbaaGreat.Ev
