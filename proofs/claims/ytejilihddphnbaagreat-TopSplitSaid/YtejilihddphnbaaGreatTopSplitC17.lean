/-
  TopSplit: cases, part 17.
-/
import Derived.Test.YtejilihddphnbaaGreatTopSplitC0
import Derived.KernelRfl
set_option maxRecDepth 1000000
set_option maxHeartbeats 1000000
namespace Go.Proofs.YtejilihddphnbaaGreat.Ev
open Go.Ev
theorem cTopSplit7 : runTopSplit [(0, 0), (7, 7)] = true := by kernel_rfl
end Go.Proofs.YtejilihddphnbaaGreat.Ev
