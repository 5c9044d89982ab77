/-
  TopSplit: cases, part 2.
-/
import Derived.Test.YtejilihddphnbaaGreatTopSplitC0
import Derived.KernelRfl
set_option maxRecDepth 1000000
namespace Go.Proofs.YtejilihddphnbaaGreat.Ev
open Go.Ev
theorem cTopSplit2 : runTopSplit [(0, 0), (2, 2)] = true := by kernel_rfl
theorem cTopSplit3 : runTopSplit [(0, 0), (3, 3)] = true := by kernel_rfl
end Go.Proofs.YtejilihddphnbaaGreat.Ev
