/-
  TopSplit: cases, part 1.
-/
import Derived.Test.YtejilihddphnbaaGreatTopSplitC0
import Derived.KernelRfl
set_option maxRecDepth 1000000
namespace Go.Proofs.YtejilihddphnbaaGreat.Ev
open Go.Ev
theorem cTopSplit0 : runTopSplit [(0, 0), (0, 0)] = true := by kernel_rfl
theorem cTopSplit1 : runTopSplit [(0, 0), (1, 1)] = true := by kernel_rfl
end Go.Proofs.YtejilihddphnbaaGreat.Ev
