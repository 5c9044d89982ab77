/-
  TopSplit: cases, part 6.
-/
import Derived.Test.YtejilihddphnbaaGreatTopSplitC0
import Derived.KernelRfl
set_option maxRecDepth 1000000
namespace Go.Proofs.YtejilihddphnbaaGreat.Ev
open Go.Ev
theorem cTopSplit10 : runTopSplit [(1, 1), (2, 2)] = true := by kernel_rfl
theorem cTopSplit11 : runTopSplit [(1, 1), (3, 3)] = true := by kernel_rfl
end Go.Proofs.YtejilihddphnbaaGreat.Ev
