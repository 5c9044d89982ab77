/-
  TopSplit: cases, part 10.
-/
import Derived.Test.YtejilihddphnbaaGreatTopSplitC0
import Derived.KernelRfl
set_option maxRecDepth 1000000
namespace Go.Proofs.YtejilihddphnbaaGreat.Ev
open Go.Ev
theorem cTopSplit18 : runTopSplit [(2, 2), (2, 2)] = true := by kernel_rfl
theorem cTopSplit19 : runTopSplit [(2, 2), (3, 3)] = true := by kernel_rfl
end Go.Proofs.YtejilihddphnbaaGreat.Ev
