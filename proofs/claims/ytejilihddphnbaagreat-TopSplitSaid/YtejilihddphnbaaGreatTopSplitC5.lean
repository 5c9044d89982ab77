/-
  TopSplit: cases, part 5.
-/
import Derived.Test.YtejilihddphnbaaGreatTopSplitC0
import Derived.KernelRfl
set_option maxRecDepth 1000000
namespace Go.Proofs.YtejilihddphnbaaGreat.Ev
open Go.Ev
theorem cTopSplit8 : runTopSplit [(1, 1), (0, 0)] = true := by kernel_rfl
theorem cTopSplit9 : runTopSplit [(1, 1), (1, 1)] = true := by kernel_rfl
end Go.Proofs.YtejilihddphnbaaGreat.Ev
