/-
  TopSplit: cases, part 9.
-/
import Derived.Test.YtejilihddphnbaaGreatTopSplitC0
import Derived.KernelRfl
set_option maxRecDepth 1000000
namespace Go.Proofs.YtejilihddphnbaaGreat.Ev
open Go.Ev
theorem cTopSplit16 : runTopSplit [(2, 2), (0, 0)] = true := by kernel_rfl
theorem cTopSplit17 : runTopSplit [(2, 2), (1, 1)] = true := by kernel_rfl
end Go.Proofs.YtejilihddphnbaaGreat.Ev
