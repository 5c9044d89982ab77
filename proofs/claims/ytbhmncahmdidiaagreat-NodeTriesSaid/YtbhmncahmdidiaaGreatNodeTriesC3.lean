/-
  NodeTries: cases, part 3.
-/
import Derived.Test.YtbhmncahmdidiaaGreatNodeTriesC0
import Derived.KernelRfl
set_option maxRecDepth 1000000
namespace Go.Proofs.YtbhmncahmdidiaaGreat.Ev
open Go.Ev
theorem cNodeTries8 : runNodeTries [(2, 2), (0, 3), (0, 15)] = true := by kernel_rfl
theorem cNodeTries9 : runNodeTries [(2, 2), (4, 7), (0, 15)] = true := by kernel_rfl
theorem cNodeTries10 : runNodeTries [(2, 2), (8, 11), (0, 15)] = true := by kernel_rfl
theorem cNodeTries11 : runNodeTries [(2, 2), (12, 15), (0, 15)] = true := by kernel_rfl
end Go.Proofs.YtbhmncahmdidiaaGreat.Ev
