/-
  NodeTries: cases, part 4.
-/
import Derived.Test.YtbhmncahmdidiaaGreatNodeTriesC0
import Derived.KernelRfl
set_option maxRecDepth 1000000
namespace Go.Proofs.YtbhmncahmdidiaaGreat.Ev
open Go.Ev
theorem cNodeTries12 : runNodeTries [(3, 3), (0, 3), (0, 15)] = true := by kernel_rfl
theorem cNodeTries13 : runNodeTries [(3, 3), (4, 7), (0, 15)] = true := by kernel_rfl
theorem cNodeTries14 : runNodeTries [(3, 3), (8, 11), (0, 15)] = true := by kernel_rfl
theorem cNodeTries15 : runNodeTries [(3, 3), (12, 15), (0, 15)] = true := by kernel_rfl
end Go.Proofs.YtbhmncahmdidiaaGreat.Ev
