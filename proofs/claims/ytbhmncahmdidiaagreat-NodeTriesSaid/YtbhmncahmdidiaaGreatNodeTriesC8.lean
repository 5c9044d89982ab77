/-
  NodeTries: cases, part 8.
-/
import Derived.Test.YtbhmncahmdidiaaGreatNodeTriesC0
import Derived.KernelRfl
set_option maxRecDepth 1000000
namespace Go.Proofs.YtbhmncahmdidiaaGreat.Ev
open Go.Ev
theorem cNodeTries28 : runNodeTries [(7, 7), (0, 3), (0, 15)] = true := by kernel_rfl
theorem cNodeTries29 : runNodeTries [(7, 7), (4, 7), (0, 15)] = true := by kernel_rfl
theorem cNodeTries30 : runNodeTries [(7, 7), (8, 11), (0, 15)] = true := by kernel_rfl
theorem cNodeTries31 : runNodeTries [(7, 7), (12, 15), (0, 15)] = true := by kernel_rfl
end Go.Proofs.YtbhmncahmdidiaaGreat.Ev
