/-
  NodeTries: cases, part 2.
-/
import Derived.Test.YtbhmncahmdidiaaGreatNodeTriesC0
import Derived.KernelRfl
set_option maxRecDepth 1000000
namespace Go.Proofs.YtbhmncahmdidiaaGreat.Ev
open Go.Ev
theorem cNodeTries4 : runNodeTries [(1, 1), (0, 3), (0, 15)] = true := by kernel_rfl
theorem cNodeTries5 : runNodeTries [(1, 1), (4, 7), (0, 15)] = true := by kernel_rfl
theorem cNodeTries6 : runNodeTries [(1, 1), (8, 11), (0, 15)] = true := by kernel_rfl
theorem cNodeTries7 : runNodeTries [(1, 1), (12, 15), (0, 15)] = true := by kernel_rfl
end Go.Proofs.YtbhmncahmdidiaaGreat.Ev
