/-
  NodeTries: cases, part 1.
-/
import Derived.Test.YtbhmncahmdidiaaGreatNodeTriesC0
import Derived.KernelRfl
set_option maxRecDepth 1000000
namespace Go.Proofs.YtbhmncahmdidiaaGreat.Ev
open Go.Ev
theorem cNodeTries0 : runNodeTries [(0, 0), (0, 3), (0, 15)] = true := by kernel_rfl
theorem cNodeTries1 : runNodeTries [(0, 0), (4, 7), (0, 15)] = true := by kernel_rfl
theorem cNodeTries2 : runNodeTries [(0, 0), (8, 11), (0, 15)] = true := by kernel_rfl
theorem cNodeTries3 : runNodeTries [(0, 0), (12, 15), (0, 15)] = true := by kernel_rfl
end Go.Proofs.YtbhmncahmdidiaaGreat.Ev
