/-
  NodeTries: cases, part 7.
-/
import Derived.Test.YtbhmncahmdidiaaGreatNodeTriesC0
import Derived.KernelRfl
set_option maxRecDepth 1000000
namespace Go.Proofs.YtbhmncahmdidiaaGreat.Ev
open Go.Ev
theorem cNodeTries24 : runNodeTries [(6, 6), (0, 3), (0, 15)] = true := by kernel_rfl
theorem cNodeTries25 : runNodeTries [(6, 6), (4, 7), (0, 15)] = true := by kernel_rfl
theorem cNodeTries26 : runNodeTries [(6, 6), (8, 11), (0, 15)] = true := by kernel_rfl
theorem cNodeTries27 : runNodeTries [(6, 6), (12, 15), (0, 15)] = true := by kernel_rfl
end Go.Proofs.YtbhmncahmdidiaaGreat.Ev
