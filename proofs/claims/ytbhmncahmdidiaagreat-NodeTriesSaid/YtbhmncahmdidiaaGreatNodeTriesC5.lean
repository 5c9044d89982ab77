/-
  NodeTries: cases, part 5.
-/
import Derived.Test.YtbhmncahmdidiaaGreatNodeTriesC0
import Derived.KernelRfl
set_option maxRecDepth 1000000
namespace Go.Proofs.YtbhmncahmdidiaaGreat.Ev
open Go.Ev
theorem cNodeTries16 : runNodeTries [(4, 4), (0, 3), (0, 15)] = true := by kernel_rfl
theorem cNodeTries17 : runNodeTries [(4, 4), (4, 7), (0, 15)] = true := by kernel_rfl
theorem cNodeTries18 : runNodeTries [(4, 4), (8, 11), (0, 15)] = true := by kernel_rfl
theorem cNodeTries19 : runNodeTries [(4, 4), (12, 15), (0, 15)] = true := by kernel_rfl
end Go.Proofs.YtbhmncahmdidiaaGreat.Ev
