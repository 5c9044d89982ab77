/-
  NodeTries: cases, part 6.
-/
import Derived.Test.YtbhmncahmdidiaaGreatNodeTriesC0
import Derived.KernelRfl
set_option maxRecDepth 1000000
namespace Go.Proofs.YtbhmncahmdidiaaGreat.Ev
open Go.Ev
theorem cNodeTries20 : runNodeTries [(5, 5), (0, 3), (0, 15)] = true := by kernel_rfl
theorem cNodeTries21 : runNodeTries [(5, 5), (4, 7), (0, 15)] = true := by kernel_rfl
theorem cNodeTries22 : runNodeTries [(5, 5), (8, 11), (0, 15)] = true := by kernel_rfl
theorem cNodeTries23 : runNodeTries [(5, 5), (12, 15), (0, 15)] = true := by kernel_rfl
end Go.Proofs.YtbhmncahmdidiaaGreat.Ev
