/-
  NodeHeld: cases, part 1.
-/
import Derived.Test.YtkcccjihafhmdaaGreatNodeHeldC0
import Derived.KernelRfl
set_option maxRecDepth 1000000
namespace Go.Proofs.YtkcccjihafhmdaaGreat.Ev
open Go.Ev
theorem cNodeHeld0 : runNodeHeld [(0, 9)] = true := by kernel_rfl
end Go.Proofs.YtkcccjihafhmdaaGreat.Ev
