/-
  NodeHeld: cases, part 2.
-/
import Derived.Test.YtkcccjihafhmdaaGreatNodeHeldC0
import Derived.KernelRfl
set_option maxRecDepth 1000000
namespace Go.Proofs.YtkcccjihafhmdaaGreat.Ev
open Go.Ev
theorem cNodeHeld1 : runNodeHeld [(10, 16)] = true := by kernel_rfl
end Go.Proofs.YtkcccjihafhmdaaGreat.Ev
