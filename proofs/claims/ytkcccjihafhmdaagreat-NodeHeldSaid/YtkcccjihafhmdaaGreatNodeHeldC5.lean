/-
  NodeHeld: cases, part 5.
-/
import Derived.Test.YtkcccjihafhmdaaGreatNodeHeldC0
import Derived.KernelRfl
set_option maxRecDepth 1000000
namespace Go.Proofs.YtkcccjihafhmdaaGreat.Ev
open Go.Ev
theorem cNodeHeld4 : runNodeHeld [(26, 28)] = true := by kernel_rfl
end Go.Proofs.YtkcccjihafhmdaaGreat.Ev
