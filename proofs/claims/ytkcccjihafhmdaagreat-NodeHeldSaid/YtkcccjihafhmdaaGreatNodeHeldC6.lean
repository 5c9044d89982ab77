/-
  NodeHeld: cases, part 6.
-/
import Derived.Test.YtkcccjihafhmdaaGreatNodeHeldC0
import Derived.KernelRfl
set_option maxRecDepth 1000000
namespace Go.Proofs.YtkcccjihafhmdaaGreat.Ev
open Go.Ev
theorem cNodeHeld5 : runNodeHeld [(29, 31)] = true := by kernel_rfl
end Go.Proofs.YtkcccjihafhmdaaGreat.Ev
