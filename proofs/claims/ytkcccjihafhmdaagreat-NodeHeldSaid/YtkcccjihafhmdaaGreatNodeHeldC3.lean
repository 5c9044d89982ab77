/-
  NodeHeld: cases, part 3.
-/
import Derived.Test.YtkcccjihafhmdaaGreatNodeHeldC0
import Derived.KernelRfl
set_option maxRecDepth 1000000
namespace Go.Proofs.YtkcccjihafhmdaaGreat.Ev
open Go.Ev
theorem cNodeHeld2 : runNodeHeld [(17, 21)] = true := by kernel_rfl
end Go.Proofs.YtkcccjihafhmdaaGreat.Ev
