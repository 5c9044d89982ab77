/-
  NodeHeld: cases, part 4.
-/
import Derived.Test.YtkcccjihafhmdaaGreatNodeHeldC0
import Derived.KernelRfl
set_option maxRecDepth 1000000
namespace Go.Proofs.YtkcccjihafhmdaaGreat.Ev
open Go.Ev
theorem cNodeHeld3 : runNodeHeld [(22, 25)] = true := by kernel_rfl
end Go.Proofs.YtkcccjihafhmdaaGreat.Ev
