/-
  WorldDown: cases, part 2.
-/
import Derived.Test.YtkcccjihafhmdaaGreatWorldDownC0
import Derived.KernelRfl
set_option maxRecDepth 1000000
namespace Go.Proofs.YtkcccjihafhmdaaGreat.Ev
open Go.Ev
theorem cWorldDown1 : runWorldDown [(1, 1), (0, 1023), (0, 15), (0, 63)] = true := by kernel_rfl
end Go.Proofs.YtkcccjihafhmdaaGreat.Ev
