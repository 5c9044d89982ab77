/-
  NodeSeals: cases, part 2.
-/
import Derived.Test.YtkcccjihafhmdaaGreatNodeSealsC0
import Derived.KernelRfl
set_option maxRecDepth 1000000
namespace Go.Proofs.YtkcccjihafhmdaaGreat.Ev
open Go.Ev
theorem cNodeSeals1 : runNodeSeals [(32, 47)] = true := by kernel_rfl
end Go.Proofs.YtkcccjihafhmdaaGreat.Ev
