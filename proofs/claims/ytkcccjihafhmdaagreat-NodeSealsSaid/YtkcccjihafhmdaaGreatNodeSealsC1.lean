/-
  NodeSeals: cases, part 1.
-/
import Derived.Test.YtkcccjihafhmdaaGreatNodeSealsC0
import Derived.KernelRfl
set_option maxRecDepth 1000000
namespace Go.Proofs.YtkcccjihafhmdaaGreat.Ev
open Go.Ev
theorem cNodeSeals0 : runNodeSeals [(0, 31)] = true := by kernel_rfl
end Go.Proofs.YtkcccjihafhmdaaGreat.Ev
