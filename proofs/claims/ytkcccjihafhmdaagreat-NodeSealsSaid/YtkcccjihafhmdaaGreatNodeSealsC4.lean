/-
  NodeSeals: cases, part 4.
-/
import Derived.Test.YtkcccjihafhmdaaGreatNodeSealsC0
import Derived.KernelRfl
set_option maxRecDepth 1000000
namespace Go.Proofs.YtkcccjihafhmdaaGreat.Ev
open Go.Ev
theorem cNodeSeals3 : runNodeSeals [(56, 63)] = true := by kernel_rfl
end Go.Proofs.YtkcccjihafhmdaaGreat.Ev
