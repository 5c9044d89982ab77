/-
  NodeSeals: cases, part 3.
-/
import Derived.Test.YtkcccjihafhmdaaGreatNodeSealsC0
import Derived.KernelRfl
set_option maxRecDepth 1000000
namespace Go.Proofs.YtkcccjihafhmdaaGreat.Ev
open Go.Ev
theorem cNodeSeals2 : runNodeSeals [(48, 55)] = true := by kernel_rfl
end Go.Proofs.YtkcccjihafhmdaaGreat.Ev
