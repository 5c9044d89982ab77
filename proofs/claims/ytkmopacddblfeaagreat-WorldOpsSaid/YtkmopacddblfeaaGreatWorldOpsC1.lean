/-
  WorldOps: cases, part 1.
-/
import Derived.Test.YtkmopacddblfeaaGreatWorldOpsC0
import Derived.KernelRfl
set_option maxRecDepth 1000000
set_option maxHeartbeats 1000000
namespace Go.Proofs.YtkmopacddblfeaaGreat.Ev
open Go.Ev
theorem cWorldOps0 : runWorldOps [(0, 0)] = true := by kernel_rfl
theorem cWorldOps1 : runWorldOps [(1, 1)] = true := by kernel_rfl
end Go.Proofs.YtkmopacddblfeaaGreat.Ev
