/-
  WorldOps: cases, part 2.
-/
import Derived.Test.YtkmopacddblfeaaGreatWorldOpsC0
import Derived.KernelRfl
set_option maxRecDepth 1000000
set_option maxHeartbeats 1000000
namespace Go.Proofs.YtkmopacddblfeaaGreat.Ev
open Go.Ev
theorem cWorldOps2 : runWorldOps [(2, 2)] = true := by kernel_rfl
theorem cWorldOps3 : runWorldOps [(3, 3)] = true := by kernel_rfl
end Go.Proofs.YtkmopacddblfeaaGreat.Ev
