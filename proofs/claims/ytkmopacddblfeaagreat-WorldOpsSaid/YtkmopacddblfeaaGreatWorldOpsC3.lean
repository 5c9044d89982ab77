/-
  WorldOps: cases, part 3.
-/
import Derived.Test.YtkmopacddblfeaaGreatWorldOpsC0
import Derived.KernelRfl
set_option maxRecDepth 1000000
set_option maxHeartbeats 1000000
namespace Go.Proofs.YtkmopacddblfeaaGreat.Ev
open Go.Ev
theorem cWorldOps4 : runWorldOps [(4, 4)] = true := by kernel_rfl
theorem cWorldOps5 : runWorldOps [(5, 5)] = true := by kernel_rfl
end Go.Proofs.YtkmopacddblfeaaGreat.Ev
