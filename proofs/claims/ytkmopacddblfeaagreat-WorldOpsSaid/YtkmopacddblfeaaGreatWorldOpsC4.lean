/-
  WorldOps: cases, part 4.
-/
import Derived.Test.YtkmopacddblfeaaGreatWorldOpsC0
import Derived.KernelRfl
set_option maxRecDepth 1000000
set_option maxHeartbeats 1000000
namespace Go.Proofs.YtkmopacddblfeaaGreat.Ev
open Go.Ev
theorem cWorldOps6 : runWorldOps [(6, 6)] = true := by kernel_rfl
theorem cWorldOps7 : runWorldOps [(7, 7)] = true := by kernel_rfl
end Go.Proofs.YtkmopacddblfeaaGreat.Ev
