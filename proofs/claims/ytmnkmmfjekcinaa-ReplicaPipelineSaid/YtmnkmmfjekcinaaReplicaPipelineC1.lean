/-
  ReplicaPipeline: cases, part 1.
-/
import Derived.Test.YtmnkmmfjekcinaaReplicaPipelineC0
import Derived.KernelRfl
set_option maxRecDepth 1000000
namespace Go.Proofs.Ytmnkmmfjekcinaa.Ev
open Go.Ev
theorem cReplicaPipeline0 : runReplicaPipeline [(0, 0), (0, 7)] = true := by kernel_rfl
theorem cReplicaPipeline1 : runReplicaPipeline [(1, 1), (0, 7)] = true := by kernel_rfl
theorem cReplicaPipeline2 : runReplicaPipeline [(2, 2), (0, 7)] = true := by kernel_rfl
theorem cReplicaPipeline3 : runReplicaPipeline [(3, 3), (0, 7)] = true := by kernel_rfl
end Go.Proofs.Ytmnkmmfjekcinaa.Ev
