/-
  ReplicaPipeline: cases, part 2.
-/
import Derived.Test.YtmnkmmfjekcinaaReplicaPipelineC0
import Derived.KernelRfl
set_option maxRecDepth 1000000
namespace Go.Proofs.Ytmnkmmfjekcinaa.Ev
open Go.Ev
theorem cReplicaPipeline4 : runReplicaPipeline [(4, 4), (0, 7)] = true := by kernel_rfl
theorem cReplicaPipeline5 : runReplicaPipeline [(5, 5), (0, 7)] = true := by kernel_rfl
theorem cReplicaPipeline6 : runReplicaPipeline [(6, 6), (0, 7)] = true := by kernel_rfl
theorem cReplicaPipeline7 : runReplicaPipeline [(7, 7), (0, 7)] = true := by kernel_rfl
end Go.Proofs.Ytmnkmmfjekcinaa.Ev
