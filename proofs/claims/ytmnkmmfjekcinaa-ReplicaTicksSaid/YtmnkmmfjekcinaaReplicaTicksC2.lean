/-
  ReplicaTicks: cases, part 2.
-/
import Derived.Test.YtmnkmmfjekcinaaReplicaTicksC0
import Derived.KernelRfl
set_option maxRecDepth 1000000
namespace Go.Proofs.Ytmnkmmfjekcinaa.Ev
open Go.Ev
theorem cReplicaTicks3 : runReplicaTicks [(3, 3), (0, 15), (0, 3)] = true := by kernel_rfl
theorem cReplicaTicks4 : runReplicaTicks [(4, 4), (0, 15), (0, 3)] = true := by kernel_rfl
end Go.Proofs.Ytmnkmmfjekcinaa.Ev
