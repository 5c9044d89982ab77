/-
  ReplicaTicks: cases, part 1.
-/
import Derived.Test.YtmnkmmfjekcinaaReplicaTicksC0
import Derived.KernelRfl
set_option maxRecDepth 1000000
namespace Go.Proofs.Ytmnkmmfjekcinaa.Ev
open Go.Ev
theorem cReplicaTicks0 : runReplicaTicks [(0, 0), (0, 15), (0, 3)] = true := by kernel_rfl
theorem cReplicaTicks1 : runReplicaTicks [(1, 1), (0, 15), (0, 3)] = true := by kernel_rfl
theorem cReplicaTicks2 : runReplicaTicks [(2, 2), (0, 15), (0, 3)] = true := by kernel_rfl
end Go.Proofs.Ytmnkmmfjekcinaa.Ev
