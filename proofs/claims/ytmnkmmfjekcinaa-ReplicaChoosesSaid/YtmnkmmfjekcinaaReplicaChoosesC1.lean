/-
  ReplicaChooses: cases, part 1.
-/
import Derived.Test.YtmnkmmfjekcinaaReplicaChoosesC0
import Derived.KernelRfl
set_option maxRecDepth 1000000
namespace Go.Proofs.Ytmnkmmfjekcinaa.Ev
open Go.Ev
theorem cReplicaChooses0 : runReplicaChooses [(0, 0), (0, 3), (0, 3), (0, 7)] = true := by kernel_rfl
theorem cReplicaChooses1 : runReplicaChooses [(0, 0), (4, 7), (0, 3), (0, 7)] = true := by kernel_rfl
theorem cReplicaChooses2 : runReplicaChooses [(1, 1), (0, 3), (0, 3), (0, 7)] = true := by kernel_rfl
theorem cReplicaChooses3 : runReplicaChooses [(1, 1), (4, 7), (0, 3), (0, 7)] = true := by kernel_rfl
end Go.Proofs.Ytmnkmmfjekcinaa.Ev
