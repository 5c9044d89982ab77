/-
  ReplicaChooses: cases, part 2.
-/
import Derived.Test.YtmnkmmfjekcinaaReplicaChoosesC0
import Derived.KernelRfl
set_option maxRecDepth 1000000
namespace Go.Proofs.Ytmnkmmfjekcinaa.Ev
open Go.Ev
theorem cReplicaChooses4 : runReplicaChooses [(2, 2), (0, 3), (0, 3), (0, 7)] = true := by kernel_rfl
theorem cReplicaChooses5 : runReplicaChooses [(2, 2), (4, 7), (0, 3), (0, 7)] = true := by kernel_rfl
theorem cReplicaChooses6 : runReplicaChooses [(3, 3), (0, 3), (0, 3), (0, 7)] = true := by kernel_rfl
theorem cReplicaChooses7 : runReplicaChooses [(3, 3), (4, 7), (0, 3), (0, 7)] = true := by kernel_rfl
end Go.Proofs.Ytmnkmmfjekcinaa.Ev
