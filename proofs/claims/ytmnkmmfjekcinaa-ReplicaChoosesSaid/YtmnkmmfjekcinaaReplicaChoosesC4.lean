/-
  ReplicaChooses: cases, part 4.
-/
import Derived.Test.YtmnkmmfjekcinaaReplicaChoosesC0
import Derived.KernelRfl
set_option maxRecDepth 1000000
namespace Go.Proofs.Ytmnkmmfjekcinaa.Ev
open Go.Ev
theorem cReplicaChooses12 : runReplicaChooses [(6, 6), (0, 3), (0, 3), (0, 7)] = true := by kernel_rfl
theorem cReplicaChooses13 : runReplicaChooses [(6, 6), (4, 7), (0, 3), (0, 7)] = true := by kernel_rfl
theorem cReplicaChooses14 : runReplicaChooses [(7, 7), (0, 3), (0, 3), (0, 7)] = true := by kernel_rfl
theorem cReplicaChooses15 : runReplicaChooses [(7, 7), (4, 7), (0, 3), (0, 7)] = true := by kernel_rfl
end Go.Proofs.Ytmnkmmfjekcinaa.Ev
