/-
  ReplicaChooses: cases, part 3.
-/
import Derived.Test.YtmnkmmfjekcinaaReplicaChoosesC0
import Derived.KernelRfl
set_option maxRecDepth 1000000
namespace Go.Proofs.Ytmnkmmfjekcinaa.Ev
open Go.Ev
theorem cReplicaChooses8 : runReplicaChooses [(4, 4), (0, 3), (0, 3), (0, 7)] = true := by kernel_rfl
theorem cReplicaChooses9 : runReplicaChooses [(4, 4), (4, 7), (0, 3), (0, 7)] = true := by kernel_rfl
theorem cReplicaChooses10 : runReplicaChooses [(5, 5), (0, 3), (0, 3), (0, 7)] = true := by kernel_rfl
theorem cReplicaChooses11 : runReplicaChooses [(5, 5), (4, 7), (0, 3), (0, 7)] = true := by kernel_rfl
end Go.Proofs.Ytmnkmmfjekcinaa.Ev
