/-
  ReplicaAlone: cases, part 1.
-/
import Derived.Test.YtmnkmmfjekcinaaReplicaAloneC0
import Derived.KernelRfl
set_option maxRecDepth 1000000
namespace Go.Proofs.Ytmnkmmfjekcinaa.Ev
open Go.Ev
theorem cReplicaAlone0 : runReplicaAlone [(0, 7), (0, 7)] = true := by kernel_rfl
theorem cReplicaAlone1 : runReplicaAlone [(8, 15), (0, 7)] = true := by kernel_rfl
end Go.Proofs.Ytmnkmmfjekcinaa.Ev
