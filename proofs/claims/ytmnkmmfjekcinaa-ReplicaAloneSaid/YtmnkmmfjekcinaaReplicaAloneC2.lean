/-
  ReplicaAlone: cases, part 2.
-/
import Derived.Test.YtmnkmmfjekcinaaReplicaAloneC0
import Derived.KernelRfl
set_option maxRecDepth 1000000
namespace Go.Proofs.Ytmnkmmfjekcinaa.Ev
open Go.Ev
theorem cReplicaAlone2 : runReplicaAlone [(16, 19), (0, 7)] = true := by kernel_rfl
theorem cReplicaAlone3 : runReplicaAlone [(20, 23), (0, 7)] = true := by kernel_rfl
end Go.Proofs.Ytmnkmmfjekcinaa.Ev
