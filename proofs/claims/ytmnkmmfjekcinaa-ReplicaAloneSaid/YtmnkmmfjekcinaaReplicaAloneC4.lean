/-
  ReplicaAlone: cases, part 4.
-/
import Derived.Test.YtmnkmmfjekcinaaReplicaAloneC0
import Derived.KernelRfl
set_option maxRecDepth 1000000
namespace Go.Proofs.Ytmnkmmfjekcinaa.Ev
open Go.Ev
theorem cReplicaAlone6 : runReplicaAlone [(28, 29), (0, 7)] = true := by kernel_rfl
theorem cReplicaAlone7 : runReplicaAlone [(30, 31), (0, 7)] = true := by kernel_rfl
end Go.Proofs.Ytmnkmmfjekcinaa.Ev
