/-
  ReplicaAlone: cases, part 3.
-/
import Derived.Test.YtmnkmmfjekcinaaReplicaAloneC0
import Derived.KernelRfl
set_option maxRecDepth 1000000
namespace Go.Proofs.Ytmnkmmfjekcinaa.Ev
open Go.Ev
theorem cReplicaAlone4 : runReplicaAlone [(24, 25), (0, 7)] = true := by kernel_rfl
theorem cReplicaAlone5 : runReplicaAlone [(26, 27), (0, 7)] = true := by kernel_rfl
end Go.Proofs.Ytmnkmmfjekcinaa.Ev
