/-
  ReplicaSets: cases, part 2.
-/
import Derived.Test.YtmnkmmfjekcinaaReplicaSetsC0
import Derived.KernelRfl
set_option maxRecDepth 1000000
namespace Go.Proofs.Ytmnkmmfjekcinaa.Ev
open Go.Ev
theorem cReplicaSets2 : runReplicaSets [(2, 2), (0, 7), (0, 15)] = true := by kernel_rfl
theorem cReplicaSets3 : runReplicaSets [(3, 3), (0, 7), (0, 15)] = true := by kernel_rfl
end Go.Proofs.Ytmnkmmfjekcinaa.Ev
