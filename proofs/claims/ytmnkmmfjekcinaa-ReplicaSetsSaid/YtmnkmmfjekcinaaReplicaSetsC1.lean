/-
  ReplicaSets: cases, part 1.
-/
import Derived.Test.YtmnkmmfjekcinaaReplicaSetsC0
import Derived.KernelRfl
set_option maxRecDepth 1000000
namespace Go.Proofs.Ytmnkmmfjekcinaa.Ev
open Go.Ev
theorem cReplicaSets0 : runReplicaSets [(0, 0), (0, 7), (0, 15)] = true := by kernel_rfl
theorem cReplicaSets1 : runReplicaSets [(1, 1), (0, 7), (0, 15)] = true := by kernel_rfl
end Go.Proofs.Ytmnkmmfjekcinaa.Ev
