/-
  QuorumAlone: cases, part 1.
-/
import Derived.Test.YtlmffooffbjdkaaQuorumAloneC0
import Derived.KernelRfl
set_option maxRecDepth 1000000
namespace Go.Proofs.Ytlmffooffbjdkaa.Ev
open Go.Ev
theorem cQuorumAlone0 : runQuorumAlone [(0, 3), (0, 15)] = true := by kernel_rfl
theorem cQuorumAlone1 : runQuorumAlone [(4, 7), (0, 15)] = true := by kernel_rfl
theorem cQuorumAlone2 : runQuorumAlone [(8, 11), (0, 15)] = true := by kernel_rfl
theorem cQuorumAlone3 : runQuorumAlone [(12, 15), (0, 15)] = true := by kernel_rfl
end Go.Proofs.Ytlmffooffbjdkaa.Ev
