/-
  QuorumProbes: cases, part 2.
-/
import Derived.Test.YtlmffooffbjdkaaQuorumProbesC0
import Derived.KernelRfl
set_option maxRecDepth 1000000
namespace Go.Proofs.Ytlmffooffbjdkaa.Ev
open Go.Ev
theorem cQuorumProbes8 : runQuorumProbes [(2, 2), (0, 15), (0, 0), (0, 7)] = true := by kernel_rfl
theorem cQuorumProbes9 : runQuorumProbes [(2, 2), (0, 15), (1, 1), (0, 7)] = true := by kernel_rfl
theorem cQuorumProbes10 : runQuorumProbes [(2, 2), (0, 15), (2, 2), (0, 7)] = true := by kernel_rfl
theorem cQuorumProbes11 : runQuorumProbes [(2, 2), (0, 15), (3, 3), (0, 7)] = true := by kernel_rfl
theorem cQuorumProbes12 : runQuorumProbes [(3, 3), (0, 15), (0, 0), (0, 7)] = true := by kernel_rfl
theorem cQuorumProbes13 : runQuorumProbes [(3, 3), (0, 15), (1, 1), (0, 7)] = true := by kernel_rfl
theorem cQuorumProbes14 : runQuorumProbes [(3, 3), (0, 15), (2, 2), (0, 7)] = true := by kernel_rfl
theorem cQuorumProbes15 : runQuorumProbes [(3, 3), (0, 15), (3, 3), (0, 7)] = true := by kernel_rfl
end Go.Proofs.Ytlmffooffbjdkaa.Ev
