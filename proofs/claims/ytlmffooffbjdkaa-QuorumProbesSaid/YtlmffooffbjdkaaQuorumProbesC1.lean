/-
  QuorumProbes: cases, part 1.
-/
import Derived.Test.YtlmffooffbjdkaaQuorumProbesC0
import Derived.KernelRfl
set_option maxRecDepth 1000000
namespace Go.Proofs.Ytlmffooffbjdkaa.Ev
open Go.Ev
theorem cQuorumProbes0 : runQuorumProbes [(0, 0), (0, 15), (0, 0), (0, 7)] = true := by kernel_rfl
theorem cQuorumProbes1 : runQuorumProbes [(0, 0), (0, 15), (1, 1), (0, 7)] = true := by kernel_rfl
theorem cQuorumProbes2 : runQuorumProbes [(0, 0), (0, 15), (2, 2), (0, 7)] = true := by kernel_rfl
theorem cQuorumProbes3 : runQuorumProbes [(0, 0), (0, 15), (3, 3), (0, 7)] = true := by kernel_rfl
theorem cQuorumProbes4 : runQuorumProbes [(1, 1), (0, 15), (0, 0), (0, 7)] = true := by kernel_rfl
theorem cQuorumProbes5 : runQuorumProbes [(1, 1), (0, 15), (1, 1), (0, 7)] = true := by kernel_rfl
theorem cQuorumProbes6 : runQuorumProbes [(1, 1), (0, 15), (2, 2), (0, 7)] = true := by kernel_rfl
theorem cQuorumProbes7 : runQuorumProbes [(1, 1), (0, 15), (3, 3), (0, 7)] = true := by kernel_rfl
end Go.Proofs.Ytlmffooffbjdkaa.Ev
