/-
  ReplicaPrepares: cases, part 1.
-/
import Derived.Test.YtmnkmmfjekcinaaReplicaPreparesC0
import Derived.KernelRfl
set_option maxRecDepth 1000000
namespace Go.Proofs.Ytmnkmmfjekcinaa.Ev
open Go.Ev
theorem cReplicaPrepares0 : runReplicaPrepares [(0, 0), (0, 15), (0, 15)] = true := by kernel_rfl
theorem cReplicaPrepares1 : runReplicaPrepares [(1, 1), (0, 15), (0, 15)] = true := by kernel_rfl
theorem cReplicaPrepares2 : runReplicaPrepares [(2, 2), (0, 15), (0, 15)] = true := by kernel_rfl
theorem cReplicaPrepares3 : runReplicaPrepares [(3, 3), (0, 15), (0, 15)] = true := by kernel_rfl
theorem cReplicaPrepares4 : runReplicaPrepares [(4, 4), (0, 15), (0, 15)] = true := by kernel_rfl
theorem cReplicaPrepares5 : runReplicaPrepares [(5, 5), (0, 15), (0, 15)] = true := by kernel_rfl
theorem cReplicaPrepares6 : runReplicaPrepares [(6, 6), (0, 15), (0, 15)] = true := by kernel_rfl
theorem cReplicaPrepares7 : runReplicaPrepares [(7, 7), (0, 15), (0, 15)] = true := by kernel_rfl
theorem cReplicaPrepares8 : runReplicaPrepares [(8, 8), (0, 15), (0, 15)] = true := by kernel_rfl
theorem cReplicaPrepares9 : runReplicaPrepares [(9, 9), (0, 15), (0, 15)] = true := by kernel_rfl
theorem cReplicaPrepares10 : runReplicaPrepares [(10, 10), (0, 15), (0, 15)] = true := by kernel_rfl
theorem cReplicaPrepares11 : runReplicaPrepares [(11, 11), (0, 15), (0, 15)] = true := by kernel_rfl
theorem cReplicaPrepares12 : runReplicaPrepares [(12, 12), (0, 15), (0, 15)] = true := by kernel_rfl
theorem cReplicaPrepares13 : runReplicaPrepares [(13, 13), (0, 15), (0, 15)] = true := by kernel_rfl
theorem cReplicaPrepares14 : runReplicaPrepares [(14, 14), (0, 15), (0, 15)] = true := by kernel_rfl
theorem cReplicaPrepares15 : runReplicaPrepares [(15, 15), (0, 15), (0, 15)] = true := by kernel_rfl
end Go.Proofs.Ytmnkmmfjekcinaa.Ev
