/-
  ReplicaGives: cases, part 1.
-/
import Derived.Test.YtmnkmmfjekcinaaReplicaGivesC0
import Derived.KernelRfl
set_option maxRecDepth 1000000
namespace Go.Proofs.Ytmnkmmfjekcinaa.Ev
open Go.Ev
theorem cReplicaGives0 : runReplicaGives [(0, 0), (0, 0), (0, 15), (0, 7)] = true := by kernel_rfl
theorem cReplicaGives1 : runReplicaGives [(0, 0), (1, 1), (0, 15), (0, 7)] = true := by kernel_rfl
theorem cReplicaGives2 : runReplicaGives [(0, 0), (2, 2), (0, 15), (0, 7)] = true := by kernel_rfl
theorem cReplicaGives3 : runReplicaGives [(0, 0), (3, 3), (0, 15), (0, 7)] = true := by kernel_rfl
theorem cReplicaGives4 : runReplicaGives [(0, 0), (4, 4), (0, 15), (0, 7)] = true := by kernel_rfl
theorem cReplicaGives5 : runReplicaGives [(0, 0), (5, 5), (0, 15), (0, 7)] = true := by kernel_rfl
theorem cReplicaGives6 : runReplicaGives [(0, 0), (6, 6), (0, 15), (0, 7)] = true := by kernel_rfl
theorem cReplicaGives7 : runReplicaGives [(0, 0), (7, 7), (0, 15), (0, 7)] = true := by kernel_rfl
theorem cReplicaGives8 : runReplicaGives [(0, 0), (8, 8), (0, 15), (0, 7)] = true := by kernel_rfl
theorem cReplicaGives9 : runReplicaGives [(0, 0), (9, 9), (0, 15), (0, 7)] = true := by kernel_rfl
theorem cReplicaGives10 : runReplicaGives [(0, 0), (10, 10), (0, 15), (0, 7)] = true := by kernel_rfl
theorem cReplicaGives11 : runReplicaGives [(0, 0), (11, 11), (0, 15), (0, 7)] = true := by kernel_rfl
theorem cReplicaGives12 : runReplicaGives [(0, 0), (12, 12), (0, 15), (0, 7)] = true := by kernel_rfl
theorem cReplicaGives13 : runReplicaGives [(0, 0), (13, 13), (0, 15), (0, 7)] = true := by kernel_rfl
theorem cReplicaGives14 : runReplicaGives [(0, 0), (14, 14), (0, 15), (0, 7)] = true := by kernel_rfl
theorem cReplicaGives15 : runReplicaGives [(0, 0), (15, 15), (0, 15), (0, 7)] = true := by kernel_rfl
end Go.Proofs.Ytmnkmmfjekcinaa.Ev
