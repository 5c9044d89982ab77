/-
  ReplicaGives: cases, part 6.
-/
import Derived.Test.YtmnkmmfjekcinaaReplicaGivesC0
import Derived.KernelRfl
set_option maxRecDepth 1000000
namespace Go.Proofs.Ytmnkmmfjekcinaa.Ev
open Go.Ev
theorem cReplicaGives80 : runReplicaGives [(5, 5), (0, 0), (0, 15), (0, 7)] = true := by kernel_rfl
theorem cReplicaGives81 : runReplicaGives [(5, 5), (1, 1), (0, 15), (0, 7)] = true := by kernel_rfl
theorem cReplicaGives82 : runReplicaGives [(5, 5), (2, 2), (0, 15), (0, 7)] = true := by kernel_rfl
theorem cReplicaGives83 : runReplicaGives [(5, 5), (3, 3), (0, 15), (0, 7)] = true := by kernel_rfl
theorem cReplicaGives84 : runReplicaGives [(5, 5), (4, 4), (0, 15), (0, 7)] = true := by kernel_rfl
theorem cReplicaGives85 : runReplicaGives [(5, 5), (5, 5), (0, 15), (0, 7)] = true := by kernel_rfl
theorem cReplicaGives86 : runReplicaGives [(5, 5), (6, 6), (0, 15), (0, 7)] = true := by kernel_rfl
theorem cReplicaGives87 : runReplicaGives [(5, 5), (7, 7), (0, 15), (0, 7)] = true := by kernel_rfl
theorem cReplicaGives88 : runReplicaGives [(5, 5), (8, 8), (0, 15), (0, 7)] = true := by kernel_rfl
theorem cReplicaGives89 : runReplicaGives [(5, 5), (9, 9), (0, 15), (0, 7)] = true := by kernel_rfl
theorem cReplicaGives90 : runReplicaGives [(5, 5), (10, 10), (0, 15), (0, 7)] = true := by kernel_rfl
theorem cReplicaGives91 : runReplicaGives [(5, 5), (11, 11), (0, 15), (0, 7)] = true := by kernel_rfl
theorem cReplicaGives92 : runReplicaGives [(5, 5), (12, 12), (0, 15), (0, 7)] = true := by kernel_rfl
theorem cReplicaGives93 : runReplicaGives [(5, 5), (13, 13), (0, 15), (0, 7)] = true := by kernel_rfl
theorem cReplicaGives94 : runReplicaGives [(5, 5), (14, 14), (0, 15), (0, 7)] = true := by kernel_rfl
theorem cReplicaGives95 : runReplicaGives [(5, 5), (15, 15), (0, 15), (0, 7)] = true := by kernel_rfl
end Go.Proofs.Ytmnkmmfjekcinaa.Ev
