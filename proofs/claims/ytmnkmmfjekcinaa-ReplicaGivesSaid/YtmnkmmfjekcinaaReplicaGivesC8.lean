/-
  ReplicaGives: cases, part 8.
-/
import Derived.Test.YtmnkmmfjekcinaaReplicaGivesC0
import Derived.KernelRfl
set_option maxRecDepth 1000000
namespace Go.Proofs.Ytmnkmmfjekcinaa.Ev
open Go.Ev
theorem cReplicaGives112 : runReplicaGives [(7, 7), (0, 0), (0, 15), (0, 7)] = true := by kernel_rfl
theorem cReplicaGives113 : runReplicaGives [(7, 7), (1, 1), (0, 15), (0, 7)] = true := by kernel_rfl
theorem cReplicaGives114 : runReplicaGives [(7, 7), (2, 2), (0, 15), (0, 7)] = true := by kernel_rfl
theorem cReplicaGives115 : runReplicaGives [(7, 7), (3, 3), (0, 15), (0, 7)] = true := by kernel_rfl
theorem cReplicaGives116 : runReplicaGives [(7, 7), (4, 4), (0, 15), (0, 7)] = true := by kernel_rfl
theorem cReplicaGives117 : runReplicaGives [(7, 7), (5, 5), (0, 15), (0, 7)] = true := by kernel_rfl
theorem cReplicaGives118 : runReplicaGives [(7, 7), (6, 6), (0, 15), (0, 7)] = true := by kernel_rfl
theorem cReplicaGives119 : runReplicaGives [(7, 7), (7, 7), (0, 15), (0, 7)] = true := by kernel_rfl
theorem cReplicaGives120 : runReplicaGives [(7, 7), (8, 8), (0, 15), (0, 7)] = true := by kernel_rfl
theorem cReplicaGives121 : runReplicaGives [(7, 7), (9, 9), (0, 15), (0, 7)] = true := by kernel_rfl
theorem cReplicaGives122 : runReplicaGives [(7, 7), (10, 10), (0, 15), (0, 7)] = true := by kernel_rfl
theorem cReplicaGives123 : runReplicaGives [(7, 7), (11, 11), (0, 15), (0, 7)] = true := by kernel_rfl
theorem cReplicaGives124 : runReplicaGives [(7, 7), (12, 12), (0, 15), (0, 7)] = true := by kernel_rfl
theorem cReplicaGives125 : runReplicaGives [(7, 7), (13, 13), (0, 15), (0, 7)] = true := by kernel_rfl
theorem cReplicaGives126 : runReplicaGives [(7, 7), (14, 14), (0, 15), (0, 7)] = true := by kernel_rfl
theorem cReplicaGives127 : runReplicaGives [(7, 7), (15, 15), (0, 15), (0, 7)] = true := by kernel_rfl
end Go.Proofs.Ytmnkmmfjekcinaa.Ev
