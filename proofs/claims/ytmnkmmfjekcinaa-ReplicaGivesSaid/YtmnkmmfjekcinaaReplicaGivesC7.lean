/-
  ReplicaGives: cases, part 7.
-/
import Derived.Test.YtmnkmmfjekcinaaReplicaGivesC0
import Derived.KernelRfl
set_option maxRecDepth 1000000
namespace Go.Proofs.Ytmnkmmfjekcinaa.Ev
open Go.Ev
theorem cReplicaGives96 : runReplicaGives [(6, 6), (0, 0), (0, 15), (0, 7)] = true := by kernel_rfl
theorem cReplicaGives97 : runReplicaGives [(6, 6), (1, 1), (0, 15), (0, 7)] = true := by kernel_rfl
theorem cReplicaGives98 : runReplicaGives [(6, 6), (2, 2), (0, 15), (0, 7)] = true := by kernel_rfl
theorem cReplicaGives99 : runReplicaGives [(6, 6), (3, 3), (0, 15), (0, 7)] = true := by kernel_rfl
theorem cReplicaGives100 : runReplicaGives [(6, 6), (4, 4), (0, 15), (0, 7)] = true := by kernel_rfl
theorem cReplicaGives101 : runReplicaGives [(6, 6), (5, 5), (0, 15), (0, 7)] = true := by kernel_rfl
theorem cReplicaGives102 : runReplicaGives [(6, 6), (6, 6), (0, 15), (0, 7)] = true := by kernel_rfl
theorem cReplicaGives103 : runReplicaGives [(6, 6), (7, 7), (0, 15), (0, 7)] = true := by kernel_rfl
theorem cReplicaGives104 : runReplicaGives [(6, 6), (8, 8), (0, 15), (0, 7)] = true := by kernel_rfl
theorem cReplicaGives105 : runReplicaGives [(6, 6), (9, 9), (0, 15), (0, 7)] = true := by kernel_rfl
theorem cReplicaGives106 : runReplicaGives [(6, 6), (10, 10), (0, 15), (0, 7)] = true := by kernel_rfl
theorem cReplicaGives107 : runReplicaGives [(6, 6), (11, 11), (0, 15), (0, 7)] = true := by kernel_rfl
theorem cReplicaGives108 : runReplicaGives [(6, 6), (12, 12), (0, 15), (0, 7)] = true := by kernel_rfl
theorem cReplicaGives109 : runReplicaGives [(6, 6), (13, 13), (0, 15), (0, 7)] = true := by kernel_rfl
theorem cReplicaGives110 : runReplicaGives [(6, 6), (14, 14), (0, 15), (0, 7)] = true := by kernel_rfl
theorem cReplicaGives111 : runReplicaGives [(6, 6), (15, 15), (0, 15), (0, 7)] = true := by kernel_rfl
end Go.Proofs.Ytmnkmmfjekcinaa.Ev
