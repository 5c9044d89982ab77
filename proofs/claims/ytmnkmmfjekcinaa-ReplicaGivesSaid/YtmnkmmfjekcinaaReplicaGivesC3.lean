/-
  ReplicaGives: cases, part 3.
-/
import Derived.Test.YtmnkmmfjekcinaaReplicaGivesC0
import Derived.KernelRfl
set_option maxRecDepth 1000000
namespace Go.Proofs.Ytmnkmmfjekcinaa.Ev
open Go.Ev
theorem cReplicaGives32 : runReplicaGives [(2, 2), (0, 0), (0, 15), (0, 7)] = true := by kernel_rfl
theorem cReplicaGives33 : runReplicaGives [(2, 2), (1, 1), (0, 15), (0, 7)] = true := by kernel_rfl
theorem cReplicaGives34 : runReplicaGives [(2, 2), (2, 2), (0, 15), (0, 7)] = true := by kernel_rfl
theorem cReplicaGives35 : runReplicaGives [(2, 2), (3, 3), (0, 15), (0, 7)] = true := by kernel_rfl
theorem cReplicaGives36 : runReplicaGives [(2, 2), (4, 4), (0, 15), (0, 7)] = true := by kernel_rfl
theorem cReplicaGives37 : runReplicaGives [(2, 2), (5, 5), (0, 15), (0, 7)] = true := by kernel_rfl
theorem cReplicaGives38 : runReplicaGives [(2, 2), (6, 6), (0, 15), (0, 7)] = true := by kernel_rfl
theorem cReplicaGives39 : runReplicaGives [(2, 2), (7, 7), (0, 15), (0, 7)] = true := by kernel_rfl
theorem cReplicaGives40 : runReplicaGives [(2, 2), (8, 8), (0, 15), (0, 7)] = true := by kernel_rfl
theorem cReplicaGives41 : runReplicaGives [(2, 2), (9, 9), (0, 15), (0, 7)] = true := by kernel_rfl
theorem cReplicaGives42 : runReplicaGives [(2, 2), (10, 10), (0, 15), (0, 7)] = true := by kernel_rfl
theorem cReplicaGives43 : runReplicaGives [(2, 2), (11, 11), (0, 15), (0, 7)] = true := by kernel_rfl
theorem cReplicaGives44 : runReplicaGives [(2, 2), (12, 12), (0, 15), (0, 7)] = true := by kernel_rfl
theorem cReplicaGives45 : runReplicaGives [(2, 2), (13, 13), (0, 15), (0, 7)] = true := by kernel_rfl
theorem cReplicaGives46 : runReplicaGives [(2, 2), (14, 14), (0, 15), (0, 7)] = true := by kernel_rfl
theorem cReplicaGives47 : runReplicaGives [(2, 2), (15, 15), (0, 15), (0, 7)] = true := by kernel_rfl
end Go.Proofs.Ytmnkmmfjekcinaa.Ev
