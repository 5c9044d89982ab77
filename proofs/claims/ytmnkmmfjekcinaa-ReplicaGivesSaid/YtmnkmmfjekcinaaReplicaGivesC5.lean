/-
  ReplicaGives: cases, part 5.
-/
import Derived.Test.YtmnkmmfjekcinaaReplicaGivesC0
import Derived.KernelRfl
set_option maxRecDepth 1000000
namespace Go.Proofs.Ytmnkmmfjekcinaa.Ev
open Go.Ev
theorem cReplicaGives64 : runReplicaGives [(4, 4), (0, 0), (0, 15), (0, 7)] = true := by kernel_rfl
theorem cReplicaGives65 : runReplicaGives [(4, 4), (1, 1), (0, 15), (0, 7)] = true := by kernel_rfl
theorem cReplicaGives66 : runReplicaGives [(4, 4), (2, 2), (0, 15), (0, 7)] = true := by kernel_rfl
theorem cReplicaGives67 : runReplicaGives [(4, 4), (3, 3), (0, 15), (0, 7)] = true := by kernel_rfl
theorem cReplicaGives68 : runReplicaGives [(4, 4), (4, 4), (0, 15), (0, 7)] = true := by kernel_rfl
theorem cReplicaGives69 : runReplicaGives [(4, 4), (5, 5), (0, 15), (0, 7)] = true := by kernel_rfl
theorem cReplicaGives70 : runReplicaGives [(4, 4), (6, 6), (0, 15), (0, 7)] = true := by kernel_rfl
theorem cReplicaGives71 : runReplicaGives [(4, 4), (7, 7), (0, 15), (0, 7)] = true := by kernel_rfl
theorem cReplicaGives72 : runReplicaGives [(4, 4), (8, 8), (0, 15), (0, 7)] = true := by kernel_rfl
theorem cReplicaGives73 : runReplicaGives [(4, 4), (9, 9), (0, 15), (0, 7)] = true := by kernel_rfl
theorem cReplicaGives74 : runReplicaGives [(4, 4), (10, 10), (0, 15), (0, 7)] = true := by kernel_rfl
theorem cReplicaGives75 : runReplicaGives [(4, 4), (11, 11), (0, 15), (0, 7)] = true := by kernel_rfl
theorem cReplicaGives76 : runReplicaGives [(4, 4), (12, 12), (0, 15), (0, 7)] = true := by kernel_rfl
theorem cReplicaGives77 : runReplicaGives [(4, 4), (13, 13), (0, 15), (0, 7)] = true := by kernel_rfl
theorem cReplicaGives78 : runReplicaGives [(4, 4), (14, 14), (0, 15), (0, 7)] = true := by kernel_rfl
theorem cReplicaGives79 : runReplicaGives [(4, 4), (15, 15), (0, 15), (0, 7)] = true := by kernel_rfl
end Go.Proofs.Ytmnkmmfjekcinaa.Ev
