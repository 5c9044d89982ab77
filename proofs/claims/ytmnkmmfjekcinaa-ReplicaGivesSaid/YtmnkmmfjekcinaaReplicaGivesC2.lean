/-
  ReplicaGives: cases, part 2.
-/
import Derived.Test.YtmnkmmfjekcinaaReplicaGivesC0
import Derived.KernelRfl
set_option maxRecDepth 1000000
namespace Go.Proofs.Ytmnkmmfjekcinaa.Ev
open Go.Ev
theorem cReplicaGives16 : runReplicaGives [(1, 1), (0, 0), (0, 15), (0, 7)] = true := by kernel_rfl
theorem cReplicaGives17 : runReplicaGives [(1, 1), (1, 1), (0, 15), (0, 7)] = true := by kernel_rfl
theorem cReplicaGives18 : runReplicaGives [(1, 1), (2, 2), (0, 15), (0, 7)] = true := by kernel_rfl
theorem cReplicaGives19 : runReplicaGives [(1, 1), (3, 3), (0, 15), (0, 7)] = true := by kernel_rfl
theorem cReplicaGives20 : runReplicaGives [(1, 1), (4, 4), (0, 15), (0, 7)] = true := by kernel_rfl
theorem cReplicaGives21 : runReplicaGives [(1, 1), (5, 5), (0, 15), (0, 7)] = true := by kernel_rfl
theorem cReplicaGives22 : runReplicaGives [(1, 1), (6, 6), (0, 15), (0, 7)] = true := by kernel_rfl
theorem cReplicaGives23 : runReplicaGives [(1, 1), (7, 7), (0, 15), (0, 7)] = true := by kernel_rfl
theorem cReplicaGives24 : runReplicaGives [(1, 1), (8, 8), (0, 15), (0, 7)] = true := by kernel_rfl
theorem cReplicaGives25 : runReplicaGives [(1, 1), (9, 9), (0, 15), (0, 7)] = true := by kernel_rfl
theorem cReplicaGives26 : runReplicaGives [(1, 1), (10, 10), (0, 15), (0, 7)] = true := by kernel_rfl
theorem cReplicaGives27 : runReplicaGives [(1, 1), (11, 11), (0, 15), (0, 7)] = true := by kernel_rfl
theorem cReplicaGives28 : runReplicaGives [(1, 1), (12, 12), (0, 15), (0, 7)] = true := by kernel_rfl
theorem cReplicaGives29 : runReplicaGives [(1, 1), (13, 13), (0, 15), (0, 7)] = true := by kernel_rfl
theorem cReplicaGives30 : runReplicaGives [(1, 1), (14, 14), (0, 15), (0, 7)] = true := by kernel_rfl
theorem cReplicaGives31 : runReplicaGives [(1, 1), (15, 15), (0, 15), (0, 7)] = true := by kernel_rfl
end Go.Proofs.Ytmnkmmfjekcinaa.Ev
