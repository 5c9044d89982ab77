/-
  ReplicaGives: cases, part 4.
-/
import Derived.Test.YtmnkmmfjekcinaaReplicaGivesC0
import Derived.KernelRfl
set_option maxRecDepth 1000000
namespace Go.Proofs.Ytmnkmmfjekcinaa.Ev
open Go.Ev
theorem cReplicaGives48 : runReplicaGives [(3, 3), (0, 0), (0, 15), (0, 7)] = true := by kernel_rfl
theorem cReplicaGives49 : runReplicaGives [(3, 3), (1, 1), (0, 15), (0, 7)] = true := by kernel_rfl
theorem cReplicaGives50 : runReplicaGives [(3, 3), (2, 2), (0, 15), (0, 7)] = true := by kernel_rfl
theorem cReplicaGives51 : runReplicaGives [(3, 3), (3, 3), (0, 15), (0, 7)] = true := by kernel_rfl
theorem cReplicaGives52 : runReplicaGives [(3, 3), (4, 4), (0, 15), (0, 7)] = true := by kernel_rfl
theorem cReplicaGives53 : runReplicaGives [(3, 3), (5, 5), (0, 15), (0, 7)] = true := by kernel_rfl
theorem cReplicaGives54 : runReplicaGives [(3, 3), (6, 6), (0, 15), (0, 7)] = true := by kernel_rfl
theorem cReplicaGives55 : runReplicaGives [(3, 3), (7, 7), (0, 15), (0, 7)] = true := by kernel_rfl
theorem cReplicaGives56 : runReplicaGives [(3, 3), (8, 8), (0, 15), (0, 7)] = true := by kernel_rfl
theorem cReplicaGives57 : runReplicaGives [(3, 3), (9, 9), (0, 15), (0, 7)] = true := by kernel_rfl
theorem cReplicaGives58 : runReplicaGives [(3, 3), (10, 10), (0, 15), (0, 7)] = true := by kernel_rfl
theorem cReplicaGives59 : runReplicaGives [(3, 3), (11, 11), (0, 15), (0, 7)] = true := by kernel_rfl
theorem cReplicaGives60 : runReplicaGives [(3, 3), (12, 12), (0, 15), (0, 7)] = true := by kernel_rfl
theorem cReplicaGives61 : runReplicaGives [(3, 3), (13, 13), (0, 15), (0, 7)] = true := by kernel_rfl
theorem cReplicaGives62 : runReplicaGives [(3, 3), (14, 14), (0, 15), (0, 7)] = true := by kernel_rfl
theorem cReplicaGives63 : runReplicaGives [(3, 3), (15, 15), (0, 15), (0, 7)] = true := by kernel_rfl
end Go.Proofs.Ytmnkmmfjekcinaa.Ev
