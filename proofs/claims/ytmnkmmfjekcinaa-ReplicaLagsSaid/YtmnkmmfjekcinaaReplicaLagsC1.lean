/-
  ReplicaLags: cases, part 1.
-/
import Derived.Test.YtmnkmmfjekcinaaReplicaLagsC0
import Derived.KernelRfl
set_option maxRecDepth 1000000
namespace Go.Proofs.Ytmnkmmfjekcinaa.Ev
open Go.Ev
theorem cReplicaLags0 : runReplicaLags true [(0, 0), (0, 7)] = true := by kernel_rfl
theorem cReplicaLags1 : runReplicaLags true [(1, 1), (0, 7)] = true := by kernel_rfl
theorem cReplicaLags2 : runReplicaLags true [(2, 2), (0, 7)] = true := by kernel_rfl
theorem cReplicaLags3 : runReplicaLags true [(3, 3), (0, 7)] = true := by kernel_rfl
theorem cReplicaLags4 : runReplicaLags true [(4, 4), (0, 7)] = true := by kernel_rfl
theorem cReplicaLags5 : runReplicaLags true [(5, 5), (0, 7)] = true := by kernel_rfl
theorem cReplicaLags6 : runReplicaLags true [(6, 6), (0, 7)] = true := by kernel_rfl
theorem cReplicaLags7 : runReplicaLags true [(7, 7), (0, 7)] = true := by kernel_rfl
end Go.Proofs.Ytmnkmmfjekcinaa.Ev
