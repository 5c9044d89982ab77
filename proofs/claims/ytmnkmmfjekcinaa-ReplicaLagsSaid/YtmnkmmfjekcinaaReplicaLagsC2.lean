/-
  ReplicaLags: cases, part 2.
-/
import Derived.Test.YtmnkmmfjekcinaaReplicaLagsC0
import Derived.KernelRfl
set_option maxRecDepth 1000000
namespace Go.Proofs.Ytmnkmmfjekcinaa.Ev
open Go.Ev
theorem cReplicaLags8 : runReplicaLags false [(0, 0), (0, 7)] = true := by kernel_rfl
theorem cReplicaLags9 : runReplicaLags false [(1, 1), (0, 7)] = true := by kernel_rfl
theorem cReplicaLags10 : runReplicaLags false [(2, 2), (0, 7)] = true := by kernel_rfl
theorem cReplicaLags11 : runReplicaLags false [(3, 3), (0, 7)] = true := by kernel_rfl
theorem cReplicaLags12 : runReplicaLags false [(4, 4), (0, 7)] = true := by kernel_rfl
theorem cReplicaLags13 : runReplicaLags false [(5, 5), (0, 7)] = true := by kernel_rfl
theorem cReplicaLags14 : runReplicaLags false [(6, 6), (0, 7)] = true := by kernel_rfl
theorem cReplicaLags15 : runReplicaLags false [(7, 7), (0, 7)] = true := by kernel_rfl
end Go.Proofs.Ytmnkmmfjekcinaa.Ev
