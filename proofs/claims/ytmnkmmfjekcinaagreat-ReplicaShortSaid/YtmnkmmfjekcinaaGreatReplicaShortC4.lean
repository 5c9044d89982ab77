/-
  ReplicaShort: cases, part 4.
-/
import Derived.Test.YtmnkmmfjekcinaaGreatReplicaShortC0
import Derived.KernelRfl
set_option maxRecDepth 1000000
namespace Go.Proofs.YtmnkmmfjekcinaaGreat.Ev
open Go.Ev
theorem cReplicaShort24 : runReplicaShort false [(8, 8), (0, 15)] = true := by kernel_rfl
theorem cReplicaShort25 : runReplicaShort false [(9, 9), (0, 15)] = true := by kernel_rfl
theorem cReplicaShort26 : runReplicaShort false [(10, 10), (0, 15)] = true := by kernel_rfl
theorem cReplicaShort27 : runReplicaShort false [(11, 11), (0, 15)] = true := by kernel_rfl
theorem cReplicaShort28 : runReplicaShort false [(12, 12), (0, 15)] = true := by kernel_rfl
theorem cReplicaShort29 : runReplicaShort false [(13, 13), (0, 15)] = true := by kernel_rfl
theorem cReplicaShort30 : runReplicaShort false [(14, 14), (0, 15)] = true := by kernel_rfl
theorem cReplicaShort31 : runReplicaShort false [(15, 15), (0, 15)] = true := by kernel_rfl
end Go.Proofs.YtmnkmmfjekcinaaGreat.Ev
