/-
  ReplicaShort: cases, part 3.
-/
import Derived.Test.YtmnkmmfjekcinaaGreatReplicaShortC0
import Derived.KernelRfl
set_option maxRecDepth 1000000
namespace Go.Proofs.YtmnkmmfjekcinaaGreat.Ev
open Go.Ev
theorem cReplicaShort16 : runReplicaShort false [(0, 0), (0, 15)] = true := by kernel_rfl
theorem cReplicaShort17 : runReplicaShort false [(1, 1), (0, 15)] = true := by kernel_rfl
theorem cReplicaShort18 : runReplicaShort false [(2, 2), (0, 15)] = true := by kernel_rfl
theorem cReplicaShort19 : runReplicaShort false [(3, 3), (0, 15)] = true := by kernel_rfl
theorem cReplicaShort20 : runReplicaShort false [(4, 4), (0, 15)] = true := by kernel_rfl
theorem cReplicaShort21 : runReplicaShort false [(5, 5), (0, 15)] = true := by kernel_rfl
theorem cReplicaShort22 : runReplicaShort false [(6, 6), (0, 15)] = true := by kernel_rfl
theorem cReplicaShort23 : runReplicaShort false [(7, 7), (0, 15)] = true := by kernel_rfl
end Go.Proofs.YtmnkmmfjekcinaaGreat.Ev
