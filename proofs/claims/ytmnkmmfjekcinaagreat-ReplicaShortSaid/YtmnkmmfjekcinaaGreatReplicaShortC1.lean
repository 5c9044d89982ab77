/-
  ReplicaShort: cases, part 1.
-/
import Derived.Test.YtmnkmmfjekcinaaGreatReplicaShortC0
import Derived.KernelRfl
set_option maxRecDepth 1000000
namespace Go.Proofs.YtmnkmmfjekcinaaGreat.Ev
open Go.Ev
theorem cReplicaShort0 : runReplicaShort true [(0, 0), (0, 15)] = true := by kernel_rfl
theorem cReplicaShort1 : runReplicaShort true [(1, 1), (0, 15)] = true := by kernel_rfl
theorem cReplicaShort2 : runReplicaShort true [(2, 2), (0, 15)] = true := by kernel_rfl
theorem cReplicaShort3 : runReplicaShort true [(3, 3), (0, 15)] = true := by kernel_rfl
theorem cReplicaShort4 : runReplicaShort true [(4, 4), (0, 15)] = true := by kernel_rfl
theorem cReplicaShort5 : runReplicaShort true [(5, 5), (0, 15)] = true := by kernel_rfl
theorem cReplicaShort6 : runReplicaShort true [(6, 6), (0, 15)] = true := by kernel_rfl
theorem cReplicaShort7 : runReplicaShort true [(7, 7), (0, 15)] = true := by kernel_rfl
end Go.Proofs.YtmnkmmfjekcinaaGreat.Ev
