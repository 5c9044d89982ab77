/-
  ReplicaShort: cases, part 2.
-/
import Derived.Test.YtmnkmmfjekcinaaGreatReplicaShortC0
import Derived.KernelRfl
set_option maxRecDepth 1000000
namespace Go.Proofs.YtmnkmmfjekcinaaGreat.Ev
open Go.Ev
theorem cReplicaShort8 : runReplicaShort true [(8, 8), (0, 15)] = true := by kernel_rfl
theorem cReplicaShort9 : runReplicaShort true [(9, 9), (0, 15)] = true := by kernel_rfl
theorem cReplicaShort10 : runReplicaShort true [(10, 10), (0, 15)] = true := by kernel_rfl
theorem cReplicaShort11 : runReplicaShort true [(11, 11), (0, 15)] = true := by kernel_rfl
theorem cReplicaShort12 : runReplicaShort true [(12, 12), (0, 15)] = true := by kernel_rfl
theorem cReplicaShort13 : runReplicaShort true [(13, 13), (0, 15)] = true := by kernel_rfl
theorem cReplicaShort14 : runReplicaShort true [(14, 14), (0, 15)] = true := by kernel_rfl
theorem cReplicaShort15 : runReplicaShort true [(15, 15), (0, 15)] = true := by kernel_rfl
end Go.Proofs.YtmnkmmfjekcinaaGreat.Ev
