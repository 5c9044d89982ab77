/-
  ReplicaEnters: cases, part 1.
-/
import Derived.Test.YtmnkmmfjekcinaaReplicaEntersC0
import Derived.KernelRfl
set_option maxRecDepth 1000000
namespace Go.Proofs.Ytmnkmmfjekcinaa.Ev
open Go.Ev
theorem cReplicaEnters0 : runReplicaEnters [(0, 0), (0, 7)] = true := by kernel_rfl
theorem cReplicaEnters1 : runReplicaEnters [(1, 1), (0, 7)] = true := by kernel_rfl
theorem cReplicaEnters2 : runReplicaEnters [(2, 2), (0, 7)] = true := by kernel_rfl
theorem cReplicaEnters3 : runReplicaEnters [(3, 3), (0, 7)] = true := by kernel_rfl
end Go.Proofs.Ytmnkmmfjekcinaa.Ev
