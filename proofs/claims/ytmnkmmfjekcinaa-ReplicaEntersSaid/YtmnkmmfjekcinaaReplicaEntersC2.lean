/-
  ReplicaEnters: cases, part 2.
-/
import Derived.Test.YtmnkmmfjekcinaaReplicaEntersC0
import Derived.KernelRfl
set_option maxRecDepth 1000000
namespace Go.Proofs.Ytmnkmmfjekcinaa.Ev
open Go.Ev
theorem cReplicaEnters4 : runReplicaEnters [(4, 4), (0, 7)] = true := by kernel_rfl
theorem cReplicaEnters5 : runReplicaEnters [(5, 5), (0, 7)] = true := by kernel_rfl
theorem cReplicaEnters6 : runReplicaEnters [(6, 6), (0, 7)] = true := by kernel_rfl
theorem cReplicaEnters7 : runReplicaEnters [(7, 7), (0, 7)] = true := by kernel_rfl
end Go.Proofs.Ytmnkmmfjekcinaa.Ev
