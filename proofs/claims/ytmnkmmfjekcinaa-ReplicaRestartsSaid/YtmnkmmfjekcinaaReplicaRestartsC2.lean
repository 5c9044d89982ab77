/-
  ReplicaRestarts: cases, part 2.
-/
import Derived.Test.YtmnkmmfjekcinaaReplicaRestartsC0
import Derived.KernelRfl
set_option maxRecDepth 1000000
namespace Go.Proofs.Ytmnkmmfjekcinaa.Ev
open Go.Ev
theorem cReplicaRestarts4 : runReplicaRestarts true [(4, 4), (0, 15)] = true := by kernel_rfl
theorem cReplicaRestarts5 : runReplicaRestarts true [(5, 5), (0, 15)] = true := by kernel_rfl
theorem cReplicaRestarts6 : runReplicaRestarts true [(6, 6), (0, 15)] = true := by kernel_rfl
theorem cReplicaRestarts7 : runReplicaRestarts true [(7, 7), (0, 15)] = true := by kernel_rfl
end Go.Proofs.Ytmnkmmfjekcinaa.Ev
