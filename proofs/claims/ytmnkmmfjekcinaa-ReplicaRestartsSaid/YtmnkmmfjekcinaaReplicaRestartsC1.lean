/-
  ReplicaRestarts: cases, part 1.
-/
import Derived.Test.YtmnkmmfjekcinaaReplicaRestartsC0
import Derived.KernelRfl
set_option maxRecDepth 1000000
namespace Go.Proofs.Ytmnkmmfjekcinaa.Ev
open Go.Ev
theorem cReplicaRestarts0 : runReplicaRestarts true [(0, 0), (0, 15)] = true := by kernel_rfl
theorem cReplicaRestarts1 : runReplicaRestarts true [(1, 1), (0, 15)] = true := by kernel_rfl
theorem cReplicaRestarts2 : runReplicaRestarts true [(2, 2), (0, 15)] = true := by kernel_rfl
theorem cReplicaRestarts3 : runReplicaRestarts true [(3, 3), (0, 15)] = true := by kernel_rfl
end Go.Proofs.Ytmnkmmfjekcinaa.Ev
