/-
  ReplicaRestarts: cases, part 3.
-/
import Derived.Test.YtmnkmmfjekcinaaReplicaRestartsC0
import Derived.KernelRfl
set_option maxRecDepth 1000000
namespace Go.Proofs.Ytmnkmmfjekcinaa.Ev
open Go.Ev
theorem cReplicaRestarts8 : runReplicaRestarts false [(0, 0), (0, 15)] = true := by kernel_rfl
theorem cReplicaRestarts9 : runReplicaRestarts false [(1, 1), (0, 15)] = true := by kernel_rfl
theorem cReplicaRestarts10 : runReplicaRestarts false [(2, 2), (0, 15)] = true := by kernel_rfl
theorem cReplicaRestarts11 : runReplicaRestarts false [(3, 3), (0, 15)] = true := by kernel_rfl
end Go.Proofs.Ytmnkmmfjekcinaa.Ev
