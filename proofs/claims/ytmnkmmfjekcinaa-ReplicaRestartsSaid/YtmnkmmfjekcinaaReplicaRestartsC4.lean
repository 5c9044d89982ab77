/-
  ReplicaRestarts: cases, part 4.
-/
import Derived.Test.YtmnkmmfjekcinaaReplicaRestartsC0
import Derived.KernelRfl
set_option maxRecDepth 1000000
namespace Go.Proofs.Ytmnkmmfjekcinaa.Ev
open Go.Ev
theorem cReplicaRestarts12 : runReplicaRestarts false [(4, 4), (0, 15)] = true := by kernel_rfl
theorem cReplicaRestarts13 : runReplicaRestarts false [(5, 5), (0, 15)] = true := by kernel_rfl
theorem cReplicaRestarts14 : runReplicaRestarts false [(6, 6), (0, 15)] = true := by kernel_rfl
theorem cReplicaRestarts15 : runReplicaRestarts false [(7, 7), (0, 15)] = true := by kernel_rfl
end Go.Proofs.Ytmnkmmfjekcinaa.Ev
