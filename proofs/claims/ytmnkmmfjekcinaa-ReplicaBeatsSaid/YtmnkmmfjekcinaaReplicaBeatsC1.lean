/-
  ReplicaBeats: cases, part 1.
-/
import Derived.Test.YtmnkmmfjekcinaaReplicaBeatsC0
import Derived.KernelRfl
set_option maxRecDepth 1000000
namespace Go.Proofs.Ytmnkmmfjekcinaa.Ev
open Go.Ev
theorem cReplicaBeats0 : runReplicaBeats [(0, 0), (0, 7)] = true := by kernel_rfl
theorem cReplicaBeats1 : runReplicaBeats [(1, 1), (0, 7)] = true := by kernel_rfl
theorem cReplicaBeats2 : runReplicaBeats [(2, 2), (0, 7)] = true := by kernel_rfl
theorem cReplicaBeats3 : runReplicaBeats [(3, 3), (0, 7)] = true := by kernel_rfl
end Go.Proofs.Ytmnkmmfjekcinaa.Ev
