/-
  The law RunWrites: cases.
-/
import Derived.Test.YtkmopacddblfeaaGreatDoorWrDef
set_option maxRecDepth 1000000
namespace Go.Proofs.YtkmopacddblfeaaGreatDoor.Ev
open Go.Ev Go.Proofs
theorem writes_29 : writesRun 29 = true := by kernel_rfl
theorem writes_25 : writesRun 25 = true := by kernel_rfl
theorem writes_21 : writesRun 21 = true := by kernel_rfl
theorem writes_17 : writesRun 17 = true := by kernel_rfl
theorem writes_13 : writesRun 13 = true := by kernel_rfl
theorem writes_9 : writesRun 9 = true := by kernel_rfl
theorem writes_5 : writesRun 5 = true := by kernel_rfl
theorem writes_1 : writesRun 1 = true := by kernel_rfl
end Go.Proofs.YtkmopacddblfeaaGreatDoor.Ev
