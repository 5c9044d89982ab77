/-
  The law RunWrites: cases.
-/
import Derived.Test.YtkmopacddblfeaaGreatDoorWrDef
set_option maxRecDepth 1000000
namespace Go.Proofs.YtkmopacddblfeaaGreatDoor.Ev
open Go.Ev Go.Proofs
theorem writes_30 : writesRun 30 = true := by kernel_rfl
theorem writes_26 : writesRun 26 = true := by kernel_rfl
theorem writes_22 : writesRun 22 = true := by kernel_rfl
theorem writes_18 : writesRun 18 = true := by kernel_rfl
theorem writes_14 : writesRun 14 = true := by kernel_rfl
theorem writes_10 : writesRun 10 = true := by kernel_rfl
theorem writes_6 : writesRun 6 = true := by kernel_rfl
theorem writes_2 : writesRun 2 = true := by kernel_rfl
end Go.Proofs.YtkmopacddblfeaaGreatDoor.Ev
