/-
  The law RunWrites: cases.
-/
import Derived.Test.YtkmopacddblfeaaGreatDoorWrDef
set_option maxRecDepth 1000000
namespace Go.Proofs.YtkmopacddblfeaaGreatDoor.Ev
open Go.Ev Go.Proofs
theorem writes_31 : writesRun 31 = true := by kernel_rfl
theorem writes_27 : writesRun 27 = true := by kernel_rfl
theorem writes_23 : writesRun 23 = true := by kernel_rfl
theorem writes_19 : writesRun 19 = true := by kernel_rfl
theorem writes_15 : writesRun 15 = true := by kernel_rfl
theorem writes_11 : writesRun 11 = true := by kernel_rfl
theorem writes_7 : writesRun 7 = true := by kernel_rfl
theorem writes_3 : writesRun 3 = true := by kernel_rfl
end Go.Proofs.YtkmopacddblfeaaGreatDoor.Ev
