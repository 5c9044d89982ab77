/-
  The law RunWrites: cases.
-/
import Derived.Test.YtkmopacddblfeaaGreatDoorWrDef
set_option maxRecDepth 1000000
namespace Go.Proofs.YtkmopacddblfeaaGreatDoor.Ev
open Go.Ev Go.Proofs
theorem writes_28 : writesRun 28 = true := by kernel_rfl
theorem writes_24 : writesRun 24 = true := by kernel_rfl
theorem writes_20 : writesRun 20 = true := by kernel_rfl
theorem writes_16 : writesRun 16 = true := by kernel_rfl
theorem writes_12 : writesRun 12 = true := by kernel_rfl
theorem writes_8 : writesRun 8 = true := by kernel_rfl
theorem writes_4 : writesRun 4 = true := by kernel_rfl
theorem writes_0 : writesRun 0 = true := by kernel_rfl
end Go.Proofs.YtkmopacddblfeaaGreatDoor.Ev
