/-
  The law RunWrites: a run.
-/
import Derived.Test.YtkmopacddblfeaaGreatDoorBaseA
set_option linter.unusedVariables false
set_option linter.unusedSimpArgs false
noncomputable section
set_option maxRecDepth 1000000
namespace Go.Proofs.YtkmopacddblfeaaGreatDoor.Ev
open Go.Ev Go.Proofs
def writesRun (r : Nat) : Bool:=hcall (rngOrc [⟨.and,.i64,0,31,.int .i64 (.ofNat r)⟩] []) K1 FT.find 60 5 [.one (.sym .i64 0)] (gFz 0 1 3) [] 3 isR []
end Go.Proofs.YtkmopacddblfeaaGreatDoor.Ev
