/-
  WorldOps: how it is run.
-/
import Derived.Test.YtkmopacddblfeaaGreatBaseW
set_option linter.unusedVariables false
set_option linter.unusedSimpArgs false
noncomputable section
set_option maxRecDepth 1000000
namespace Go.Proofs.YtkmopacddblfeaaGreat.Ev
open Go.Ev
def runWorldOps (pc : PC) : Bool:=hcall (rngOrc2 [⟨.and,.i64,0,7,.sym .i64 16016⟩] []) K1W FT.find 60 3 [.one (.sym .i64 0)] (λ_=>none) [] 0 isR pc
end Go.Proofs.YtkmopacddblfeaaGreat.Ev
