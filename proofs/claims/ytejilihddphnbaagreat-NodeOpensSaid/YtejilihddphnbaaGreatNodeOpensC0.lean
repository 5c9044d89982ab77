/-
  NodeOpens: how it is run.
-/
import Derived.Test.YtejilihddphnbaaGreatBaseN
set_option maxRecDepth 1000000
namespace Go.Proofs.YtejilihddphnbaaGreat.Ev
open Go.Ev
noncomputable def runNodeOpens (a1 : Bool) (pc : PC) : Bool := hcall (rngOrc2 [⟨.and, .i64, 0, 31, .sym .i64 16016⟩] []) K1N FT.find 60 3 [.one (.sym .i64 0), .one (.bool a1)] (fun _ => none) [] 0 isR pc
end Go.Proofs.YtejilihddphnbaaGreat.Ev
