/-
  TopSplit: how it is run.
-/
import Derived.Test.YtejilihddphnbaaGreatBaseT
set_option maxRecDepth 1000000
namespace Go.Proofs.YtejilihddphnbaaGreat.Ev
open Go.Ev
noncomputable def runTopSplit (pc : PC) : Bool := hcall (rngOrc2 [⟨.and, .i64, 0, 3, .sym .i64 16016⟩, ⟨.and, .i64, 1, 7, .sym .i64 16017⟩] []) K1T FT.find 60 6 [.one (.sym .i64 0), .one (.sym .i64 1)] (fun _ => none) [] 0 isR pc
end Go.Proofs.YtejilihddphnbaaGreat.Ev
