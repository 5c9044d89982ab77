/-
  NodeTries: how it is run.
-/
import Derived.Test.YtbhmncahmdidiaaGreatBase
set_option maxRecDepth 1000000
namespace Go.Proofs.YtbhmncahmdidiaaGreat.Ev
open Go.Ev
noncomputable def runNodeTries (pc : PC) : Bool := hcall (rngOrc2 [⟨.and, .i64, 0, 7, .sym .i64 16016⟩, ⟨.and, .i64, 1, 15, .sym .i64 16017⟩, ⟨.and, .i64, 2, 15, .sym .i64 16018⟩] []) K1 FT.find 60 4 [.one (.sym .i64 0), .one (.sym .i64 1), .one (.sym .i64 2)] (fun _ => none) [] 0 isR pc
end Go.Proofs.YtbhmncahmdidiaaGreat.Ev
