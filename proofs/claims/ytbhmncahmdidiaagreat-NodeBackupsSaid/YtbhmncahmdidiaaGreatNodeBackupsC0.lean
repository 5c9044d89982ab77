/-
  NodeBackups: how it is run.
-/
import Derived.Test.YtbhmncahmdidiaaGreatBase
set_option maxRecDepth 1000000
namespace Go.Proofs.YtbhmncahmdidiaaGreat.Ev
open Go.Ev
noncomputable def runNodeBackups (a1 : Bool) (a2 : Bool) (pc : PC) : Bool := hcall (rngOrc2 [⟨.rem, .u64, 8, 4, .sym .u64 16016⟩, ⟨.rem, .u64, 8, 2, .sym .u64 16017⟩, ⟨.and, .i64, 3, 255, .sym .i64 16018⟩] [⟨.u64, 0, .sym .u64 8⟩]) K1 FT.find 60 6 [.one (.sym .i64 0), .one (.bool a1), .one (.bool a2), .one (.sym .i64 3)] (fun _ => none) [] 0 isR pc
end Go.Proofs.YtbhmncahmdidiaaGreat.Ev
