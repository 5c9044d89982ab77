/-
  NodeHeld: how it is run.
-/
import Derived.Test.YtkcccjihafhmdaaGreatBaseN
set_option maxRecDepth 1000000
namespace Go.Proofs.YtkcccjihafhmdaaGreat.Ev
open Go.Ev
noncomputable def runNodeHeld (pc : PC) : Bool := hcall (rngOrc2 [⟨.and, .i64, 0, 31, .sym .i64 16016⟩] []) K1N FT.find 60 5 [.one (.sym .i64 0)] (fun _ => none) [] 0 isR pc
end Go.Proofs.YtkcccjihafhmdaaGreat.Ev
