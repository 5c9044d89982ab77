/-
  WorldDown: how it is run.
-/
import Derived.Test.YtkcccjihafhmdaaGreatBaseW
set_option maxRecDepth 1000000
namespace Go.Proofs.YtkcccjihafhmdaaGreat.Ev
open Go.Ev
noncomputable def runWorldDown (pc : PC) : Bool := hcall (rngOrc3 [⟨.rem, .u64, 8, 3, .sym .u64 16016⟩, ⟨.and, .i64, 1, 1023, .sym .i64 16017⟩, ⟨.quo, .i64, 16017, 64, .sym .i64 16018⟩, ⟨.rem, .i64, 16017, 64, .sym .i64 16019⟩] [⟨.u64, 0, .sym .u64 8⟩]) K1W FT.find 60 8 [.one (.sym .i64 0), .one (.sym .i64 1)] (fun _ => none) [] 0 isR pc
end Go.Proofs.YtkcccjihafhmdaaGreat.Ev
