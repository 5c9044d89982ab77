/-
  QuorumProbes: how it is run.
-/
import Derived.Test.YtlmffooffbjdkaaBase
import Derived.Test.YtlmffooffbjdkaaEvMask2
set_option maxRecDepth 1000000
namespace Go.Proofs.Ytlmffooffbjdkaa.Ev
open Go.Ev
noncomputable def runQuorumProbes (pc : PC) : Bool := hcall (rngOrc2 [⟨.and, .i64, 0, 3, .sym .i64 16016⟩, ⟨.and, .i64, 1, 15, .sym .i64 16017⟩, ⟨.and, .i64, 2, 3, .sym .i64 16018⟩, ⟨.and, .i64, 3, 7, .sym .i64 16019⟩] []) K1 FT.find 60 6 [.one (.sym .i64 0), .one (.sym .i64 1), .one (.sym .i64 2), .one (.sym .i64 3)] (fun _ => none) [] 0 isR pc
end Go.Proofs.Ytlmffooffbjdkaa.Ev
