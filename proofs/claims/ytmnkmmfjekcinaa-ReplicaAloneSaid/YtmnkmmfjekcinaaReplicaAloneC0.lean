/-
  ReplicaAlone: how it is run.
-/
import Derived.Test.YtmnkmmfjekcinaaBase
import Derived.Test.YtmnkmmfjekcinaaEvMask2
set_option maxRecDepth 1000000
namespace Go.Proofs.Ytmnkmmfjekcinaa.Ev
open Go.Ev
noncomputable def runReplicaAlone (pc : PC) : Bool := hcall (rngOrc2 [⟨.and, .i64, 0, 31, .sym .i64 16016⟩, ⟨.and, .i64, 1, 7, .sym .i64 16017⟩] []) K1 FT.find 60 6 [.one (.sym .i64 0), .one (.sym .i64 1)] (fun _ => none) [] 0 isR pc
end Go.Proofs.Ytmnkmmfjekcinaa.Ev
