/-
  ReplicaShort: how it is run.
-/
import Derived.Test.YtmnkmmfjekcinaaGreatBase
import Derived.Test.YtmnkmmfjekcinaaGreatEvMask2
set_option maxRecDepth 1000000
namespace Go.Proofs.YtmnkmmfjekcinaaGreat.Ev
open Go.Ev
noncomputable def runReplicaShort (a2 : Bool) (pc : PC) : Bool := hcall (rngOrc2 [⟨.and, .i64, 0, 15, .sym .i64 16016⟩, ⟨.and, .i64, 1, 15, .sym .i64 16017⟩] []) K1 FT.find 60 3 [.one (.sym .i64 0), .one (.sym .i64 1), .one (.bool a2)] (fun _ => none) [] 0 isR pc
end Go.Proofs.YtmnkmmfjekcinaaGreat.Ev
