/-
  QuorumOthers: all cases.
-/
import Derived.Test.YtlmffooffbjdkaaBase
set_option maxRecDepth 1000000
namespace Go.Proofs.Ytlmffooffbjdkaa.Ev
open Go.Ev

noncomputable def othersOrc (k0 k1 : Nat) : Orc := listOrc [⟨.and, .i64, 0, 7, .int .i64 k0⟩, ⟨.and, .i64, 1, 7, .int .i64 k1⟩] []
noncomputable def othersRun (k0 k1 : Nat) : Bool := vcall (othersOrc k0 k1) false K1 FT.find 100000 60 7 [.one (.sym .i64 0), .one (.sym .i64 1)] (fun _ => none) [] 0 isT
theorem others0 : ∀ k1, k1 < 8 → othersRun 0 k1 = true := by decide +kernel
theorem others1 : ∀ k1, k1 < 8 → othersRun 1 k1 = true := by decide +kernel
theorem others2 : ∀ k1, k1 < 8 → othersRun 2 k1 = true := by decide +kernel
theorem others3 : ∀ k1, k1 < 8 → othersRun 3 k1 = true := by decide +kernel
theorem others4 : ∀ k1, k1 < 8 → othersRun 4 k1 = true := by decide +kernel
theorem others5 : ∀ k1, k1 < 8 → othersRun 5 k1 = true := by decide +kernel
theorem others6 : ∀ k1, k1 < 8 → othersRun 6 k1 = true := by decide +kernel
theorem others7 : ∀ k1, k1 < 8 → othersRun 7 k1 = true := by decide +kernel
end Go.Proofs.Ytlmffooffbjdkaa.Ev
