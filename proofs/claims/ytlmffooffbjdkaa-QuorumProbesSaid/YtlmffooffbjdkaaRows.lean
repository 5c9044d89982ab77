/-
  No cell of these rows narrows 'for every input' (looked for: loops, veiled, ifaces, maps, wideKeys, modest, calm, conditions, laid).
  DERIVED. THE GIVEN ROWS OF THIS SEAT. 6 by the template 'for every input the law returns true; each argument reads behind the call as it read before'; 0 by the template 'total and deterministic' (their statements: YtlmffooffbjdkaaTotals.lean).
  GIVEN WITH THE SEED: the statements are not yours to turn. If you find one false, say at which input.
  Laid BY PROGRAM, IN A SANDBOX (cutbox-rows.mjs): the forced cells as the released guide's own fill.sh prints them over the translation 7f21f53f9aca3d6d… (all of the seat's roots in one cut). By AI agents, Wed Nov 11 2026. No macro, syntax, notation, axiom, sorry.
-/
import Derived.Test.YtlmffooffbjdkaaChecked
import GoSem.Claim
import GoSem.ClaimJoined
import GoSem.ClaimMapViews
import Derived.JoinedTies
import Derived.KernelRfl
namespace Go.Proofs.Ytlmffooffbjdkaa
/- THE CELL 'sum', in the pinned program and in every row, IS THE sha256 OF THE DUMP (.gsa) THAT YtlmffooffbjdkaaProg.lean LOADS. Nothing in Lean hashes anything: it is a label: what it is worth is what the hold of that sum in a sandbox is worth. -/
noncomputable def Try.pinned : Pinned := { name := "ytlmffooffbjdkaa", sum := "7f21f53f9aca3d6d418042b2e2323a39390dc09de03b3ba2c9f80fad667a835a", checked := Try.checked }
namespace Rows
def none {H : Type} : Left H := { results := [], args := [] }

/-- 'cachetlaw0.CachetNames': WHATEVER THE INPUT: true; the input reads as it did. -/
def cachetNamesSpec : ChangeSpec := { name := "cachetNames", fn := fun _ => fun
  | [] => { results := [.lit (.bool true)], args := [] }
  | _ => none }
def cachetNamesRow : OpenClaim := { program := "ytlmffooffbjdkaa", sum := "7f21f53f9aca3d6d418042b2e2323a39390dc09de03b3ba2c9f80fad667a835a", func := "cachet/cachetlaw0.CachetNames", spec := "cachetNames", apart := false }
def CachetNamesSaid : Prop := cachetNamesRow.holds Try.pinned (OpenSpec.ofChange cachetNamesSpec)

/-- ITS FALSE NEIGHBOUR: 'it returns false'. Refute it at one input. -/
def cachetNamesWrong : ChangeSpec := { name := "cachetNames", fn := fun _ => fun
  | [] => { results := [.lit (.bool false)], args := [] }
  | _ => none }
def CachetNamesWrongFalsely : Prop := cachetNamesRow.holds Try.pinned (OpenSpec.ofChange cachetNamesWrong)

/-- 'cachetlaw18.QuorumGets': WHATEVER THE INPUT: true; the input reads as it did. -/
def quorumGetsSpec : ChangeSpec := { name := "quorumGets", fn := fun _ => fun
  | [d1, d2, d3] => { results := [.lit (.bool true)], args := [d1, d2, d3] }
  | _ => none }
def quorumGetsRow : OpenClaim := { program := "ytlmffooffbjdkaa", sum := "7f21f53f9aca3d6d418042b2e2323a39390dc09de03b3ba2c9f80fad667a835a", func := "cachet/cachetlaw18.QuorumGets", spec := "quorumGets", inPlace := ["slices.overlaps[int]"], unfollowed := true, recurses := true, apart := false }
def QuorumGetsSaid : Prop := quorumGetsRow.holds Try.pinned (OpenSpec.ofChange quorumGetsSpec)

/-- ITS FALSE NEIGHBOUR: 'it returns false'. Refute it at one input. -/
def quorumGetsWrong : ChangeSpec := { name := "quorumGets", fn := fun _ => fun
  | [d1, d2, d3] => { results := [.lit (.bool false)], args := [d1, d2, d3] }
  | _ => none }
def QuorumGetsWrongFalsely : Prop := quorumGetsRow.holds Try.pinned (OpenSpec.ofChange quorumGetsWrong)

/-- 'cachetlaw18.QuorumSees': WHATEVER THE INPUT: true; the input reads as it did. -/
def quorumSeesSpec : ChangeSpec := { name := "quorumSees", fn := fun _ => fun
  | [d1, d2, d3, d4] => { results := [.lit (.bool true)], args := [d1, d2, d3, d4] }
  | _ => none }
def quorumSeesRow : OpenClaim := { program := "ytlmffooffbjdkaa", sum := "7f21f53f9aca3d6d418042b2e2323a39390dc09de03b3ba2c9f80fad667a835a", func := "cachet/cachetlaw18.QuorumSees", spec := "quorumSees", inPlace := ["slices.overlaps[int]"], unfollowed := true, recurses := true, apart := false }
def QuorumSeesSaid : Prop := quorumSeesRow.holds Try.pinned (OpenSpec.ofChange quorumSeesSpec)

/-- ITS FALSE NEIGHBOUR: 'it returns false'. Refute it at one input. -/
def quorumSeesWrong : ChangeSpec := { name := "quorumSees", fn := fun _ => fun
  | [d1, d2, d3, d4] => { results := [.lit (.bool false)], args := [d1, d2, d3, d4] }
  | _ => none }
def QuorumSeesWrongFalsely : Prop := quorumSeesRow.holds Try.pinned (OpenSpec.ofChange quorumSeesWrong)

/-- 'cachetlaw18.QuorumProbes': WHATEVER THE INPUT: true; the input reads as it did. -/
def quorumProbesSpec : ChangeSpec := { name := "quorumProbes", fn := fun _ => fun
  | [d1, d2, d3, d4] => { results := [.lit (.bool true)], args := [d1, d2, d3, d4] }
  | _ => none }
def quorumProbesRow : OpenClaim := { program := "ytlmffooffbjdkaa", sum := "7f21f53f9aca3d6d418042b2e2323a39390dc09de03b3ba2c9f80fad667a835a", func := "cachet/cachetlaw18.QuorumProbes", spec := "quorumProbes", inPlace := ["slices.overlaps[int]"], unfollowed := true, recurses := true, apart := false }
def QuorumProbesSaid : Prop := quorumProbesRow.holds Try.pinned (OpenSpec.ofChange quorumProbesSpec)

/-- ITS FALSE NEIGHBOUR: 'it returns false'. Refute it at one input. -/
def quorumProbesWrong : ChangeSpec := { name := "quorumProbes", fn := fun _ => fun
  | [d1, d2, d3, d4] => { results := [.lit (.bool false)], args := [d1, d2, d3, d4] }
  | _ => none }
def QuorumProbesWrongFalsely : Prop := quorumProbesRow.holds Try.pinned (OpenSpec.ofChange quorumProbesWrong)

/-- 'cachetlaw18.QuorumOthers': WHATEVER THE INPUT: true; the input reads as it did. -/
def quorumOthersSpec : ChangeSpec := { name := "quorumOthers", fn := fun _ => fun
  | [d1, d2] => { results := [.lit (.bool true)], args := [d1, d2] }
  | _ => none }
def quorumOthersRow : OpenClaim := { program := "ytlmffooffbjdkaa", sum := "7f21f53f9aca3d6d418042b2e2323a39390dc09de03b3ba2c9f80fad667a835a", func := "cachet/cachetlaw18.QuorumOthers", spec := "quorumOthers", inPlace := ["slices.overlaps[int]"], unfollowed := true, recurses := true, apart := false }
def QuorumOthersSaid : Prop := quorumOthersRow.holds Try.pinned (OpenSpec.ofChange quorumOthersSpec)

/-- ITS FALSE NEIGHBOUR: 'it returns false'. Refute it at one input. -/
def quorumOthersWrong : ChangeSpec := { name := "quorumOthers", fn := fun _ => fun
  | [d1, d2] => { results := [.lit (.bool false)], args := [d1, d2] }
  | _ => none }
def QuorumOthersWrongFalsely : Prop := quorumOthersRow.holds Try.pinned (OpenSpec.ofChange quorumOthersWrong)

/-- 'cachetlaw18.QuorumAlone': WHATEVER THE INPUT: true; the input reads as it did. -/
def quorumAloneSpec : ChangeSpec := { name := "quorumAlone", fn := fun _ => fun
  | [d1, d2] => { results := [.lit (.bool true)], args := [d1, d2] }
  | _ => none }
def quorumAloneRow : OpenClaim := { program := "ytlmffooffbjdkaa", sum := "7f21f53f9aca3d6d418042b2e2323a39390dc09de03b3ba2c9f80fad667a835a", func := "cachet/cachetlaw18.QuorumAlone", spec := "quorumAlone", inPlace := ["slices.overlaps[int]"], unfollowed := true, recurses := true, apart := false }
def QuorumAloneSaid : Prop := quorumAloneRow.holds Try.pinned (OpenSpec.ofChange quorumAloneSpec)

/-- ITS FALSE NEIGHBOUR: 'it returns false'. Refute it at one input. -/
def quorumAloneWrong : ChangeSpec := { name := "quorumAlone", fn := fun _ => fun
  | [d1, d2] => { results := [.lit (.bool false)], args := [d1, d2] }
  | _ => none }
def QuorumAloneWrongFalsely : Prop := quorumAloneRow.holds Try.pinned (OpenSpec.ofChange quorumAloneWrong)

/- THE SECOND FORM. 'bulk': how many values and letters a reading holds, each counted each time it is reached (what is shared counts as often as it is met; a slice's spare places count too). A statement '..UptoSaid' is the law's where the arguments, and the package variables that the reading takes, are together of bulk at most 1048576: NARROWER than '..Said'. Prove '..Said' where nothing that the law and all that it calls make is longer than what came in: it says more and counts as full. Else prove '..UptoSaid'. A law counts once. -/
mutual
def uptoBulk {H : Type} : DataW H → Nat
  | .lit (.string bytes) => bytes.length + 1
  | .lit _ => 1
  | .nil => 1
  | .ptr d => uptoBulk d + 1
  | .slice elems spare => uptoBulkAll elems + uptoBulkAll spare + 1
  | .agg parts => uptoBulkAll parts + 1
  | .iface _ d => uptoBulk d + 1
  | .map entries => uptoBulkEntries entries + 1
  | .held _ => 1
def uptoBulkAll {H : Type} : List (DataW H) → Nat
  | [] => 0
  | d :: r => uptoBulk d + uptoBulkAll r
def uptoBulkEntries {H : Type} : List (Lit × DataW H) → Nat
  | [] => 0
  | x :: r => uptoBulkEntry x + uptoBulkEntries r
def uptoBulkEntry {H : Type} : Lit × DataW H → Nat
  | (.string bytes, d) => bytes.length + uptoBulk d + 1
  | (_, d) => uptoBulk d + 1
 end
def uptoSmall : (H : Type) → List (DataW H) → Bool := fun _ ds => decide (uptoBulkAll ds ≤ 1048576)
def OpenSpec.upto (s : _root_.Go.ChangeSpec) : _root_.Go.OpenSpec := { _root_.Go.OpenSpec.ofChange s with cond := some uptoSmall }

/-- 'cachetlaw0.CachetNames', WHERE WHAT IT READS IS OF BULK AT MOST 1048576: true; the input reads as it did. -/
def cachetNamesUptoRow : OpenClaim := { program := "ytlmffooffbjdkaa", sum := "7f21f53f9aca3d6d418042b2e2323a39390dc09de03b3ba2c9f80fad667a835a", func := "cachet/cachetlaw0.CachetNames", spec := "cachetNames", apart := false, narrowed := true }
def CachetNamesUptoSaid : Prop := cachetNamesUptoRow.holds Try.pinned (OpenSpec.upto cachetNamesSpec)

/-- 'cachetlaw18.QuorumGets', WHERE WHAT IT READS IS OF BULK AT MOST 1048576: true; the input reads as it did. -/
def quorumGetsUptoRow : OpenClaim := { program := "ytlmffooffbjdkaa", sum := "7f21f53f9aca3d6d418042b2e2323a39390dc09de03b3ba2c9f80fad667a835a", func := "cachet/cachetlaw18.QuorumGets", spec := "quorumGets", inPlace := ["slices.overlaps[int]"], unfollowed := true, recurses := true, apart := false, narrowed := true }
def QuorumGetsUptoSaid : Prop := quorumGetsUptoRow.holds Try.pinned (OpenSpec.upto quorumGetsSpec)

/-- 'cachetlaw18.QuorumSees', WHERE WHAT IT READS IS OF BULK AT MOST 1048576: true; the input reads as it did. -/
def quorumSeesUptoRow : OpenClaim := { program := "ytlmffooffbjdkaa", sum := "7f21f53f9aca3d6d418042b2e2323a39390dc09de03b3ba2c9f80fad667a835a", func := "cachet/cachetlaw18.QuorumSees", spec := "quorumSees", inPlace := ["slices.overlaps[int]"], unfollowed := true, recurses := true, apart := false, narrowed := true }
def QuorumSeesUptoSaid : Prop := quorumSeesUptoRow.holds Try.pinned (OpenSpec.upto quorumSeesSpec)

/-- 'cachetlaw18.QuorumProbes', WHERE WHAT IT READS IS OF BULK AT MOST 1048576: true; the input reads as it did. -/
def quorumProbesUptoRow : OpenClaim := { program := "ytlmffooffbjdkaa", sum := "7f21f53f9aca3d6d418042b2e2323a39390dc09de03b3ba2c9f80fad667a835a", func := "cachet/cachetlaw18.QuorumProbes", spec := "quorumProbes", inPlace := ["slices.overlaps[int]"], unfollowed := true, recurses := true, apart := false, narrowed := true }
def QuorumProbesUptoSaid : Prop := quorumProbesUptoRow.holds Try.pinned (OpenSpec.upto quorumProbesSpec)

/-- 'cachetlaw18.QuorumOthers', WHERE WHAT IT READS IS OF BULK AT MOST 1048576: true; the input reads as it did. -/
def quorumOthersUptoRow : OpenClaim := { program := "ytlmffooffbjdkaa", sum := "7f21f53f9aca3d6d418042b2e2323a39390dc09de03b3ba2c9f80fad667a835a", func := "cachet/cachetlaw18.QuorumOthers", spec := "quorumOthers", inPlace := ["slices.overlaps[int]"], unfollowed := true, recurses := true, apart := false, narrowed := true }
def QuorumOthersUptoSaid : Prop := quorumOthersUptoRow.holds Try.pinned (OpenSpec.upto quorumOthersSpec)

/-- 'cachetlaw18.QuorumAlone', WHERE WHAT IT READS IS OF BULK AT MOST 1048576: true; the input reads as it did. -/
def quorumAloneUptoRow : OpenClaim := { program := "ytlmffooffbjdkaa", sum := "7f21f53f9aca3d6d418042b2e2323a39390dc09de03b3ba2c9f80fad667a835a", func := "cachet/cachetlaw18.QuorumAlone", spec := "quorumAlone", inPlace := ["slices.overlaps[int]"], unfollowed := true, recurses := true, apart := false, narrowed := true }
def QuorumAloneUptoSaid : Prop := quorumAloneUptoRow.holds Try.pinned (OpenSpec.upto quorumAloneSpec)

end Rows
end Go.Proofs.Ytlmffooffbjdkaa
