/-
  No cell of these rows narrows 'for every input' (looked for: loops, veiled, ifaces, maps, wideKeys, modest, calm, conditions, laid).
  DERIVED. THE GIVEN ROWS OF THIS SEAT. 5 by the template 'for every input the law returns true; each argument reads behind the call as it read before'; 0 by the template 'total and deterministic' (their statements: YtnnjlnkoomeadaaTotals.lean).
  GIVEN WITH THE SEED: the statements are not yours to turn. If you find one false, say at which input.
  Laid BY PROGRAM, IN A SANDBOX (cutbox-rows.mjs): the forced cells as the released guide's own fill.sh prints them over the translation 4b898e80fdf2ed77… (all of the seat's roots in one cut). By AI agents, Wed Nov 11 2026. No macro, syntax, notation, axiom, sorry.
-/
import Derived.Test.YtnnjlnkoomeadaaChecked
import GoSem.Claim
import GoSem.ClaimJoined
import GoSem.ClaimMapViews
import Derived.JoinedTies
import Derived.KernelRfl
namespace Go.Proofs.Ytnnjlnkoomeadaa
/- THE CELL 'sum', in the pinned program and in every row, IS THE sha256 OF THE DUMP (.gsa) THAT YtnnjlnkoomeadaaProg.lean LOADS. Nothing in Lean hashes anything: it is a label: what it is worth is what the hold of that sum in a sandbox is worth. -/
noncomputable def Try.pinned : Pinned := { name := "ytnnjlnkoomeadaa", sum := "4b898e80fdf2ed77c7697206a42148b7b4b0cdacc20cb07b8c40e472a577b788", checked := Try.checked }
namespace Rows
def none {H : Type} : Left H := { results := [], args := [] }

/-- 'cachetlaw18.QuorumGets': WHATEVER THE INPUT: true; the input reads as it did. -/
def quorumGetsSpec : ChangeSpec := { name := "quorumGets", fn := fun _ => fun
  | [d1, d2, d3] => { results := [.lit (.bool true)], args := [d1, d2, d3] }
  | _ => none }
def quorumGetsRow : OpenClaim := { program := "ytnnjlnkoomeadaa", sum := "4b898e80fdf2ed77c7697206a42148b7b4b0cdacc20cb07b8c40e472a577b788", func := "cachet/cachetlaw18.QuorumGets", spec := "quorumGets", inPlace := ["slices.overlaps[int]"], unfollowed := true, recurses := true, apart := false }
def QuorumGetsSaid : Prop := quorumGetsRow.holds Try.pinned (OpenSpec.ofChange quorumGetsSpec)

/-- ITS FALSE NEIGHBOUR: 'it returns false'. Refute it at one input. -/
def quorumGetsWrong : ChangeSpec := { name := "quorumGets", fn := fun _ => fun
  | [d1, d2, d3] => { results := [.lit (.bool false)], args := [d1, d2, d3] }
  | _ => none }
def QuorumGetsWrongFalsely : Prop := quorumGetsRow.holds Try.pinned (OpenSpec.ofChange quorumGetsWrong)

/-- 'cachetlaw18.QuorumSees': WHATEVER THE INPUT: true; the input reads as it did. -/
def quorumSeesSpec : ChangeSpec := { name := "quorumSees", fn := fun _ => fun
  | [d1, d2, d3, d4] => { results := [.lit (.bool true)], args := [d1, d2, d3, d4] }
  | _ => none }
def quorumSeesRow : OpenClaim := { program := "ytnnjlnkoomeadaa", sum := "4b898e80fdf2ed77c7697206a42148b7b4b0cdacc20cb07b8c40e472a577b788", func := "cachet/cachetlaw18.QuorumSees", spec := "quorumSees", inPlace := ["slices.overlaps[int]"], unfollowed := true, recurses := true, apart := false }
def QuorumSeesSaid : Prop := quorumSeesRow.holds Try.pinned (OpenSpec.ofChange quorumSeesSpec)

/-- ITS FALSE NEIGHBOUR: 'it returns false'. Refute it at one input. -/
def quorumSeesWrong : ChangeSpec := { name := "quorumSees", fn := fun _ => fun
  | [d1, d2, d3, d4] => { results := [.lit (.bool false)], args := [d1, d2, d3, d4] }
  | _ => none }
def QuorumSeesWrongFalsely : Prop := quorumSeesRow.holds Try.pinned (OpenSpec.ofChange quorumSeesWrong)

/-- 'cachetlaw17.ReplicaForms': WHATEVER THE INPUT: true; the input reads as it did. -/
def replicaFormsSpec : ChangeSpec := { name := "replicaForms", fn := fun _ => fun
  | [d1, d2, d3, d4, d5] => { results := [.lit (.bool true)], args := [d1, d2, d3, d4, d5] }
  | _ => none }
def replicaFormsRow : OpenClaim := { program := "ytnnjlnkoomeadaa", sum := "4b898e80fdf2ed77c7697206a42148b7b4b0cdacc20cb07b8c40e472a577b788", func := "cachet/cachetlaw17.ReplicaForms", spec := "replicaForms", unfollowed := true, recurses := true, apart := false }
def ReplicaFormsSaid : Prop := replicaFormsRow.holds Try.pinned (OpenSpec.ofChange replicaFormsSpec)

/-- ITS FALSE NEIGHBOUR: 'it returns false'. Refute it at one input. -/
def replicaFormsWrong : ChangeSpec := { name := "replicaForms", fn := fun _ => fun
  | [d1, d2, d3, d4, d5] => { results := [.lit (.bool false)], args := [d1, d2, d3, d4, d5] }
  | _ => none }
def ReplicaFormsWrongFalsely : Prop := replicaFormsRow.holds Try.pinned (OpenSpec.ofChange replicaFormsWrong)

/-- 'cachetlaw17.ReplicaAcks': WHATEVER THE INPUT: true; the input reads as it did. -/
def replicaAcksSpec : ChangeSpec := { name := "replicaAcks", fn := fun _ => fun
  | [d1, d2, d3] => { results := [.lit (.bool true)], args := [d1, d2, d3] }
  | _ => none }
def replicaAcksRow : OpenClaim := { program := "ytnnjlnkoomeadaa", sum := "4b898e80fdf2ed77c7697206a42148b7b4b0cdacc20cb07b8c40e472a577b788", func := "cachet/cachetlaw17.ReplicaAcks", spec := "replicaAcks", inPlace := ["slices.overlaps[int]", "slices.overlaps[cachet/api.Do]"], unfollowed := true, recurses := true, apart := false }
def ReplicaAcksSaid : Prop := replicaAcksRow.holds Try.pinned (OpenSpec.ofChange replicaAcksSpec)

/-- ITS FALSE NEIGHBOUR: 'it returns false'. Refute it at one input. -/
def replicaAcksWrong : ChangeSpec := { name := "replicaAcks", fn := fun _ => fun
  | [d1, d2, d3] => { results := [.lit (.bool false)], args := [d1, d2, d3] }
  | _ => none }
def ReplicaAcksWrongFalsely : Prop := replicaAcksRow.holds Try.pinned (OpenSpec.ofChange replicaAcksWrong)

/-- 'cachetlaw17.ReplicaOld': WHATEVER THE INPUT: true; the input reads as it did. -/
def replicaOldSpec : ChangeSpec := { name := "replicaOld", fn := fun _ => fun
  | [d1, d2, d3] => { results := [.lit (.bool true)], args := [d1, d2, d3] }
  | _ => none }
def replicaOldRow : OpenClaim := { program := "ytnnjlnkoomeadaa", sum := "4b898e80fdf2ed77c7697206a42148b7b4b0cdacc20cb07b8c40e472a577b788", func := "cachet/cachetlaw17.ReplicaOld", spec := "replicaOld", inPlace := ["slices.overlaps[int]", "slices.overlaps[cachet/api.Do]"], unfollowed := true, recurses := true, apart := false }
def ReplicaOldSaid : Prop := replicaOldRow.holds Try.pinned (OpenSpec.ofChange replicaOldSpec)

/-- ITS FALSE NEIGHBOUR: 'it returns false'. Refute it at one input. -/
def replicaOldWrong : ChangeSpec := { name := "replicaOld", fn := fun _ => fun
  | [d1, d2, d3] => { results := [.lit (.bool false)], args := [d1, d2, d3] }
  | _ => none }
def ReplicaOldWrongFalsely : Prop := replicaOldRow.holds Try.pinned (OpenSpec.ofChange replicaOldWrong)

/- THE SECOND FORM. 'bulk': how many values and letters a reading holds, each counted each time it is reached (what is shared counts as often as it is met; a slice's spare places count too). A statement '..UptoSaid' is the law's where the arguments, and the package variables that the reading takes, are together of bulk at most 1048576: NARROWER than '..Said'. Prove '..Said' where nothing that the law and all that it calls make is longer than what came in: it says more and counts as full. Else prove '..UptoSaid'. A law counts once. -/
mutual
def uptoBulk {H : Type} : DataW H → Nat
  | .lit (.string bytes) => bytes.length + 1
  | .lit _ => 1
  | .nil => 1
  | .ptr d => uptoBulk d + 1
  | .slice elems spare => uptoBulkAll elems + uptoBulkAll spare + 1
  | .agg parts => uptoBulkAll parts + 1
  | .iface _ d => uptoBulk d + 1
  | .map entries => uptoBulkEntries entries + 1
  | .held _ => 1
def uptoBulkAll {H : Type} : List (DataW H) → Nat
  | [] => 0
  | d :: r => uptoBulk d + uptoBulkAll r
def uptoBulkEntries {H : Type} : List (Lit × DataW H) → Nat
  | [] => 0
  | x :: r => uptoBulkEntry x + uptoBulkEntries r
def uptoBulkEntry {H : Type} : Lit × DataW H → Nat
  | (.string bytes, d) => bytes.length + uptoBulk d + 1
  | (_, d) => uptoBulk d + 1
 end
def uptoSmall : (H : Type) → List (DataW H) → Bool := fun _ ds => decide (uptoBulkAll ds ≤ 1048576)
def OpenSpec.upto (s : _root_.Go.ChangeSpec) : _root_.Go.OpenSpec := { _root_.Go.OpenSpec.ofChange s with cond := some uptoSmall }

/-- 'cachetlaw18.QuorumGets', WHERE WHAT IT READS IS OF BULK AT MOST 1048576: true; the input reads as it did. -/
def quorumGetsUptoRow : OpenClaim := { program := "ytnnjlnkoomeadaa", sum := "4b898e80fdf2ed77c7697206a42148b7b4b0cdacc20cb07b8c40e472a577b788", func := "cachet/cachetlaw18.QuorumGets", spec := "quorumGets", inPlace := ["slices.overlaps[int]"], unfollowed := true, recurses := true, apart := false, narrowed := true }
def QuorumGetsUptoSaid : Prop := quorumGetsUptoRow.holds Try.pinned (OpenSpec.upto quorumGetsSpec)

/-- 'cachetlaw18.QuorumSees', WHERE WHAT IT READS IS OF BULK AT MOST 1048576: true; the input reads as it did. -/
def quorumSeesUptoRow : OpenClaim := { program := "ytnnjlnkoomeadaa", sum := "4b898e80fdf2ed77c7697206a42148b7b4b0cdacc20cb07b8c40e472a577b788", func := "cachet/cachetlaw18.QuorumSees", spec := "quorumSees", inPlace := ["slices.overlaps[int]"], unfollowed := true, recurses := true, apart := false, narrowed := true }
def QuorumSeesUptoSaid : Prop := quorumSeesUptoRow.holds Try.pinned (OpenSpec.upto quorumSeesSpec)

/-- 'cachetlaw17.ReplicaForms', WHERE WHAT IT READS IS OF BULK AT MOST 1048576: true; the input reads as it did. -/
def replicaFormsUptoRow : OpenClaim := { program := "ytnnjlnkoomeadaa", sum := "4b898e80fdf2ed77c7697206a42148b7b4b0cdacc20cb07b8c40e472a577b788", func := "cachet/cachetlaw17.ReplicaForms", spec := "replicaForms", unfollowed := true, recurses := true, apart := false, narrowed := true }
def ReplicaFormsUptoSaid : Prop := replicaFormsUptoRow.holds Try.pinned (OpenSpec.upto replicaFormsSpec)

/-- 'cachetlaw17.ReplicaAcks', WHERE WHAT IT READS IS OF BULK AT MOST 1048576: true; the input reads as it did. -/
def replicaAcksUptoRow : OpenClaim := { program := "ytnnjlnkoomeadaa", sum := "4b898e80fdf2ed77c7697206a42148b7b4b0cdacc20cb07b8c40e472a577b788", func := "cachet/cachetlaw17.ReplicaAcks", spec := "replicaAcks", inPlace := ["slices.overlaps[int]", "slices.overlaps[cachet/api.Do]"], unfollowed := true, recurses := true, apart := false, narrowed := true }
def ReplicaAcksUptoSaid : Prop := replicaAcksUptoRow.holds Try.pinned (OpenSpec.upto replicaAcksSpec)

/-- 'cachetlaw17.ReplicaOld', WHERE WHAT IT READS IS OF BULK AT MOST 1048576: true; the input reads as it did. -/
def replicaOldUptoRow : OpenClaim := { program := "ytnnjlnkoomeadaa", sum := "4b898e80fdf2ed77c7697206a42148b7b4b0cdacc20cb07b8c40e472a577b788", func := "cachet/cachetlaw17.ReplicaOld", spec := "replicaOld", inPlace := ["slices.overlaps[int]", "slices.overlaps[cachet/api.Do]"], unfollowed := true, recurses := true, apart := false, narrowed := true }
def ReplicaOldUptoSaid : Prop := replicaOldUptoRow.holds Try.pinned (OpenSpec.upto replicaOldSpec)

end Rows
end Go.Proofs.Ytnnjlnkoomeadaa
