/-
  No cell of these rows narrows 'for every input' (looked for: loops, veiled, ifaces, maps, wideKeys, modest, calm, conditions, laid).
  DERIVED. THE GIVEN ROWS OF THIS SEAT. 3 by the template 'for every input the law returns true; each argument reads behind the call as it read before'; 0 by the template 'total and deterministic' (their statements: YtnnjlnkoomeadaaGreatTotals.lean).
  GIVEN WITH THE SEED: the statements are not yours to turn. If you find one false, say at which input.
  Laid BY PROGRAM, IN A SANDBOX (cutbox-rows.mjs): the forced cells as the released guide's own fill.sh prints them over the translation 6dfd49e4e456a4ee… (all of the seat's roots in one cut). By AI agents, Wed Nov 11 2026. No macro, syntax, notation, axiom, sorry.
-/
import Derived.Test.YtnnjlnkoomeadaaGreatChecked
import GoSem.Claim
import GoSem.ClaimJoined
import GoSem.ClaimMapViews
import Derived.JoinedTies
import Derived.KernelRfl
namespace Go.Proofs.YtnnjlnkoomeadaaGreat
/- THE CELL 'sum', in the pinned program and in every row, IS THE sha256 OF THE DUMP (.gsa) THAT YtnnjlnkoomeadaaGreatProg.lean LOADS. Nothing in Lean hashes anything: it is a label: what it is worth is what the hold of that sum in a sandbox is worth. -/
noncomputable def Tryz.pinned : Pinned := { name := "ytnnjlnkoomeadaagreat", sum := "6dfd49e4e456a4eec100665eb885a0b772145d5e649f36bf8340c55afdc33d20", checked := Tryz.checked }
namespace Rows
def none {H : Type} : Left H := { results := [], args := [] }

/-- 'cachetlaw17.ReplicaProposes': WHATEVER THE INPUT: true; the input reads as it did. -/
def replicaProposesSpec : ChangeSpec := { name := "replicaProposes", fn := fun _ => fun
  | [d1, d2] => { results := [.lit (.bool true)], args := [d1, d2] }
  | _ => none }
def replicaProposesRow : OpenClaim := { program := "ytnnjlnkoomeadaagreat", sum := "6dfd49e4e456a4eec100665eb885a0b772145d5e649f36bf8340c55afdc33d20", func := "cachet/cachetlaw17.ReplicaProposes", spec := "replicaProposes", unfollowed := true, recurses := true, apart := false }
def ReplicaProposesSaid : Prop := replicaProposesRow.holds Tryz.pinned (OpenSpec.ofChange replicaProposesSpec)

/-- ITS FALSE NEIGHBOUR: 'it returns false'. Refute it at one input. -/
def replicaProposesWrong : ChangeSpec := { name := "replicaProposes", fn := fun _ => fun
  | [d1, d2] => { results := [.lit (.bool false)], args := [d1, d2] }
  | _ => none }
def ReplicaProposesWrongFalsely : Prop := replicaProposesRow.holds Tryz.pinned (OpenSpec.ofChange replicaProposesWrong)

/-- 'cachetlaw17.ReplicaTimers': WHATEVER THE INPUT: true; the input reads as it did. -/
def replicaTimersSpec : ChangeSpec := { name := "replicaTimers", fn := fun _ => fun
  | [d] => { results := [.lit (.bool true)], args := [d] }
  | _ => none }
def replicaTimersRow : OpenClaim := { program := "ytnnjlnkoomeadaagreat", sum := "6dfd49e4e456a4eec100665eb885a0b772145d5e649f36bf8340c55afdc33d20", func := "cachet/cachetlaw17.ReplicaTimers", spec := "replicaTimers", unfollowed := true, recurses := true, apart := false }
def ReplicaTimersSaid : Prop := replicaTimersRow.holds Tryz.pinned (OpenSpec.ofChange replicaTimersSpec)

/-- ITS FALSE NEIGHBOUR: 'it returns false'. Refute it at one input. -/
def replicaTimersWrong : ChangeSpec := { name := "replicaTimers", fn := fun _ => fun
  | [d] => { results := [.lit (.bool false)], args := [d] }
  | _ => none }
def ReplicaTimersWrongFalsely : Prop := replicaTimersRow.holds Tryz.pinned (OpenSpec.ofChange replicaTimersWrong)

/-- 'cachetlaw17.ReplicaReceives': WHATEVER THE INPUT: true; the input reads as it did. -/
def replicaReceivesSpec : ChangeSpec := { name := "replicaReceives", fn := fun _ => fun
  | [d1, d2] => { results := [.lit (.bool true)], args := [d1, d2] }
  | _ => none }
def replicaReceivesRow : OpenClaim := { program := "ytnnjlnkoomeadaagreat", sum := "6dfd49e4e456a4eec100665eb885a0b772145d5e649f36bf8340c55afdc33d20", func := "cachet/cachetlaw17.ReplicaReceives", spec := "replicaReceives", inPlace := ["slices.overlaps[int]", "slices.overlaps[cachet/api.Do]"], unfollowed := true, recurses := true, apart := false }
def ReplicaReceivesSaid : Prop := replicaReceivesRow.holds Tryz.pinned (OpenSpec.ofChange replicaReceivesSpec)

/-- ITS FALSE NEIGHBOUR: 'it returns false'. Refute it at one input. -/
def replicaReceivesWrong : ChangeSpec := { name := "replicaReceives", fn := fun _ => fun
  | [d1, d2] => { results := [.lit (.bool false)], args := [d1, d2] }
  | _ => none }
def ReplicaReceivesWrongFalsely : Prop := replicaReceivesRow.holds Tryz.pinned (OpenSpec.ofChange replicaReceivesWrong)

/- THE SECOND FORM. 'bulk': how many values and letters a reading holds, each counted each time it is reached (what is shared counts as often as it is met; a slice's spare places count too). A statement '..UptoSaid' is the law's where the arguments, and the package variables that the reading takes, are together of bulk at most 1048576: NARROWER than '..Said'. Prove '..Said' where nothing that the law and all that it calls make is longer than what came in: it says more and counts as full. Else prove '..UptoSaid'. A law counts once. -/
mutual
def uptoBulk {H : Type} : DataW H → Nat
  | .lit (.string bytes) => bytes.length + 1
  | .lit _ => 1
  | .nil => 1
  | .ptr d => uptoBulk d + 1
  | .slice elems spare => uptoBulkAll elems + uptoBulkAll spare + 1
  | .agg parts => uptoBulkAll parts + 1
  | .iface _ d => uptoBulk d + 1
  | .map entries => uptoBulkEntries entries + 1
  | .held _ => 1
def uptoBulkAll {H : Type} : List (DataW H) → Nat
  | [] => 0
  | d :: r => uptoBulk d + uptoBulkAll r
def uptoBulkEntries {H : Type} : List (Lit × DataW H) → Nat
  | [] => 0
  | x :: r => uptoBulkEntry x + uptoBulkEntries r
def uptoBulkEntry {H : Type} : Lit × DataW H → Nat
  | (.string bytes, d) => bytes.length + uptoBulk d + 1
  | (_, d) => uptoBulk d + 1
 end
def uptoSmall : (H : Type) → List (DataW H) → Bool := fun _ ds => decide (uptoBulkAll ds ≤ 1048576)
def OpenSpec.upto (s : _root_.Go.ChangeSpec) : _root_.Go.OpenSpec := { _root_.Go.OpenSpec.ofChange s with cond := some uptoSmall }

/-- 'cachetlaw17.ReplicaProposes', WHERE WHAT IT READS IS OF BULK AT MOST 1048576: true; the input reads as it did. -/
def replicaProposesUptoRow : OpenClaim := { program := "ytnnjlnkoomeadaagreat", sum := "6dfd49e4e456a4eec100665eb885a0b772145d5e649f36bf8340c55afdc33d20", func := "cachet/cachetlaw17.ReplicaProposes", spec := "replicaProposes", unfollowed := true, recurses := true, apart := false, narrowed := true }
def ReplicaProposesUptoSaid : Prop := replicaProposesUptoRow.holds Tryz.pinned (OpenSpec.upto replicaProposesSpec)

/-- 'cachetlaw17.ReplicaTimers', WHERE WHAT IT READS IS OF BULK AT MOST 1048576: true; the input reads as it did. -/
def replicaTimersUptoRow : OpenClaim := { program := "ytnnjlnkoomeadaagreat", sum := "6dfd49e4e456a4eec100665eb885a0b772145d5e649f36bf8340c55afdc33d20", func := "cachet/cachetlaw17.ReplicaTimers", spec := "replicaTimers", unfollowed := true, recurses := true, apart := false, narrowed := true }
def ReplicaTimersUptoSaid : Prop := replicaTimersUptoRow.holds Tryz.pinned (OpenSpec.upto replicaTimersSpec)

/-- 'cachetlaw17.ReplicaReceives', WHERE WHAT IT READS IS OF BULK AT MOST 1048576: true; the input reads as it did. -/
def replicaReceivesUptoRow : OpenClaim := { program := "ytnnjlnkoomeadaagreat", sum := "6dfd49e4e456a4eec100665eb885a0b772145d5e649f36bf8340c55afdc33d20", func := "cachet/cachetlaw17.ReplicaReceives", spec := "replicaReceives", inPlace := ["slices.overlaps[int]", "slices.overlaps[cachet/api.Do]"], unfollowed := true, recurses := true, apart := false, narrowed := true }
def ReplicaReceivesUptoSaid : Prop := replicaReceivesUptoRow.holds Tryz.pinned (OpenSpec.upto replicaReceivesSpec)

end Rows
end Go.Proofs.YtnnjlnkoomeadaaGreat
