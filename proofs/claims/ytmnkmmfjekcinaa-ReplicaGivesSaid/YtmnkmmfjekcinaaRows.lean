/-
  No cell of these rows narrows 'for every input' (looked for: loops, veiled, ifaces, maps, wideKeys, modest, calm, conditions, laid).
  DERIVED. THE GIVEN ROWS OF THIS SEAT. 11 by the template 'for every input the law returns true; each argument reads behind the call as it read before'; 0 by the template 'total and deterministic' (their statements: YtmnkmmfjekcinaaTotals.lean).
  GIVEN WITH THE SEED: the statements are not yours to turn. If you find one false, say at which input.
  Laid BY PROGRAM, IN A SANDBOX (cutbox-rows.mjs): the forced cells as the released guide's own fill.sh prints them over the translation a6fbee27d7a38e33… (all of the seat's roots in one cut). By AI agents, Wed Nov 11 2026. No macro, syntax, notation, axiom, sorry.
-/
import Derived.Test.YtmnkmmfjekcinaaChecked
import GoSem.Claim
import GoSem.ClaimJoined
import GoSem.ClaimMapViews
import Derived.JoinedTies
import Derived.KernelRfl
namespace Go.Proofs.Ytmnkmmfjekcinaa
/- THE CELL 'sum', in the pinned program and in every row, IS THE sha256 OF THE DUMP (.gsa) THAT YtmnkmmfjekcinaaProg.lean LOADS. Nothing in Lean hashes anything: it is a label: what it is worth is what the hold of that sum in a sandbox is worth. -/
noncomputable def Try.pinned : Pinned := { name := "ytmnkmmfjekcinaa", sum := "a6fbee27d7a38e3304b1e9968ebf5a4b68803f99e68a0e61c966d5bd0d990ae5", checked := Try.checked }
namespace Rows
def none {H : Type} : Left H := { results := [], args := [] }

/-- 'cachetlaw17.ReplicaTicks': WHATEVER THE INPUT: true; the input reads as it did. -/
def replicaTicksSpec : ChangeSpec := { name := "replicaTicks", fn := fun _ => fun
  | [d1, d2, d3] => { results := [.lit (.bool true)], args := [d1, d2, d3] }
  | _ => none }
def replicaTicksRow : OpenClaim := { program := "ytmnkmmfjekcinaa", sum := "a6fbee27d7a38e3304b1e9968ebf5a4b68803f99e68a0e61c966d5bd0d990ae5", func := "cachet/cachetlaw17.ReplicaTicks", spec := "replicaTicks", unfollowed := true, recurses := true, apart := false }
def ReplicaTicksSaid : Prop := replicaTicksRow.holds Try.pinned (OpenSpec.ofChange replicaTicksSpec)

/-- ITS FALSE NEIGHBOUR: 'it returns false'. Refute it at one input. -/
def replicaTicksWrong : ChangeSpec := { name := "replicaTicks", fn := fun _ => fun
  | [d1, d2, d3] => { results := [.lit (.bool false)], args := [d1, d2, d3] }
  | _ => none }
def ReplicaTicksWrongFalsely : Prop := replicaTicksRow.holds Try.pinned (OpenSpec.ofChange replicaTicksWrong)

/-- 'cachetlaw17.ReplicaRestarts': WHATEVER THE INPUT: true; the input reads as it did. -/
def replicaRestartsSpec : ChangeSpec := { name := "replicaRestarts", fn := fun _ => fun
  | [d1, d2, d3] => { results := [.lit (.bool true)], args := [d1, d2, d3] }
  | _ => none }
def replicaRestartsRow : OpenClaim := { program := "ytmnkmmfjekcinaa", sum := "a6fbee27d7a38e3304b1e9968ebf5a4b68803f99e68a0e61c966d5bd0d990ae5", func := "cachet/cachetlaw17.ReplicaRestarts", spec := "replicaRestarts", unfollowed := true, recurses := true, apart := false }
def ReplicaRestartsSaid : Prop := replicaRestartsRow.holds Try.pinned (OpenSpec.ofChange replicaRestartsSpec)

/-- ITS FALSE NEIGHBOUR: 'it returns false'. Refute it at one input. -/
def replicaRestartsWrong : ChangeSpec := { name := "replicaRestarts", fn := fun _ => fun
  | [d1, d2, d3] => { results := [.lit (.bool false)], args := [d1, d2, d3] }
  | _ => none }
def ReplicaRestartsWrongFalsely : Prop := replicaRestartsRow.holds Try.pinned (OpenSpec.ofChange replicaRestartsWrong)

/-- 'cachetlaw17.ReplicaPipeline': WHATEVER THE INPUT: true; the input reads as it did. -/
def replicaPipelineSpec : ChangeSpec := { name := "replicaPipeline", fn := fun _ => fun
  | [d1, d2] => { results := [.lit (.bool true)], args := [d1, d2] }
  | _ => none }
def replicaPipelineRow : OpenClaim := { program := "ytmnkmmfjekcinaa", sum := "a6fbee27d7a38e3304b1e9968ebf5a4b68803f99e68a0e61c966d5bd0d990ae5", func := "cachet/cachetlaw17.ReplicaPipeline", spec := "replicaPipeline", unfollowed := true, recurses := true, apart := false }
def ReplicaPipelineSaid : Prop := replicaPipelineRow.holds Try.pinned (OpenSpec.ofChange replicaPipelineSpec)

/-- ITS FALSE NEIGHBOUR: 'it returns false'. Refute it at one input. -/
def replicaPipelineWrong : ChangeSpec := { name := "replicaPipeline", fn := fun _ => fun
  | [d1, d2] => { results := [.lit (.bool false)], args := [d1, d2] }
  | _ => none }
def ReplicaPipelineWrongFalsely : Prop := replicaPipelineRow.holds Try.pinned (OpenSpec.ofChange replicaPipelineWrong)

/-- 'cachetlaw17.ReplicaAlone': WHATEVER THE INPUT: true; the input reads as it did. -/
def replicaAloneSpec : ChangeSpec := { name := "replicaAlone", fn := fun _ => fun
  | [d1, d2] => { results := [.lit (.bool true)], args := [d1, d2] }
  | _ => none }
def replicaAloneRow : OpenClaim := { program := "ytmnkmmfjekcinaa", sum := "a6fbee27d7a38e3304b1e9968ebf5a4b68803f99e68a0e61c966d5bd0d990ae5", func := "cachet/cachetlaw17.ReplicaAlone", spec := "replicaAlone", unfollowed := true, recurses := true, apart := false }
def ReplicaAloneSaid : Prop := replicaAloneRow.holds Try.pinned (OpenSpec.ofChange replicaAloneSpec)

/-- ITS FALSE NEIGHBOUR: 'it returns false'. Refute it at one input. -/
def replicaAloneWrong : ChangeSpec := { name := "replicaAlone", fn := fun _ => fun
  | [d1, d2] => { results := [.lit (.bool false)], args := [d1, d2] }
  | _ => none }
def ReplicaAloneWrongFalsely : Prop := replicaAloneRow.holds Try.pinned (OpenSpec.ofChange replicaAloneWrong)

/-- 'cachetlaw17.ReplicaBeats': WHATEVER THE INPUT: true; the input reads as it did. -/
def replicaBeatsSpec : ChangeSpec := { name := "replicaBeats", fn := fun _ => fun
  | [d1, d2] => { results := [.lit (.bool true)], args := [d1, d2] }
  | _ => none }
def replicaBeatsRow : OpenClaim := { program := "ytmnkmmfjekcinaa", sum := "a6fbee27d7a38e3304b1e9968ebf5a4b68803f99e68a0e61c966d5bd0d990ae5", func := "cachet/cachetlaw17.ReplicaBeats", spec := "replicaBeats", unfollowed := true, recurses := true, apart := false }
def ReplicaBeatsSaid : Prop := replicaBeatsRow.holds Try.pinned (OpenSpec.ofChange replicaBeatsSpec)

/-- ITS FALSE NEIGHBOUR: 'it returns false'. Refute it at one input. -/
def replicaBeatsWrong : ChangeSpec := { name := "replicaBeats", fn := fun _ => fun
  | [d1, d2] => { results := [.lit (.bool false)], args := [d1, d2] }
  | _ => none }
def ReplicaBeatsWrongFalsely : Prop := replicaBeatsRow.holds Try.pinned (OpenSpec.ofChange replicaBeatsWrong)

/-- 'cachetlaw17.ReplicaPrepares': WHATEVER THE INPUT: true; the input reads as it did. -/
def replicaPreparesSpec : ChangeSpec := { name := "replicaPrepares", fn := fun _ => fun
  | [d1, d2, d3] => { results := [.lit (.bool true)], args := [d1, d2, d3] }
  | _ => none }
def replicaPreparesRow : OpenClaim := { program := "ytmnkmmfjekcinaa", sum := "a6fbee27d7a38e3304b1e9968ebf5a4b68803f99e68a0e61c966d5bd0d990ae5", func := "cachet/cachetlaw17.ReplicaPrepares", spec := "replicaPrepares", inPlace := ["slices.overlaps[int]", "slices.overlaps[cachet/api.Do]"], unfollowed := true, recurses := true, apart := false }
def ReplicaPreparesSaid : Prop := replicaPreparesRow.holds Try.pinned (OpenSpec.ofChange replicaPreparesSpec)

/-- ITS FALSE NEIGHBOUR: 'it returns false'. Refute it at one input. -/
def replicaPreparesWrong : ChangeSpec := { name := "replicaPrepares", fn := fun _ => fun
  | [d1, d2, d3] => { results := [.lit (.bool false)], args := [d1, d2, d3] }
  | _ => none }
def ReplicaPreparesWrongFalsely : Prop := replicaPreparesRow.holds Try.pinned (OpenSpec.ofChange replicaPreparesWrong)

/-- 'cachetlaw17.ReplicaEnters': WHATEVER THE INPUT: true; the input reads as it did. -/
def replicaEntersSpec : ChangeSpec := { name := "replicaEnters", fn := fun _ => fun
  | [d1, d2] => { results := [.lit (.bool true)], args := [d1, d2] }
  | _ => none }
def replicaEntersRow : OpenClaim := { program := "ytmnkmmfjekcinaa", sum := "a6fbee27d7a38e3304b1e9968ebf5a4b68803f99e68a0e61c966d5bd0d990ae5", func := "cachet/cachetlaw17.ReplicaEnters", spec := "replicaEnters", inPlace := ["slices.overlaps[int]", "slices.overlaps[cachet/api.Do]"], unfollowed := true, recurses := true, apart := false }
def ReplicaEntersSaid : Prop := replicaEntersRow.holds Try.pinned (OpenSpec.ofChange replicaEntersSpec)

/-- ITS FALSE NEIGHBOUR: 'it returns false'. Refute it at one input. -/
def replicaEntersWrong : ChangeSpec := { name := "replicaEnters", fn := fun _ => fun
  | [d1, d2] => { results := [.lit (.bool false)], args := [d1, d2] }
  | _ => none }
def ReplicaEntersWrongFalsely : Prop := replicaEntersRow.holds Try.pinned (OpenSpec.ofChange replicaEntersWrong)

/-- 'cachetlaw17.ReplicaChooses': WHATEVER THE INPUT: true; the input reads as it did. -/
def replicaChoosesSpec : ChangeSpec := { name := "replicaChooses", fn := fun _ => fun
  | [d1, d2, d3, d4] => { results := [.lit (.bool true)], args := [d1, d2, d3, d4] }
  | _ => none }
def replicaChoosesRow : OpenClaim := { program := "ytmnkmmfjekcinaa", sum := "a6fbee27d7a38e3304b1e9968ebf5a4b68803f99e68a0e61c966d5bd0d990ae5", func := "cachet/cachetlaw17.ReplicaChooses", spec := "replicaChooses", inPlace := ["slices.overlaps[int]", "slices.overlaps[cachet/api.Do]"], unfollowed := true, recurses := true, apart := false }
def ReplicaChoosesSaid : Prop := replicaChoosesRow.holds Try.pinned (OpenSpec.ofChange replicaChoosesSpec)

/-- ITS FALSE NEIGHBOUR: 'it returns false'. Refute it at one input. -/
def replicaChoosesWrong : ChangeSpec := { name := "replicaChooses", fn := fun _ => fun
  | [d1, d2, d3, d4] => { results := [.lit (.bool false)], args := [d1, d2, d3, d4] }
  | _ => none }
def ReplicaChoosesWrongFalsely : Prop := replicaChoosesRow.holds Try.pinned (OpenSpec.ofChange replicaChoosesWrong)

/-- 'cachetlaw17.ReplicaSets': WHATEVER THE INPUT: true; the input reads as it did. -/
def replicaSetsSpec : ChangeSpec := { name := "replicaSets", fn := fun _ => fun
  | [d1, d2, d3] => { results := [.lit (.bool true)], args := [d1, d2, d3] }
  | _ => none }
def replicaSetsRow : OpenClaim := { program := "ytmnkmmfjekcinaa", sum := "a6fbee27d7a38e3304b1e9968ebf5a4b68803f99e68a0e61c966d5bd0d990ae5", func := "cachet/cachetlaw17.ReplicaSets", spec := "replicaSets", inPlace := ["slices.overlaps[int]", "slices.overlaps[cachet/api.Do]"], unfollowed := true, recurses := true, apart := false }
def ReplicaSetsSaid : Prop := replicaSetsRow.holds Try.pinned (OpenSpec.ofChange replicaSetsSpec)

/-- ITS FALSE NEIGHBOUR: 'it returns false'. Refute it at one input. -/
def replicaSetsWrong : ChangeSpec := { name := "replicaSets", fn := fun _ => fun
  | [d1, d2, d3] => { results := [.lit (.bool false)], args := [d1, d2, d3] }
  | _ => none }
def ReplicaSetsWrongFalsely : Prop := replicaSetsRow.holds Try.pinned (OpenSpec.ofChange replicaSetsWrong)

/-- 'cachetlaw17.ReplicaLags': WHATEVER THE INPUT: true; the input reads as it did. -/
def replicaLagsSpec : ChangeSpec := { name := "replicaLags", fn := fun _ => fun
  | [d1, d2, d3] => { results := [.lit (.bool true)], args := [d1, d2, d3] }
  | _ => none }
def replicaLagsRow : OpenClaim := { program := "ytmnkmmfjekcinaa", sum := "a6fbee27d7a38e3304b1e9968ebf5a4b68803f99e68a0e61c966d5bd0d990ae5", func := "cachet/cachetlaw17.ReplicaLags", spec := "replicaLags", inPlace := ["slices.overlaps[int]", "slices.overlaps[cachet/api.Do]"], unfollowed := true, recurses := true, apart := false }
def ReplicaLagsSaid : Prop := replicaLagsRow.holds Try.pinned (OpenSpec.ofChange replicaLagsSpec)

/-- ITS FALSE NEIGHBOUR: 'it returns false'. Refute it at one input. -/
def replicaLagsWrong : ChangeSpec := { name := "replicaLags", fn := fun _ => fun
  | [d1, d2, d3] => { results := [.lit (.bool false)], args := [d1, d2, d3] }
  | _ => none }
def ReplicaLagsWrongFalsely : Prop := replicaLagsRow.holds Try.pinned (OpenSpec.ofChange replicaLagsWrong)

/-- 'cachetlaw17.ReplicaGives': WHATEVER THE INPUT: true; the input reads as it did. -/
def replicaGivesSpec : ChangeSpec := { name := "replicaGives", fn := fun _ => fun
  | [d1, d2, d3, d4] => { results := [.lit (.bool true)], args := [d1, d2, d3, d4] }
  | _ => none }
def replicaGivesRow : OpenClaim := { program := "ytmnkmmfjekcinaa", sum := "a6fbee27d7a38e3304b1e9968ebf5a4b68803f99e68a0e61c966d5bd0d990ae5", func := "cachet/cachetlaw17.ReplicaGives", spec := "replicaGives", inPlace := ["slices.overlaps[int]", "slices.overlaps[cachet/api.Do]"], unfollowed := true, recurses := true, apart := false }
def ReplicaGivesSaid : Prop := replicaGivesRow.holds Try.pinned (OpenSpec.ofChange replicaGivesSpec)

/-- ITS FALSE NEIGHBOUR: 'it returns false'. Refute it at one input. -/
def replicaGivesWrong : ChangeSpec := { name := "replicaGives", fn := fun _ => fun
  | [d1, d2, d3, d4] => { results := [.lit (.bool false)], args := [d1, d2, d3, d4] }
  | _ => none }
def ReplicaGivesWrongFalsely : Prop := replicaGivesRow.holds Try.pinned (OpenSpec.ofChange replicaGivesWrong)

/- THE SECOND FORM. 'bulk': how many values and letters a reading holds, each counted each time it is reached (what is shared counts as often as it is met; a slice's spare places count too). A statement '..UptoSaid' is the law's where the arguments, and the package variables that the reading takes, are together of bulk at most 1048576: NARROWER than '..Said'. Prove '..Said' where nothing that the law and all that it calls make is longer than what came in: it says more and counts as full. Else prove '..UptoSaid'. A law counts once. -/
mutual
def uptoBulk {H : Type} : DataW H → Nat
  | .lit (.string bytes) => bytes.length + 1
  | .lit _ => 1
  | .nil => 1
  | .ptr d => uptoBulk d + 1
  | .slice elems spare => uptoBulkAll elems + uptoBulkAll spare + 1
  | .agg parts => uptoBulkAll parts + 1
  | .iface _ d => uptoBulk d + 1
  | .map entries => uptoBulkEntries entries + 1
  | .held _ => 1
def uptoBulkAll {H : Type} : List (DataW H) → Nat
  | [] => 0
  | d :: r => uptoBulk d + uptoBulkAll r
def uptoBulkEntries {H : Type} : List (Lit × DataW H) → Nat
  | [] => 0
  | x :: r => uptoBulkEntry x + uptoBulkEntries r
def uptoBulkEntry {H : Type} : Lit × DataW H → Nat
  | (.string bytes, d) => bytes.length + uptoBulk d + 1
  | (_, d) => uptoBulk d + 1
 end
def uptoSmall : (H : Type) → List (DataW H) → Bool := fun _ ds => decide (uptoBulkAll ds ≤ 1048576)
def OpenSpec.upto (s : _root_.Go.ChangeSpec) : _root_.Go.OpenSpec := { _root_.Go.OpenSpec.ofChange s with cond := some uptoSmall }

/-- 'cachetlaw17.ReplicaTicks', WHERE WHAT IT READS IS OF BULK AT MOST 1048576: true; the input reads as it did. -/
def replicaTicksUptoRow : OpenClaim := { program := "ytmnkmmfjekcinaa", sum := "a6fbee27d7a38e3304b1e9968ebf5a4b68803f99e68a0e61c966d5bd0d990ae5", func := "cachet/cachetlaw17.ReplicaTicks", spec := "replicaTicks", unfollowed := true, recurses := true, apart := false, narrowed := true }
def ReplicaTicksUptoSaid : Prop := replicaTicksUptoRow.holds Try.pinned (OpenSpec.upto replicaTicksSpec)

/-- 'cachetlaw17.ReplicaRestarts', WHERE WHAT IT READS IS OF BULK AT MOST 1048576: true; the input reads as it did. -/
def replicaRestartsUptoRow : OpenClaim := { program := "ytmnkmmfjekcinaa", sum := "a6fbee27d7a38e3304b1e9968ebf5a4b68803f99e68a0e61c966d5bd0d990ae5", func := "cachet/cachetlaw17.ReplicaRestarts", spec := "replicaRestarts", unfollowed := true, recurses := true, apart := false, narrowed := true }
def ReplicaRestartsUptoSaid : Prop := replicaRestartsUptoRow.holds Try.pinned (OpenSpec.upto replicaRestartsSpec)

/-- 'cachetlaw17.ReplicaPipeline', WHERE WHAT IT READS IS OF BULK AT MOST 1048576: true; the input reads as it did. -/
def replicaPipelineUptoRow : OpenClaim := { program := "ytmnkmmfjekcinaa", sum := "a6fbee27d7a38e3304b1e9968ebf5a4b68803f99e68a0e61c966d5bd0d990ae5", func := "cachet/cachetlaw17.ReplicaPipeline", spec := "replicaPipeline", unfollowed := true, recurses := true, apart := false, narrowed := true }
def ReplicaPipelineUptoSaid : Prop := replicaPipelineUptoRow.holds Try.pinned (OpenSpec.upto replicaPipelineSpec)

/-- 'cachetlaw17.ReplicaAlone', WHERE WHAT IT READS IS OF BULK AT MOST 1048576: true; the input reads as it did. -/
def replicaAloneUptoRow : OpenClaim := { program := "ytmnkmmfjekcinaa", sum := "a6fbee27d7a38e3304b1e9968ebf5a4b68803f99e68a0e61c966d5bd0d990ae5", func := "cachet/cachetlaw17.ReplicaAlone", spec := "replicaAlone", unfollowed := true, recurses := true, apart := false, narrowed := true }
def ReplicaAloneUptoSaid : Prop := replicaAloneUptoRow.holds Try.pinned (OpenSpec.upto replicaAloneSpec)

/-- 'cachetlaw17.ReplicaBeats', WHERE WHAT IT READS IS OF BULK AT MOST 1048576: true; the input reads as it did. -/
def replicaBeatsUptoRow : OpenClaim := { program := "ytmnkmmfjekcinaa", sum := "a6fbee27d7a38e3304b1e9968ebf5a4b68803f99e68a0e61c966d5bd0d990ae5", func := "cachet/cachetlaw17.ReplicaBeats", spec := "replicaBeats", unfollowed := true, recurses := true, apart := false, narrowed := true }
def ReplicaBeatsUptoSaid : Prop := replicaBeatsUptoRow.holds Try.pinned (OpenSpec.upto replicaBeatsSpec)

/-- 'cachetlaw17.ReplicaPrepares', WHERE WHAT IT READS IS OF BULK AT MOST 1048576: true; the input reads as it did. -/
def replicaPreparesUptoRow : OpenClaim := { program := "ytmnkmmfjekcinaa", sum := "a6fbee27d7a38e3304b1e9968ebf5a4b68803f99e68a0e61c966d5bd0d990ae5", func := "cachet/cachetlaw17.ReplicaPrepares", spec := "replicaPrepares", inPlace := ["slices.overlaps[int]", "slices.overlaps[cachet/api.Do]"], unfollowed := true, recurses := true, apart := false, narrowed := true }
def ReplicaPreparesUptoSaid : Prop := replicaPreparesUptoRow.holds Try.pinned (OpenSpec.upto replicaPreparesSpec)

/-- 'cachetlaw17.ReplicaEnters', WHERE WHAT IT READS IS OF BULK AT MOST 1048576: true; the input reads as it did. -/
def replicaEntersUptoRow : OpenClaim := { program := "ytmnkmmfjekcinaa", sum := "a6fbee27d7a38e3304b1e9968ebf5a4b68803f99e68a0e61c966d5bd0d990ae5", func := "cachet/cachetlaw17.ReplicaEnters", spec := "replicaEnters", inPlace := ["slices.overlaps[int]", "slices.overlaps[cachet/api.Do]"], unfollowed := true, recurses := true, apart := false, narrowed := true }
def ReplicaEntersUptoSaid : Prop := replicaEntersUptoRow.holds Try.pinned (OpenSpec.upto replicaEntersSpec)

/-- 'cachetlaw17.ReplicaChooses', WHERE WHAT IT READS IS OF BULK AT MOST 1048576: true; the input reads as it did. -/
def replicaChoosesUptoRow : OpenClaim := { program := "ytmnkmmfjekcinaa", sum := "a6fbee27d7a38e3304b1e9968ebf5a4b68803f99e68a0e61c966d5bd0d990ae5", func := "cachet/cachetlaw17.ReplicaChooses", spec := "replicaChooses", inPlace := ["slices.overlaps[int]", "slices.overlaps[cachet/api.Do]"], unfollowed := true, recurses := true, apart := false, narrowed := true }
def ReplicaChoosesUptoSaid : Prop := replicaChoosesUptoRow.holds Try.pinned (OpenSpec.upto replicaChoosesSpec)

/-- 'cachetlaw17.ReplicaSets', WHERE WHAT IT READS IS OF BULK AT MOST 1048576: true; the input reads as it did. -/
def replicaSetsUptoRow : OpenClaim := { program := "ytmnkmmfjekcinaa", sum := "a6fbee27d7a38e3304b1e9968ebf5a4b68803f99e68a0e61c966d5bd0d990ae5", func := "cachet/cachetlaw17.ReplicaSets", spec := "replicaSets", inPlace := ["slices.overlaps[int]", "slices.overlaps[cachet/api.Do]"], unfollowed := true, recurses := true, apart := false, narrowed := true }
def ReplicaSetsUptoSaid : Prop := replicaSetsUptoRow.holds Try.pinned (OpenSpec.upto replicaSetsSpec)

/-- 'cachetlaw17.ReplicaLags', WHERE WHAT IT READS IS OF BULK AT MOST 1048576: true; the input reads as it did. -/
def replicaLagsUptoRow : OpenClaim := { program := "ytmnkmmfjekcinaa", sum := "a6fbee27d7a38e3304b1e9968ebf5a4b68803f99e68a0e61c966d5bd0d990ae5", func := "cachet/cachetlaw17.ReplicaLags", spec := "replicaLags", inPlace := ["slices.overlaps[int]", "slices.overlaps[cachet/api.Do]"], unfollowed := true, recurses := true, apart := false, narrowed := true }
def ReplicaLagsUptoSaid : Prop := replicaLagsUptoRow.holds Try.pinned (OpenSpec.upto replicaLagsSpec)

/-- 'cachetlaw17.ReplicaGives', WHERE WHAT IT READS IS OF BULK AT MOST 1048576: true; the input reads as it did. -/
def replicaGivesUptoRow : OpenClaim := { program := "ytmnkmmfjekcinaa", sum := "a6fbee27d7a38e3304b1e9968ebf5a4b68803f99e68a0e61c966d5bd0d990ae5", func := "cachet/cachetlaw17.ReplicaGives", spec := "replicaGives", inPlace := ["slices.overlaps[int]", "slices.overlaps[cachet/api.Do]"], unfollowed := true, recurses := true, apart := false, narrowed := true }
def ReplicaGivesUptoSaid : Prop := replicaGivesUptoRow.holds Try.pinned (OpenSpec.upto replicaGivesSpec)

end Rows
end Go.Proofs.Ytmnkmmfjekcinaa
