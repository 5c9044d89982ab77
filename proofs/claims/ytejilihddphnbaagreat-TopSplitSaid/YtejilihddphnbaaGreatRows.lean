/-
  No cell of these rows narrows 'for every input' (looked for: loops, veiled, ifaces, maps, wideKeys, modest, calm, conditions, laid).
  DERIVED. THE GIVEN ROWS OF THIS SEAT. 4 by the template 'for every input the law returns true; each argument reads behind the call as it read before'; 0 by the template 'total and deterministic' (their statements: YtejilihddphnbaaGreatTotals.lean).
  GIVEN WITH THE SEED: the statements are not yours to turn. If you find one false, say at which input.
  Laid BY PROGRAM, IN A SANDBOX (cutbox-rows.mjs): the forced cells as the released guide's own fill.sh prints them over the translation 072716ff8ee83342… (all of the seat's roots in one cut). By AI agents, Wed Nov 11 2026. No macro, syntax, notation, axiom, sorry.
-/
import Derived.Test.YtejilihddphnbaaGreatChecked
import GoSem.Claim
import GoSem.ClaimJoined
import GoSem.ClaimMapViews
import Derived.JoinedTies
import Derived.KernelRfl
namespace Go.Proofs.YtejilihddphnbaaGreat
/- THE CELL 'sum', in the pinned program and in every row, IS THE sha256 OF THE DUMP (.gsa) THAT YtejilihddphnbaaGreatProg.lean LOADS. Nothing in Lean hashes anything: it is a label: what it is worth is what the hold of that sum in a sandbox is worth. -/
noncomputable def Tryz.pinned : Pinned := { name := "ytejilihddphnbaagreat", sum := "072716ff8ee83342233e43cae621aec888f4944385aff4619349133efaa2ec6b", checked := Tryz.checked }
namespace Rows
def none {H : Type} : Left H := { results := [], args := [] }

/-- 'cachetlaw22.NodeOpens': WHATEVER THE INPUT: true; the input reads as it did. -/
def nodeOpensSpec : ChangeSpec := { name := "nodeOpens", fn := fun _ => fun
  | [d1, d2] => { results := [.lit (.bool true)], args := [d1, d2] }
  | _ => none }
def nodeOpensRow : OpenClaim := { program := "ytejilihddphnbaagreat", sum := "072716ff8ee83342233e43cae621aec888f4944385aff4619349133efaa2ec6b", func := "cachet/cachetlaw22.NodeOpens", spec := "nodeOpens", inPlace := ["internal/abi.NoEscape", "slices.overlaps[int]", "maps.clone", "slices.overlaps[cachet/api.Do]", "slices.overlaps[cachet/api.Row]", "internal/bytealg.abigen_runtime_cmpstring", "slices.overlaps[cachet/api.Point]"], unfollowed := true, recurses := true, plainKeys := false, apart := false }
def NodeOpensSaid : Prop := nodeOpensRow.holds Tryz.pinned (OpenSpec.ofChange nodeOpensSpec)

/-- ITS FALSE NEIGHBOUR: 'it returns false'. Refute it at one input. -/
def nodeOpensWrong : ChangeSpec := { name := "nodeOpens", fn := fun _ => fun
  | [d1, d2] => { results := [.lit (.bool false)], args := [d1, d2] }
  | _ => none }
def NodeOpensWrongFalsely : Prop := nodeOpensRow.holds Tryz.pinned (OpenSpec.ofChange nodeOpensWrong)

/-- 'cachetlaw23.WorldLearns': WHATEVER THE INPUT: true; the input reads as it did. -/
def worldLearnsSpec : ChangeSpec := { name := "worldLearns", fn := fun _ => fun
  | [d1, d2, d3] => { results := [.lit (.bool true)], args := [d1, d2, d3] }
  | _ => none }
def worldLearnsRow : OpenClaim := { program := "ytejilihddphnbaagreat", sum := "072716ff8ee83342233e43cae621aec888f4944385aff4619349133efaa2ec6b", func := "cachet/cachetlaw23.WorldLearns", spec := "worldLearns", inPlace := ["internal/abi.NoEscape", "slices.overlaps[int]", "maps.clone", "slices.overlaps[cachet/api.Do]", "slices.overlaps[cachet/api.Row]", "internal/bytealg.abigen_runtime_cmpstring", "slices.overlaps[cachet/api.Point]"], unfollowed := true, recurses := true, plainKeys := false, apart := false }
def WorldLearnsSaid : Prop := worldLearnsRow.holds Tryz.pinned (OpenSpec.ofChange worldLearnsSpec)

/-- ITS FALSE NEIGHBOUR: 'it returns false'. Refute it at one input. -/
def worldLearnsWrong : ChangeSpec := { name := "worldLearns", fn := fun _ => fun
  | [d1, d2, d3] => { results := [.lit (.bool false)], args := [d1, d2, d3] }
  | _ => none }
def WorldLearnsWrongFalsely : Prop := worldLearnsRow.holds Tryz.pinned (OpenSpec.ofChange worldLearnsWrong)

/-- 'cachetlaw23.WorldOps': WHATEVER THE INPUT: true; the input reads as it did. -/
def worldOpsSpec : ChangeSpec := { name := "worldOps", fn := fun _ => fun
  | [d] => { results := [.lit (.bool true)], args := [d] }
  | _ => none }
def worldOpsRow : OpenClaim := { program := "ytejilihddphnbaagreat", sum := "072716ff8ee83342233e43cae621aec888f4944385aff4619349133efaa2ec6b", func := "cachet/cachetlaw23.WorldOps", spec := "worldOps", inPlace := ["internal/abi.NoEscape", "slices.overlaps[int]", "maps.clone", "slices.overlaps[cachet/api.Do]", "slices.overlaps[cachet/api.Row]", "internal/bytealg.abigen_runtime_cmpstring", "slices.overlaps[cachet/api.Point]"], unfollowed := true, recurses := true, plainKeys := false, apart := false }
def WorldOpsSaid : Prop := worldOpsRow.holds Tryz.pinned (OpenSpec.ofChange worldOpsSpec)

/-- ITS FALSE NEIGHBOUR: 'it returns false'. Refute it at one input. -/
def worldOpsWrong : ChangeSpec := { name := "worldOps", fn := fun _ => fun
  | [d] => { results := [.lit (.bool false)], args := [d] }
  | _ => none }
def WorldOpsWrongFalsely : Prop := worldOpsRow.holds Tryz.pinned (OpenSpec.ofChange worldOpsWrong)

/-- 'cachettop.TopSplit': WHATEVER THE INPUT: true; the input reads as it did. -/
def topSplitSpec : ChangeSpec := { name := "topSplit", fn := fun _ => fun
  | [d1, d2] => { results := [.lit (.bool true)], args := [d1, d2] }
  | _ => none }
def topSplitRow : OpenClaim := { program := "ytejilihddphnbaagreat", sum := "072716ff8ee83342233e43cae621aec888f4944385aff4619349133efaa2ec6b", func := "cachet/cachettop.TopSplit", spec := "topSplit", inPlace := ["internal/abi.NoEscape", "slices.overlaps[int]", "maps.clone", "slices.overlaps[cachet/api.Do]", "slices.overlaps[cachet/api.Row]", "internal/bytealg.abigen_runtime_cmpstring", "slices.overlaps[cachet/api.Point]"], unfollowed := true, recurses := true, plainKeys := false, apart := false }
def TopSplitSaid : Prop := topSplitRow.holds Tryz.pinned (OpenSpec.ofChange topSplitSpec)

/-- ITS FALSE NEIGHBOUR: 'it returns false'. Refute it at one input. -/
def topSplitWrong : ChangeSpec := { name := "topSplit", fn := fun _ => fun
  | [d1, d2] => { results := [.lit (.bool false)], args := [d1, d2] }
  | _ => none }
def TopSplitWrongFalsely : Prop := topSplitRow.holds Tryz.pinned (OpenSpec.ofChange topSplitWrong)

/- THE SECOND FORM. 'bulk': how many values and letters a reading holds, each counted each time it is reached (what is shared counts as often as it is met; a slice's spare places count too). A statement '..UptoSaid' is the law's where the arguments, and the package variables that the reading takes, are together of bulk at most 1048576: NARROWER than '..Said'. Prove '..Said' where nothing that the law and all that it calls make is longer than what came in: it says more and counts as full. Else prove '..UptoSaid'. A law counts once. -/
mutual
def uptoBulk {H : Type} : DataW H → Nat
  | .lit (.string bytes) => bytes.length + 1
  | .lit _ => 1
  | .nil => 1
  | .ptr d => uptoBulk d + 1
  | .slice elems spare => uptoBulkAll elems + uptoBulkAll spare + 1
  | .agg parts => uptoBulkAll parts + 1
  | .iface _ d => uptoBulk d + 1
  | .map entries => uptoBulkEntries entries + 1
  | .held _ => 1
def uptoBulkAll {H : Type} : List (DataW H) → Nat
  | [] => 0
  | d :: r => uptoBulk d + uptoBulkAll r
def uptoBulkEntries {H : Type} : List (Lit × DataW H) → Nat
  | [] => 0
  | x :: r => uptoBulkEntry x + uptoBulkEntries r
def uptoBulkEntry {H : Type} : Lit × DataW H → Nat
  | (.string bytes, d) => bytes.length + uptoBulk d + 1
  | (_, d) => uptoBulk d + 1
 end
def uptoSmall : (H : Type) → List (DataW H) → Bool := fun _ ds => decide (uptoBulkAll ds ≤ 1048576)
def OpenSpec.upto (s : _root_.Go.ChangeSpec) : _root_.Go.OpenSpec := { _root_.Go.OpenSpec.ofChange s with cond := some uptoSmall }

/-- 'cachetlaw22.NodeOpens', WHERE WHAT IT READS IS OF BULK AT MOST 1048576: true; the input reads as it did. -/
def nodeOpensUptoRow : OpenClaim := { program := "ytejilihddphnbaagreat", sum := "072716ff8ee83342233e43cae621aec888f4944385aff4619349133efaa2ec6b", func := "cachet/cachetlaw22.NodeOpens", spec := "nodeOpens", inPlace := ["internal/abi.NoEscape", "slices.overlaps[int]", "maps.clone", "slices.overlaps[cachet/api.Do]", "slices.overlaps[cachet/api.Row]", "internal/bytealg.abigen_runtime_cmpstring", "slices.overlaps[cachet/api.Point]"], unfollowed := true, recurses := true, plainKeys := false, apart := false, narrowed := true }
def NodeOpensUptoSaid : Prop := nodeOpensUptoRow.holds Tryz.pinned (OpenSpec.upto nodeOpensSpec)

/-- 'cachetlaw23.WorldLearns', WHERE WHAT IT READS IS OF BULK AT MOST 1048576: true; the input reads as it did. -/
def worldLearnsUptoRow : OpenClaim := { program := "ytejilihddphnbaagreat", sum := "072716ff8ee83342233e43cae621aec888f4944385aff4619349133efaa2ec6b", func := "cachet/cachetlaw23.WorldLearns", spec := "worldLearns", inPlace := ["internal/abi.NoEscape", "slices.overlaps[int]", "maps.clone", "slices.overlaps[cachet/api.Do]", "slices.overlaps[cachet/api.Row]", "internal/bytealg.abigen_runtime_cmpstring", "slices.overlaps[cachet/api.Point]"], unfollowed := true, recurses := true, plainKeys := false, apart := false, narrowed := true }
def WorldLearnsUptoSaid : Prop := worldLearnsUptoRow.holds Tryz.pinned (OpenSpec.upto worldLearnsSpec)

/-- 'cachetlaw23.WorldOps', WHERE WHAT IT READS IS OF BULK AT MOST 1048576: true; the input reads as it did. -/
def worldOpsUptoRow : OpenClaim := { program := "ytejilihddphnbaagreat", sum := "072716ff8ee83342233e43cae621aec888f4944385aff4619349133efaa2ec6b", func := "cachet/cachetlaw23.WorldOps", spec := "worldOps", inPlace := ["internal/abi.NoEscape", "slices.overlaps[int]", "maps.clone", "slices.overlaps[cachet/api.Do]", "slices.overlaps[cachet/api.Row]", "internal/bytealg.abigen_runtime_cmpstring", "slices.overlaps[cachet/api.Point]"], unfollowed := true, recurses := true, plainKeys := false, apart := false, narrowed := true }
def WorldOpsUptoSaid : Prop := worldOpsUptoRow.holds Tryz.pinned (OpenSpec.upto worldOpsSpec)

/-- 'cachettop.TopSplit', WHERE WHAT IT READS IS OF BULK AT MOST 1048576: true; the input reads as it did. -/
def topSplitUptoRow : OpenClaim := { program := "ytejilihddphnbaagreat", sum := "072716ff8ee83342233e43cae621aec888f4944385aff4619349133efaa2ec6b", func := "cachet/cachettop.TopSplit", spec := "topSplit", inPlace := ["internal/abi.NoEscape", "slices.overlaps[int]", "maps.clone", "slices.overlaps[cachet/api.Do]", "slices.overlaps[cachet/api.Row]", "internal/bytealg.abigen_runtime_cmpstring", "slices.overlaps[cachet/api.Point]"], unfollowed := true, recurses := true, plainKeys := false, apart := false, narrowed := true }
def TopSplitUptoSaid : Prop := topSplitUptoRow.holds Tryz.pinned (OpenSpec.upto topSplitSpec)

end Rows
end Go.Proofs.YtejilihddphnbaaGreat
