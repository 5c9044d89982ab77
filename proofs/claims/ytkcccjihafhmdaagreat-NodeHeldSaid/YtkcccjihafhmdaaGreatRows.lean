/-
  No cell of these rows narrows 'for every input' (looked for: loops, veiled, ifaces, maps, wideKeys, modest, calm, conditions, laid).
  DERIVED. THE GIVEN ROWS OF THIS SEAT. 8 by the template 'for every input the law returns true; each argument reads behind the call as it read before'; 0 by the template 'total and deterministic' (their statements: YtkcccjihafhmdaaGreatTotals.lean).
  GIVEN WITH THE SEED: the statements are not yours to turn. If you find one false, say at which input.
  Laid BY PROGRAM, IN A SANDBOX (cutbox-rows.mjs): the forced cells as the released guide's own fill.sh prints them over the translation 7e26c2497252195e… (all of the seat's roots in one cut). By AI agents, Wed Nov 11 2026. No macro, syntax, notation, axiom, sorry.
-/
import Derived.Test.YtkcccjihafhmdaaGreatChecked
import GoSem.Claim
import GoSem.ClaimJoined
import GoSem.ClaimMapViews
import Derived.JoinedTies
import Derived.KernelRfl
namespace Go.Proofs.YtkcccjihafhmdaaGreat
/- THE CELL 'sum', in the pinned program and in every row, IS THE sha256 OF THE DUMP (.gsa) THAT YtkcccjihafhmdaaGreatProg.lean LOADS. Nothing in Lean hashes anything: it is a label: what it is worth is what the hold of that sum in a sandbox is worth. -/
noncomputable def Tryz.pinned : Pinned := { name := "ytkcccjihafhmdaagreat", sum := "7e26c2497252195edfffaba99166bfadc573a19a86f3a408c8811b4f22261cd8", checked := Tryz.checked }
namespace Rows
def none {H : Type} : Left H := { results := [], args := [] }

/-- 'cachettop.TopSplit': WHATEVER THE INPUT: true; the input reads as it did. -/
def topSplitSpec : ChangeSpec := { name := "topSplit", fn := fun _ => fun
  | [d1, d2] => { results := [.lit (.bool true)], args := [d1, d2] }
  | _ => none }
def topSplitRow : OpenClaim := { program := "ytkcccjihafhmdaagreat", sum := "7e26c2497252195edfffaba99166bfadc573a19a86f3a408c8811b4f22261cd8", func := "cachet/cachettop.TopSplit", spec := "topSplit", inPlace := ["internal/abi.NoEscape", "slices.overlaps[int]", "maps.clone", "slices.overlaps[cachet/api.Do]", "slices.overlaps[cachet/api.Row]", "internal/bytealg.abigen_runtime_cmpstring", "slices.overlaps[cachet/api.Point]"], unfollowed := true, recurses := true, plainKeys := false, apart := false }
def TopSplitSaid : Prop := topSplitRow.holds Tryz.pinned (OpenSpec.ofChange topSplitSpec)

/-- ITS FALSE NEIGHBOUR: 'it returns false'. Refute it at one input. -/
def topSplitWrong : ChangeSpec := { name := "topSplit", fn := fun _ => fun
  | [d1, d2] => { results := [.lit (.bool false)], args := [d1, d2] }
  | _ => none }
def TopSplitWrongFalsely : Prop := topSplitRow.holds Tryz.pinned (OpenSpec.ofChange topSplitWrong)

/-- 'cachetlaw22.NodeSeals': WHATEVER THE INPUT: true; the input reads as it did. -/
def nodeSealsSpec : ChangeSpec := { name := "nodeSeals", fn := fun _ => fun
  | [d] => { results := [.lit (.bool true)], args := [d] }
  | _ => none }
def nodeSealsRow : OpenClaim := { program := "ytkcccjihafhmdaagreat", sum := "7e26c2497252195edfffaba99166bfadc573a19a86f3a408c8811b4f22261cd8", func := "cachet/cachetlaw22.NodeSeals", spec := "nodeSeals", inPlace := ["internal/abi.NoEscape", "slices.overlaps[int]", "maps.clone", "slices.overlaps[cachet/api.Do]", "slices.overlaps[cachet/api.Row]", "internal/bytealg.abigen_runtime_cmpstring", "slices.overlaps[cachet/api.Point]"], unfollowed := true, recurses := true, plainKeys := false, apart := false }
def NodeSealsSaid : Prop := nodeSealsRow.holds Tryz.pinned (OpenSpec.ofChange nodeSealsSpec)

/-- ITS FALSE NEIGHBOUR: 'it returns false'. Refute it at one input. -/
def nodeSealsWrong : ChangeSpec := { name := "nodeSeals", fn := fun _ => fun
  | [d] => { results := [.lit (.bool false)], args := [d] }
  | _ => none }
def NodeSealsWrongFalsely : Prop := nodeSealsRow.holds Tryz.pinned (OpenSpec.ofChange nodeSealsWrong)

/-- 'cachetlaw22.NodeHeld': WHATEVER THE INPUT: true; the input reads as it did. -/
def nodeHeldSpec : ChangeSpec := { name := "nodeHeld", fn := fun _ => fun
  | [d] => { results := [.lit (.bool true)], args := [d] }
  | _ => none }
def nodeHeldRow : OpenClaim := { program := "ytkcccjihafhmdaagreat", sum := "7e26c2497252195edfffaba99166bfadc573a19a86f3a408c8811b4f22261cd8", func := "cachet/cachetlaw22.NodeHeld", spec := "nodeHeld", inPlace := ["internal/abi.NoEscape", "slices.overlaps[int]", "maps.clone", "slices.overlaps[cachet/api.Do]", "slices.overlaps[cachet/api.Row]", "internal/bytealg.abigen_runtime_cmpstring", "slices.overlaps[cachet/api.Point]"], unfollowed := true, recurses := true, plainKeys := false, apart := false }
def NodeHeldSaid : Prop := nodeHeldRow.holds Tryz.pinned (OpenSpec.ofChange nodeHeldSpec)

/-- ITS FALSE NEIGHBOUR: 'it returns false'. Refute it at one input. -/
def nodeHeldWrong : ChangeSpec := { name := "nodeHeld", fn := fun _ => fun
  | [d] => { results := [.lit (.bool false)], args := [d] }
  | _ => none }
def NodeHeldWrongFalsely : Prop := nodeHeldRow.holds Tryz.pinned (OpenSpec.ofChange nodeHeldWrong)

/-- 'cachetlaw22.NodeForms': WHATEVER THE INPUT: true; the input reads as it did. -/
def nodeFormsSpec : ChangeSpec := { name := "nodeForms", fn := fun _ => fun
  | [d1, d2, d3] => { results := [.lit (.bool true)], args := [d1, d2, d3] }
  | _ => none }
def nodeFormsRow : OpenClaim := { program := "ytkcccjihafhmdaagreat", sum := "7e26c2497252195edfffaba99166bfadc573a19a86f3a408c8811b4f22261cd8", func := "cachet/cachetlaw22.NodeForms", spec := "nodeForms", inPlace := ["internal/abi.NoEscape", "slices.overlaps[int]", "maps.clone", "slices.overlaps[cachet/api.Do]", "slices.overlaps[cachet/api.Row]", "internal/bytealg.abigen_runtime_cmpstring", "slices.overlaps[cachet/api.Point]"], unfollowed := true, recurses := true, plainKeys := false, apart := false }
def NodeFormsSaid : Prop := nodeFormsRow.holds Tryz.pinned (OpenSpec.ofChange nodeFormsSpec)

/-- ITS FALSE NEIGHBOUR: 'it returns false'. Refute it at one input. -/
def nodeFormsWrong : ChangeSpec := { name := "nodeForms", fn := fun _ => fun
  | [d1, d2, d3] => { results := [.lit (.bool false)], args := [d1, d2, d3] }
  | _ => none }
def NodeFormsWrongFalsely : Prop := nodeFormsRow.holds Tryz.pinned (OpenSpec.ofChange nodeFormsWrong)

/-- 'cachetlaw22.NodeOpens': WHATEVER THE INPUT: true; the input reads as it did. -/
def nodeOpensSpec : ChangeSpec := { name := "nodeOpens", fn := fun _ => fun
  | [d1, d2] => { results := [.lit (.bool true)], args := [d1, d2] }
  | _ => none }
def nodeOpensRow : OpenClaim := { program := "ytkcccjihafhmdaagreat", sum := "7e26c2497252195edfffaba99166bfadc573a19a86f3a408c8811b4f22261cd8", func := "cachet/cachetlaw22.NodeOpens", spec := "nodeOpens", inPlace := ["internal/abi.NoEscape", "slices.overlaps[int]", "maps.clone", "slices.overlaps[cachet/api.Do]", "slices.overlaps[cachet/api.Row]", "internal/bytealg.abigen_runtime_cmpstring", "slices.overlaps[cachet/api.Point]"], unfollowed := true, recurses := true, plainKeys := false, apart := false }
def NodeOpensSaid : Prop := nodeOpensRow.holds Tryz.pinned (OpenSpec.ofChange nodeOpensSpec)

/-- ITS FALSE NEIGHBOUR: 'it returns false'. Refute it at one input. -/
def nodeOpensWrong : ChangeSpec := { name := "nodeOpens", fn := fun _ => fun
  | [d1, d2] => { results := [.lit (.bool false)], args := [d1, d2] }
  | _ => none }
def NodeOpensWrongFalsely : Prop := nodeOpensRow.holds Tryz.pinned (OpenSpec.ofChange nodeOpensWrong)

/-- 'cachetlaw23.WorldDown': WHATEVER THE INPUT: true; the input reads as it did. -/
def worldDownSpec : ChangeSpec := { name := "worldDown", fn := fun _ => fun
  | [d1, d2] => { results := [.lit (.bool true)], args := [d1, d2] }
  | _ => none }
def worldDownRow : OpenClaim := { program := "ytkcccjihafhmdaagreat", sum := "7e26c2497252195edfffaba99166bfadc573a19a86f3a408c8811b4f22261cd8", func := "cachet/cachetlaw23.WorldDown", spec := "worldDown", inPlace := ["internal/abi.NoEscape", "slices.overlaps[int]", "maps.clone", "slices.overlaps[cachet/api.Do]", "slices.overlaps[cachet/api.Row]", "internal/bytealg.abigen_runtime_cmpstring", "slices.overlaps[cachet/api.Point]"], unfollowed := true, recurses := true, plainKeys := false, apart := false }
def WorldDownSaid : Prop := worldDownRow.holds Tryz.pinned (OpenSpec.ofChange worldDownSpec)

/-- ITS FALSE NEIGHBOUR: 'it returns false'. Refute it at one input. -/
def worldDownWrong : ChangeSpec := { name := "worldDown", fn := fun _ => fun
  | [d1, d2] => { results := [.lit (.bool false)], args := [d1, d2] }
  | _ => none }
def WorldDownWrongFalsely : Prop := worldDownRow.holds Tryz.pinned (OpenSpec.ofChange worldDownWrong)

/-- 'cachetlaw23.WorldLearns': WHATEVER THE INPUT: true; the input reads as it did. -/
def worldLearnsSpec : ChangeSpec := { name := "worldLearns", fn := fun _ => fun
  | [d1, d2, d3] => { results := [.lit (.bool true)], args := [d1, d2, d3] }
  | _ => none }
def worldLearnsRow : OpenClaim := { program := "ytkcccjihafhmdaagreat", sum := "7e26c2497252195edfffaba99166bfadc573a19a86f3a408c8811b4f22261cd8", func := "cachet/cachetlaw23.WorldLearns", spec := "worldLearns", inPlace := ["internal/abi.NoEscape", "slices.overlaps[int]", "maps.clone", "slices.overlaps[cachet/api.Do]", "slices.overlaps[cachet/api.Row]", "internal/bytealg.abigen_runtime_cmpstring", "slices.overlaps[cachet/api.Point]"], unfollowed := true, recurses := true, plainKeys := false, apart := false }
def WorldLearnsSaid : Prop := worldLearnsRow.holds Tryz.pinned (OpenSpec.ofChange worldLearnsSpec)

/-- ITS FALSE NEIGHBOUR: 'it returns false'. Refute it at one input. -/
def worldLearnsWrong : ChangeSpec := { name := "worldLearns", fn := fun _ => fun
  | [d1, d2, d3] => { results := [.lit (.bool false)], args := [d1, d2, d3] }
  | _ => none }
def WorldLearnsWrongFalsely : Prop := worldLearnsRow.holds Tryz.pinned (OpenSpec.ofChange worldLearnsWrong)

/-- 'cachetlaw23.WorldOps': WHATEVER THE INPUT: true; the input reads as it did. -/
def worldOpsSpec : ChangeSpec := { name := "worldOps", fn := fun _ => fun
  | [d] => { results := [.lit (.bool true)], args := [d] }
  | _ => none }
def worldOpsRow : OpenClaim := { program := "ytkcccjihafhmdaagreat", sum := "7e26c2497252195edfffaba99166bfadc573a19a86f3a408c8811b4f22261cd8", func := "cachet/cachetlaw23.WorldOps", spec := "worldOps", inPlace := ["internal/abi.NoEscape", "slices.overlaps[int]", "maps.clone", "slices.overlaps[cachet/api.Do]", "slices.overlaps[cachet/api.Row]", "internal/bytealg.abigen_runtime_cmpstring", "slices.overlaps[cachet/api.Point]"], unfollowed := true, recurses := true, plainKeys := false, apart := false }
def WorldOpsSaid : Prop := worldOpsRow.holds Tryz.pinned (OpenSpec.ofChange worldOpsSpec)

/-- ITS FALSE NEIGHBOUR: 'it returns false'. Refute it at one input. -/
def worldOpsWrong : ChangeSpec := { name := "worldOps", fn := fun _ => fun
  | [d] => { results := [.lit (.bool false)], args := [d] }
  | _ => none }
def WorldOpsWrongFalsely : Prop := worldOpsRow.holds Tryz.pinned (OpenSpec.ofChange worldOpsWrong)

/- THE SECOND FORM. 'bulk': how many values and letters a reading holds, each counted each time it is reached (what is shared counts as often as it is met; a slice's spare places count too). A statement '..UptoSaid' is the law's where the arguments, and the package variables that the reading takes, are together of bulk at most 1048576: NARROWER than '..Said'. Prove '..Said' where nothing that the law and all that it calls make is longer than what came in: it says more and counts as full. Else prove '..UptoSaid'. A law counts once. -/
mutual
def uptoBulk {H : Type} : DataW H → Nat
  | .lit (.string bytes) => bytes.length + 1
  | .lit _ => 1
  | .nil => 1
  | .ptr d => uptoBulk d + 1
  | .slice elems spare => uptoBulkAll elems + uptoBulkAll spare + 1
  | .agg parts => uptoBulkAll parts + 1
  | .iface _ d => uptoBulk d + 1
  | .map entries => uptoBulkEntries entries + 1
  | .held _ => 1
def uptoBulkAll {H : Type} : List (DataW H) → Nat
  | [] => 0
  | d :: r => uptoBulk d + uptoBulkAll r
def uptoBulkEntries {H : Type} : List (Lit × DataW H) → Nat
  | [] => 0
  | x :: r => uptoBulkEntry x + uptoBulkEntries r
def uptoBulkEntry {H : Type} : Lit × DataW H → Nat
  | (.string bytes, d) => bytes.length + uptoBulk d + 1
  | (_, d) => uptoBulk d + 1
 end
def uptoSmall : (H : Type) → List (DataW H) → Bool := fun _ ds => decide (uptoBulkAll ds ≤ 1048576)
def OpenSpec.upto (s : _root_.Go.ChangeSpec) : _root_.Go.OpenSpec := { _root_.Go.OpenSpec.ofChange s with cond := some uptoSmall }

/-- 'cachettop.TopSplit', WHERE WHAT IT READS IS OF BULK AT MOST 1048576: true; the input reads as it did. -/
def topSplitUptoRow : OpenClaim := { program := "ytkcccjihafhmdaagreat", sum := "7e26c2497252195edfffaba99166bfadc573a19a86f3a408c8811b4f22261cd8", func := "cachet/cachettop.TopSplit", spec := "topSplit", inPlace := ["internal/abi.NoEscape", "slices.overlaps[int]", "maps.clone", "slices.overlaps[cachet/api.Do]", "slices.overlaps[cachet/api.Row]", "internal/bytealg.abigen_runtime_cmpstring", "slices.overlaps[cachet/api.Point]"], unfollowed := true, recurses := true, plainKeys := false, apart := false, narrowed := true }
def TopSplitUptoSaid : Prop := topSplitUptoRow.holds Tryz.pinned (OpenSpec.upto topSplitSpec)

/-- 'cachetlaw22.NodeSeals', WHERE WHAT IT READS IS OF BULK AT MOST 1048576: true; the input reads as it did. -/
def nodeSealsUptoRow : OpenClaim := { program := "ytkcccjihafhmdaagreat", sum := "7e26c2497252195edfffaba99166bfadc573a19a86f3a408c8811b4f22261cd8", func := "cachet/cachetlaw22.NodeSeals", spec := "nodeSeals", inPlace := ["internal/abi.NoEscape", "slices.overlaps[int]", "maps.clone", "slices.overlaps[cachet/api.Do]", "slices.overlaps[cachet/api.Row]", "internal/bytealg.abigen_runtime_cmpstring", "slices.overlaps[cachet/api.Point]"], unfollowed := true, recurses := true, plainKeys := false, apart := false, narrowed := true }
def NodeSealsUptoSaid : Prop := nodeSealsUptoRow.holds Tryz.pinned (OpenSpec.upto nodeSealsSpec)

/-- 'cachetlaw22.NodeHeld', WHERE WHAT IT READS IS OF BULK AT MOST 1048576: true; the input reads as it did. -/
def nodeHeldUptoRow : OpenClaim := { program := "ytkcccjihafhmdaagreat", sum := "7e26c2497252195edfffaba99166bfadc573a19a86f3a408c8811b4f22261cd8", func := "cachet/cachetlaw22.NodeHeld", spec := "nodeHeld", inPlace := ["internal/abi.NoEscape", "slices.overlaps[int]", "maps.clone", "slices.overlaps[cachet/api.Do]", "slices.overlaps[cachet/api.Row]", "internal/bytealg.abigen_runtime_cmpstring", "slices.overlaps[cachet/api.Point]"], unfollowed := true, recurses := true, plainKeys := false, apart := false, narrowed := true }
def NodeHeldUptoSaid : Prop := nodeHeldUptoRow.holds Tryz.pinned (OpenSpec.upto nodeHeldSpec)

/-- 'cachetlaw22.NodeForms', WHERE WHAT IT READS IS OF BULK AT MOST 1048576: true; the input reads as it did. -/
def nodeFormsUptoRow : OpenClaim := { program := "ytkcccjihafhmdaagreat", sum := "7e26c2497252195edfffaba99166bfadc573a19a86f3a408c8811b4f22261cd8", func := "cachet/cachetlaw22.NodeForms", spec := "nodeForms", inPlace := ["internal/abi.NoEscape", "slices.overlaps[int]", "maps.clone", "slices.overlaps[cachet/api.Do]", "slices.overlaps[cachet/api.Row]", "internal/bytealg.abigen_runtime_cmpstring", "slices.overlaps[cachet/api.Point]"], unfollowed := true, recurses := true, plainKeys := false, apart := false, narrowed := true }
def NodeFormsUptoSaid : Prop := nodeFormsUptoRow.holds Tryz.pinned (OpenSpec.upto nodeFormsSpec)

/-- 'cachetlaw22.NodeOpens', WHERE WHAT IT READS IS OF BULK AT MOST 1048576: true; the input reads as it did. -/
def nodeOpensUptoRow : OpenClaim := { program := "ytkcccjihafhmdaagreat", sum := "7e26c2497252195edfffaba99166bfadc573a19a86f3a408c8811b4f22261cd8", func := "cachet/cachetlaw22.NodeOpens", spec := "nodeOpens", inPlace := ["internal/abi.NoEscape", "slices.overlaps[int]", "maps.clone", "slices.overlaps[cachet/api.Do]", "slices.overlaps[cachet/api.Row]", "internal/bytealg.abigen_runtime_cmpstring", "slices.overlaps[cachet/api.Point]"], unfollowed := true, recurses := true, plainKeys := false, apart := false, narrowed := true }
def NodeOpensUptoSaid : Prop := nodeOpensUptoRow.holds Tryz.pinned (OpenSpec.upto nodeOpensSpec)

/-- 'cachetlaw23.WorldDown', WHERE WHAT IT READS IS OF BULK AT MOST 1048576: true; the input reads as it did. -/
def worldDownUptoRow : OpenClaim := { program := "ytkcccjihafhmdaagreat", sum := "7e26c2497252195edfffaba99166bfadc573a19a86f3a408c8811b4f22261cd8", func := "cachet/cachetlaw23.WorldDown", spec := "worldDown", inPlace := ["internal/abi.NoEscape", "slices.overlaps[int]", "maps.clone", "slices.overlaps[cachet/api.Do]", "slices.overlaps[cachet/api.Row]", "internal/bytealg.abigen_runtime_cmpstring", "slices.overlaps[cachet/api.Point]"], unfollowed := true, recurses := true, plainKeys := false, apart := false, narrowed := true }
def WorldDownUptoSaid : Prop := worldDownUptoRow.holds Tryz.pinned (OpenSpec.upto worldDownSpec)

/-- 'cachetlaw23.WorldLearns', WHERE WHAT IT READS IS OF BULK AT MOST 1048576: true; the input reads as it did. -/
def worldLearnsUptoRow : OpenClaim := { program := "ytkcccjihafhmdaagreat", sum := "7e26c2497252195edfffaba99166bfadc573a19a86f3a408c8811b4f22261cd8", func := "cachet/cachetlaw23.WorldLearns", spec := "worldLearns", inPlace := ["internal/abi.NoEscape", "slices.overlaps[int]", "maps.clone", "slices.overlaps[cachet/api.Do]", "slices.overlaps[cachet/api.Row]", "internal/bytealg.abigen_runtime_cmpstring", "slices.overlaps[cachet/api.Point]"], unfollowed := true, recurses := true, plainKeys := false, apart := false, narrowed := true }
def WorldLearnsUptoSaid : Prop := worldLearnsUptoRow.holds Tryz.pinned (OpenSpec.upto worldLearnsSpec)

/-- 'cachetlaw23.WorldOps', WHERE WHAT IT READS IS OF BULK AT MOST 1048576: true; the input reads as it did. -/
def worldOpsUptoRow : OpenClaim := { program := "ytkcccjihafhmdaagreat", sum := "7e26c2497252195edfffaba99166bfadc573a19a86f3a408c8811b4f22261cd8", func := "cachet/cachetlaw23.WorldOps", spec := "worldOps", inPlace := ["internal/abi.NoEscape", "slices.overlaps[int]", "maps.clone", "slices.overlaps[cachet/api.Do]", "slices.overlaps[cachet/api.Row]", "internal/bytealg.abigen_runtime_cmpstring", "slices.overlaps[cachet/api.Point]"], unfollowed := true, recurses := true, plainKeys := false, apart := false, narrowed := true }
def WorldOpsUptoSaid : Prop := worldOpsUptoRow.holds Tryz.pinned (OpenSpec.upto worldOpsSpec)

end Rows
end Go.Proofs.YtkcccjihafhmdaaGreat
