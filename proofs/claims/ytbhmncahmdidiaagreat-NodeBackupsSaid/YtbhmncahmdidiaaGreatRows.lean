/-
  No cell of these rows narrows 'for every input' (looked for: loops, veiled, ifaces, maps, wideKeys, modest, calm, conditions, laid).
  DERIVED. THE GIVEN ROWS OF THIS SEAT. 8 by the template 'for every input the law returns true; each argument reads behind the call as it read before'; 0 by the template 'total and deterministic' (their statements: YtbhmncahmdidiaaGreatTotals.lean).
  GIVEN WITH THE SEED: the statements are not yours to turn. If you find one false, say at which input.
  Laid BY PROGRAM, IN A SANDBOX (cutbox-rows.mjs): the forced cells as the released guide's own fill.sh prints them over the translation 97f73b0fc831ca58… (all of the seat's roots in one cut). By AI agents, Wed Nov 11 2026. No macro, syntax, notation, axiom, sorry.
-/
import Derived.Test.YtbhmncahmdidiaaGreatChecked
import GoSem.Claim
import GoSem.ClaimJoined
import GoSem.ClaimMapViews
import Derived.JoinedTies
import Derived.KernelRfl
namespace Go.Proofs.YtbhmncahmdidiaaGreat
/- THE CELL 'sum', in the pinned program and in every row, IS THE sha256 OF THE DUMP (.gsa) THAT YtbhmncahmdidiaaGreatProg.lean LOADS. Nothing in Lean hashes anything: it is a label: what it is worth is what the hold of that sum in a sandbox is worth. -/
noncomputable def Tryz.pinned : Pinned := { name := "ytbhmncahmdidiaagreat", sum := "97f73b0fc831ca589658e4e67f620e6c41318aeefd61fc0598800ffe03f626e4", checked := Tryz.checked }
namespace Rows
def none {H : Type} : Left H := { results := [], args := [] }

/-- 'cachetlaw22.NodeWrites': WHATEVER THE INPUT: true; the input reads as it did. -/
def nodeWritesSpec : ChangeSpec := { name := "nodeWrites", fn := fun _ => fun
  | [d] => { results := [.lit (.bool true)], args := [d] }
  | _ => none }
def nodeWritesRow : OpenClaim := { program := "ytbhmncahmdidiaagreat", sum := "97f73b0fc831ca589658e4e67f620e6c41318aeefd61fc0598800ffe03f626e4", func := "cachet/cachetlaw22.NodeWrites", spec := "nodeWrites", inPlace := ["internal/abi.NoEscape", "slices.overlaps[int]", "maps.clone", "slices.overlaps[cachet/api.Do]", "slices.overlaps[cachet/api.Row]", "internal/bytealg.abigen_runtime_cmpstring", "slices.overlaps[cachet/api.Point]"], unfollowed := true, recurses := true, apart := false }
def NodeWritesSaid : Prop := nodeWritesRow.holds Tryz.pinned (OpenSpec.ofChange nodeWritesSpec)

/-- ITS FALSE NEIGHBOUR: 'it returns false'. Refute it at one input. -/
def nodeWritesWrong : ChangeSpec := { name := "nodeWrites", fn := fun _ => fun
  | [d] => { results := [.lit (.bool false)], args := [d] }
  | _ => none }
def NodeWritesWrongFalsely : Prop := nodeWritesRow.holds Tryz.pinned (OpenSpec.ofChange nodeWritesWrong)

/-- 'cachetlaw22.NodeTries': WHATEVER THE INPUT: true; the input reads as it did. -/
def nodeTriesSpec : ChangeSpec := { name := "nodeTries", fn := fun _ => fun
  | [d1, d2, d3] => { results := [.lit (.bool true)], args := [d1, d2, d3] }
  | _ => none }
def nodeTriesRow : OpenClaim := { program := "ytbhmncahmdidiaagreat", sum := "97f73b0fc831ca589658e4e67f620e6c41318aeefd61fc0598800ffe03f626e4", func := "cachet/cachetlaw22.NodeTries", spec := "nodeTries", inPlace := ["internal/abi.NoEscape", "slices.overlaps[int]", "maps.clone", "slices.overlaps[cachet/api.Do]", "slices.overlaps[cachet/api.Row]", "internal/bytealg.abigen_runtime_cmpstring", "slices.overlaps[cachet/api.Point]"], unfollowed := true, recurses := true, apart := false }
def NodeTriesSaid : Prop := nodeTriesRow.holds Tryz.pinned (OpenSpec.ofChange nodeTriesSpec)

/-- ITS FALSE NEIGHBOUR: 'it returns false'. Refute it at one input. -/
def nodeTriesWrong : ChangeSpec := { name := "nodeTries", fn := fun _ => fun
  | [d1, d2, d3] => { results := [.lit (.bool false)], args := [d1, d2, d3] }
  | _ => none }
def NodeTriesWrongFalsely : Prop := nodeTriesRow.holds Tryz.pinned (OpenSpec.ofChange nodeTriesWrong)

/-- 'cachetlaw22.NodeReads': WHATEVER THE INPUT: true; the input reads as it did. -/
def nodeReadsSpec : ChangeSpec := { name := "nodeReads", fn := fun _ => fun
  | [d] => { results := [.lit (.bool true)], args := [d] }
  | _ => none }
def nodeReadsRow : OpenClaim := { program := "ytbhmncahmdidiaagreat", sum := "97f73b0fc831ca589658e4e67f620e6c41318aeefd61fc0598800ffe03f626e4", func := "cachet/cachetlaw22.NodeReads", spec := "nodeReads", inPlace := ["internal/abi.NoEscape", "slices.overlaps[int]", "maps.clone", "slices.overlaps[cachet/api.Do]", "slices.overlaps[cachet/api.Row]", "internal/bytealg.abigen_runtime_cmpstring", "slices.overlaps[cachet/api.Point]"], unfollowed := true, recurses := true, apart := false }
def NodeReadsSaid : Prop := nodeReadsRow.holds Tryz.pinned (OpenSpec.ofChange nodeReadsSpec)

/-- ITS FALSE NEIGHBOUR: 'it returns false'. Refute it at one input. -/
def nodeReadsWrong : ChangeSpec := { name := "nodeReads", fn := fun _ => fun
  | [d] => { results := [.lit (.bool false)], args := [d] }
  | _ => none }
def NodeReadsWrongFalsely : Prop := nodeReadsRow.holds Tryz.pinned (OpenSpec.ofChange nodeReadsWrong)

/-- 'cachetlaw22.NodeBackups': WHATEVER THE INPUT: true; the input reads as it did. -/
def nodeBackupsSpec : ChangeSpec := { name := "nodeBackups", fn := fun _ => fun
  | [d1, d2, d3, d4] => { results := [.lit (.bool true)], args := [d1, d2, d3, d4] }
  | _ => none }
def nodeBackupsRow : OpenClaim := { program := "ytbhmncahmdidiaagreat", sum := "97f73b0fc831ca589658e4e67f620e6c41318aeefd61fc0598800ffe03f626e4", func := "cachet/cachetlaw22.NodeBackups", spec := "nodeBackups", inPlace := ["internal/abi.NoEscape", "slices.overlaps[int]", "maps.clone", "slices.overlaps[cachet/api.Do]", "slices.overlaps[cachet/api.Row]", "internal/bytealg.abigen_runtime_cmpstring", "slices.overlaps[cachet/api.Point]"], unfollowed := true, recurses := true, apart := false }
def NodeBackupsSaid : Prop := nodeBackupsRow.holds Tryz.pinned (OpenSpec.ofChange nodeBackupsSpec)

/-- ITS FALSE NEIGHBOUR: 'it returns false'. Refute it at one input. -/
def nodeBackupsWrong : ChangeSpec := { name := "nodeBackups", fn := fun _ => fun
  | [d1, d2, d3, d4] => { results := [.lit (.bool false)], args := [d1, d2, d3, d4] }
  | _ => none }
def NodeBackupsWrongFalsely : Prop := nodeBackupsRow.holds Tryz.pinned (OpenSpec.ofChange nodeBackupsWrong)

/-- 'cachetlaw22.NodeSeals': WHATEVER THE INPUT: true; the input reads as it did. -/
def nodeSealsSpec : ChangeSpec := { name := "nodeSeals", fn := fun _ => fun
  | [d] => { results := [.lit (.bool true)], args := [d] }
  | _ => none }
def nodeSealsRow : OpenClaim := { program := "ytbhmncahmdidiaagreat", sum := "97f73b0fc831ca589658e4e67f620e6c41318aeefd61fc0598800ffe03f626e4", func := "cachet/cachetlaw22.NodeSeals", spec := "nodeSeals", inPlace := ["internal/abi.NoEscape", "slices.overlaps[int]", "maps.clone", "slices.overlaps[cachet/api.Do]", "slices.overlaps[cachet/api.Row]", "internal/bytealg.abigen_runtime_cmpstring", "slices.overlaps[cachet/api.Point]"], unfollowed := true, recurses := true, apart := false }
def NodeSealsSaid : Prop := nodeSealsRow.holds Tryz.pinned (OpenSpec.ofChange nodeSealsSpec)

/-- ITS FALSE NEIGHBOUR: 'it returns false'. Refute it at one input. -/
def nodeSealsWrong : ChangeSpec := { name := "nodeSeals", fn := fun _ => fun
  | [d] => { results := [.lit (.bool false)], args := [d] }
  | _ => none }
def NodeSealsWrongFalsely : Prop := nodeSealsRow.holds Tryz.pinned (OpenSpec.ofChange nodeSealsWrong)

/-- 'cachetlaw22.NodeHeld': WHATEVER THE INPUT: true; the input reads as it did. -/
def nodeHeldSpec : ChangeSpec := { name := "nodeHeld", fn := fun _ => fun
  | [d] => { results := [.lit (.bool true)], args := [d] }
  | _ => none }
def nodeHeldRow : OpenClaim := { program := "ytbhmncahmdidiaagreat", sum := "97f73b0fc831ca589658e4e67f620e6c41318aeefd61fc0598800ffe03f626e4", func := "cachet/cachetlaw22.NodeHeld", spec := "nodeHeld", inPlace := ["internal/abi.NoEscape", "slices.overlaps[int]", "maps.clone", "slices.overlaps[cachet/api.Do]", "slices.overlaps[cachet/api.Row]", "internal/bytealg.abigen_runtime_cmpstring", "slices.overlaps[cachet/api.Point]"], unfollowed := true, recurses := true, apart := false }
def NodeHeldSaid : Prop := nodeHeldRow.holds Tryz.pinned (OpenSpec.ofChange nodeHeldSpec)

/-- ITS FALSE NEIGHBOUR: 'it returns false'. Refute it at one input. -/
def nodeHeldWrong : ChangeSpec := { name := "nodeHeld", fn := fun _ => fun
  | [d] => { results := [.lit (.bool false)], args := [d] }
  | _ => none }
def NodeHeldWrongFalsely : Prop := nodeHeldRow.holds Tryz.pinned (OpenSpec.ofChange nodeHeldWrong)

/-- 'cachetlaw22.NodeForms': WHATEVER THE INPUT: true; the input reads as it did. -/
def nodeFormsSpec : ChangeSpec := { name := "nodeForms", fn := fun _ => fun
  | [d1, d2, d3] => { results := [.lit (.bool true)], args := [d1, d2, d3] }
  | _ => none }
def nodeFormsRow : OpenClaim := { program := "ytbhmncahmdidiaagreat", sum := "97f73b0fc831ca589658e4e67f620e6c41318aeefd61fc0598800ffe03f626e4", func := "cachet/cachetlaw22.NodeForms", spec := "nodeForms", inPlace := ["internal/abi.NoEscape", "slices.overlaps[int]", "maps.clone", "slices.overlaps[cachet/api.Do]", "slices.overlaps[cachet/api.Row]", "internal/bytealg.abigen_runtime_cmpstring", "slices.overlaps[cachet/api.Point]"], unfollowed := true, recurses := true, apart := false }
def NodeFormsSaid : Prop := nodeFormsRow.holds Tryz.pinned (OpenSpec.ofChange nodeFormsSpec)

/-- ITS FALSE NEIGHBOUR: 'it returns false'. Refute it at one input. -/
def nodeFormsWrong : ChangeSpec := { name := "nodeForms", fn := fun _ => fun
  | [d1, d2, d3] => { results := [.lit (.bool false)], args := [d1, d2, d3] }
  | _ => none }
def NodeFormsWrongFalsely : Prop := nodeFormsRow.holds Tryz.pinned (OpenSpec.ofChange nodeFormsWrong)

/-- 'cachetlaw22.NodeOpens': WHATEVER THE INPUT: true; the input reads as it did. -/
def nodeOpensSpec : ChangeSpec := { name := "nodeOpens", fn := fun _ => fun
  | [d1, d2] => { results := [.lit (.bool true)], args := [d1, d2] }
  | _ => none }
def nodeOpensRow : OpenClaim := { program := "ytbhmncahmdidiaagreat", sum := "97f73b0fc831ca589658e4e67f620e6c41318aeefd61fc0598800ffe03f626e4", func := "cachet/cachetlaw22.NodeOpens", spec := "nodeOpens", inPlace := ["internal/abi.NoEscape", "slices.overlaps[int]", "maps.clone", "slices.overlaps[cachet/api.Do]", "slices.overlaps[cachet/api.Row]", "internal/bytealg.abigen_runtime_cmpstring", "slices.overlaps[cachet/api.Point]"], unfollowed := true, recurses := true, apart := false }
def NodeOpensSaid : Prop := nodeOpensRow.holds Tryz.pinned (OpenSpec.ofChange nodeOpensSpec)

/-- ITS FALSE NEIGHBOUR: 'it returns false'. Refute it at one input. -/
def nodeOpensWrong : ChangeSpec := { name := "nodeOpens", fn := fun _ => fun
  | [d1, d2] => { results := [.lit (.bool false)], args := [d1, d2] }
  | _ => none }
def NodeOpensWrongFalsely : Prop := nodeOpensRow.holds Tryz.pinned (OpenSpec.ofChange nodeOpensWrong)

/- THE SECOND FORM. 'bulk': how many values and letters a reading holds, each counted each time it is reached (what is shared counts as often as it is met; a slice's spare places count too). A statement '..UptoSaid' is the law's where the arguments, and the package variables that the reading takes, are together of bulk at most 1048576: NARROWER than '..Said'. Prove '..Said' where nothing that the law and all that it calls make is longer than what came in: it says more and counts as full. Else prove '..UptoSaid'. A law counts once. -/
mutual
def uptoBulk {H : Type} : DataW H → Nat
  | .lit (.string bytes) => bytes.length + 1
  | .lit _ => 1
  | .nil => 1
  | .ptr d => uptoBulk d + 1
  | .slice elems spare => uptoBulkAll elems + uptoBulkAll spare + 1
  | .agg parts => uptoBulkAll parts + 1
  | .iface _ d => uptoBulk d + 1
  | .map entries => uptoBulkEntries entries + 1
  | .held _ => 1
def uptoBulkAll {H : Type} : List (DataW H) → Nat
  | [] => 0
  | d :: r => uptoBulk d + uptoBulkAll r
def uptoBulkEntries {H : Type} : List (Lit × DataW H) → Nat
  | [] => 0
  | x :: r => uptoBulkEntry x + uptoBulkEntries r
def uptoBulkEntry {H : Type} : Lit × DataW H → Nat
  | (.string bytes, d) => bytes.length + uptoBulk d + 1
  | (_, d) => uptoBulk d + 1
 end
def uptoSmall : (H : Type) → List (DataW H) → Bool := fun _ ds => decide (uptoBulkAll ds ≤ 1048576)
def OpenSpec.upto (s : _root_.Go.ChangeSpec) : _root_.Go.OpenSpec := { _root_.Go.OpenSpec.ofChange s with cond := some uptoSmall }

/-- 'cachetlaw22.NodeWrites', WHERE WHAT IT READS IS OF BULK AT MOST 1048576: true; the input reads as it did. -/
def nodeWritesUptoRow : OpenClaim := { program := "ytbhmncahmdidiaagreat", sum := "97f73b0fc831ca589658e4e67f620e6c41318aeefd61fc0598800ffe03f626e4", func := "cachet/cachetlaw22.NodeWrites", spec := "nodeWrites", inPlace := ["internal/abi.NoEscape", "slices.overlaps[int]", "maps.clone", "slices.overlaps[cachet/api.Do]", "slices.overlaps[cachet/api.Row]", "internal/bytealg.abigen_runtime_cmpstring", "slices.overlaps[cachet/api.Point]"], unfollowed := true, recurses := true, apart := false, narrowed := true }
def NodeWritesUptoSaid : Prop := nodeWritesUptoRow.holds Tryz.pinned (OpenSpec.upto nodeWritesSpec)

/-- 'cachetlaw22.NodeTries', WHERE WHAT IT READS IS OF BULK AT MOST 1048576: true; the input reads as it did. -/
def nodeTriesUptoRow : OpenClaim := { program := "ytbhmncahmdidiaagreat", sum := "97f73b0fc831ca589658e4e67f620e6c41318aeefd61fc0598800ffe03f626e4", func := "cachet/cachetlaw22.NodeTries", spec := "nodeTries", inPlace := ["internal/abi.NoEscape", "slices.overlaps[int]", "maps.clone", "slices.overlaps[cachet/api.Do]", "slices.overlaps[cachet/api.Row]", "internal/bytealg.abigen_runtime_cmpstring", "slices.overlaps[cachet/api.Point]"], unfollowed := true, recurses := true, apart := false, narrowed := true }
def NodeTriesUptoSaid : Prop := nodeTriesUptoRow.holds Tryz.pinned (OpenSpec.upto nodeTriesSpec)

/-- 'cachetlaw22.NodeReads', WHERE WHAT IT READS IS OF BULK AT MOST 1048576: true; the input reads as it did. -/
def nodeReadsUptoRow : OpenClaim := { program := "ytbhmncahmdidiaagreat", sum := "97f73b0fc831ca589658e4e67f620e6c41318aeefd61fc0598800ffe03f626e4", func := "cachet/cachetlaw22.NodeReads", spec := "nodeReads", inPlace := ["internal/abi.NoEscape", "slices.overlaps[int]", "maps.clone", "slices.overlaps[cachet/api.Do]", "slices.overlaps[cachet/api.Row]", "internal/bytealg.abigen_runtime_cmpstring", "slices.overlaps[cachet/api.Point]"], unfollowed := true, recurses := true, apart := false, narrowed := true }
def NodeReadsUptoSaid : Prop := nodeReadsUptoRow.holds Tryz.pinned (OpenSpec.upto nodeReadsSpec)

/-- 'cachetlaw22.NodeBackups', WHERE WHAT IT READS IS OF BULK AT MOST 1048576: true; the input reads as it did. -/
def nodeBackupsUptoRow : OpenClaim := { program := "ytbhmncahmdidiaagreat", sum := "97f73b0fc831ca589658e4e67f620e6c41318aeefd61fc0598800ffe03f626e4", func := "cachet/cachetlaw22.NodeBackups", spec := "nodeBackups", inPlace := ["internal/abi.NoEscape", "slices.overlaps[int]", "maps.clone", "slices.overlaps[cachet/api.Do]", "slices.overlaps[cachet/api.Row]", "internal/bytealg.abigen_runtime_cmpstring", "slices.overlaps[cachet/api.Point]"], unfollowed := true, recurses := true, apart := false, narrowed := true }
def NodeBackupsUptoSaid : Prop := nodeBackupsUptoRow.holds Tryz.pinned (OpenSpec.upto nodeBackupsSpec)

/-- 'cachetlaw22.NodeSeals', WHERE WHAT IT READS IS OF BULK AT MOST 1048576: true; the input reads as it did. -/
def nodeSealsUptoRow : OpenClaim := { program := "ytbhmncahmdidiaagreat", sum := "97f73b0fc831ca589658e4e67f620e6c41318aeefd61fc0598800ffe03f626e4", func := "cachet/cachetlaw22.NodeSeals", spec := "nodeSeals", inPlace := ["internal/abi.NoEscape", "slices.overlaps[int]", "maps.clone", "slices.overlaps[cachet/api.Do]", "slices.overlaps[cachet/api.Row]", "internal/bytealg.abigen_runtime_cmpstring", "slices.overlaps[cachet/api.Point]"], unfollowed := true, recurses := true, apart := false, narrowed := true }
def NodeSealsUptoSaid : Prop := nodeSealsUptoRow.holds Tryz.pinned (OpenSpec.upto nodeSealsSpec)

/-- 'cachetlaw22.NodeHeld', WHERE WHAT IT READS IS OF BULK AT MOST 1048576: true; the input reads as it did. -/
def nodeHeldUptoRow : OpenClaim := { program := "ytbhmncahmdidiaagreat", sum := "97f73b0fc831ca589658e4e67f620e6c41318aeefd61fc0598800ffe03f626e4", func := "cachet/cachetlaw22.NodeHeld", spec := "nodeHeld", inPlace := ["internal/abi.NoEscape", "slices.overlaps[int]", "maps.clone", "slices.overlaps[cachet/api.Do]", "slices.overlaps[cachet/api.Row]", "internal/bytealg.abigen_runtime_cmpstring", "slices.overlaps[cachet/api.Point]"], unfollowed := true, recurses := true, apart := false, narrowed := true }
def NodeHeldUptoSaid : Prop := nodeHeldUptoRow.holds Tryz.pinned (OpenSpec.upto nodeHeldSpec)

/-- 'cachetlaw22.NodeForms', WHERE WHAT IT READS IS OF BULK AT MOST 1048576: true; the input reads as it did. -/
def nodeFormsUptoRow : OpenClaim := { program := "ytbhmncahmdidiaagreat", sum := "97f73b0fc831ca589658e4e67f620e6c41318aeefd61fc0598800ffe03f626e4", func := "cachet/cachetlaw22.NodeForms", spec := "nodeForms", inPlace := ["internal/abi.NoEscape", "slices.overlaps[int]", "maps.clone", "slices.overlaps[cachet/api.Do]", "slices.overlaps[cachet/api.Row]", "internal/bytealg.abigen_runtime_cmpstring", "slices.overlaps[cachet/api.Point]"], unfollowed := true, recurses := true, apart := false, narrowed := true }
def NodeFormsUptoSaid : Prop := nodeFormsUptoRow.holds Tryz.pinned (OpenSpec.upto nodeFormsSpec)

/-- 'cachetlaw22.NodeOpens', WHERE WHAT IT READS IS OF BULK AT MOST 1048576: true; the input reads as it did. -/
def nodeOpensUptoRow : OpenClaim := { program := "ytbhmncahmdidiaagreat", sum := "97f73b0fc831ca589658e4e67f620e6c41318aeefd61fc0598800ffe03f626e4", func := "cachet/cachetlaw22.NodeOpens", spec := "nodeOpens", inPlace := ["internal/abi.NoEscape", "slices.overlaps[int]", "maps.clone", "slices.overlaps[cachet/api.Do]", "slices.overlaps[cachet/api.Row]", "internal/bytealg.abigen_runtime_cmpstring", "slices.overlaps[cachet/api.Point]"], unfollowed := true, recurses := true, apart := false, narrowed := true }
def NodeOpensUptoSaid : Prop := nodeOpensUptoRow.holds Tryz.pinned (OpenSpec.upto nodeOpensSpec)

end Rows
end Go.Proofs.YtbhmncahmdidiaaGreat
