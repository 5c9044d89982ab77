/-
  DERIVED. GIVEN WITH THE SEED: THE CARDS: each row of YtkmopacddblfeaaGreatDoorRows.lean that lists a variable, with what it lists TIED to the program's text (the seventh form; the later family's looks); each row that meets fmt, with fmt's text TOLD by the authors' own Lean function (tested against real Go, not proved from fmt's source: count such statements apart). THE CARD IS WHAT COUNTS. Prove the row's statement (the work); the ties are given (YtkmopacddblfeaaGreatDoorTie.lean); close each card by the builder's one call (the guide's Derived/Test/ToyasCard.lean, 'card_holds'). Laid BY PROGRAM, IN A SANDBOX (cutbox-door.mjs). By AI agents, Wed Nov 11 2026. No macro, syntax, notation, axiom, sorry.
-/
import Derived.Test.YtkmopacddblfeaaGreatDoorRows
import GoSem.ClaimSeven
namespace Go.Proofs.YtkmopacddblfeaaGreatDoor
namespace Rows

/-- THE TIED CARD OF 'cachetlaw26.RunLines'. -/
def runLinesCard : Claim7 := { stood := { row := runLinesRow, standIns := [], harness := (true, "1d54be7bfd9d88cd89f18064617c789637c83811667ef482496424fb2dd46691"), looks := true }, kinds := [], alts := [], laidByText := true, laidKinds := [.data, .data, .data, .data, .sentinel, .sentinel, .pinned], laidTests := true, laidLooks := .later }
def RunLinesCardSaid : Prop := Claim7.holds Tryz.pinned (.plain (OpenSpec.ofChange runLinesSpec)) runLinesCard

/-- THE TIED CARD OF 'cachetlaw26.RunFirst'. -/
def runFirstCard : Claim7 := { stood := { row := runFirstRow, standIns := [], harness := (true, "1d54be7bfd9d88cd89f18064617c789637c83811667ef482496424fb2dd46691"), looks := true }, kinds := [], alts := [], laidByText := true, laidKinds := [.data, .data, .data, .data, .sentinel, .sentinel, .pinned], laidTests := true, laidLooks := .later }
def RunFirstCardSaid : Prop := Claim7.holds Tryz.pinned (.plain (OpenSpec.ofChange runFirstSpec)) runFirstCard

/-- THE TIED CARD OF 'cachetlaw26.RunWrites'. -/
def runWritesCard : Claim7 := { stood := { row := runWritesRow, standIns := [], harness := (true, "1d54be7bfd9d88cd89f18064617c789637c83811667ef482496424fb2dd46691"), looks := true }, kinds := [], alts := [], laidByText := true, laidKinds := [.data, .data, .data, .data, .sentinel, .sentinel, .pinned], laidTests := true, laidLooks := .later }
def RunWritesCardSaid : Prop := Claim7.holds Tryz.pinned (.plain (OpenSpec.ofChange runWritesSpec)) runWritesCard

/-- THE SECOND FORM's CARD OF 'cachetlaw26.RunLines'. -/
def runLinesUptoCard : Claim7 := { stood := { row := runLinesUptoRow, standIns := [], harness := (true, "1d54be7bfd9d88cd89f18064617c789637c83811667ef482496424fb2dd46691"), looks := true }, kinds := [], alts := [], laidByText := true, laidKinds := [.data, .data, .data, .data, .sentinel, .sentinel, .pinned], laidTests := true, laidLooks := .later }
def RunLinesUptoCardSaid : Prop := Claim7.holds Tryz.pinned (.plain (OpenSpec.upto runLinesSpec)) runLinesUptoCard

/-- THE SECOND FORM's CARD OF 'cachetlaw26.RunFirst'. -/
def runFirstUptoCard : Claim7 := { stood := { row := runFirstUptoRow, standIns := [], harness := (true, "1d54be7bfd9d88cd89f18064617c789637c83811667ef482496424fb2dd46691"), looks := true }, kinds := [], alts := [], laidByText := true, laidKinds := [.data, .data, .data, .data, .sentinel, .sentinel, .pinned], laidTests := true, laidLooks := .later }
def RunFirstUptoCardSaid : Prop := Claim7.holds Tryz.pinned (.plain (OpenSpec.upto runFirstSpec)) runFirstUptoCard

/-- THE SECOND FORM's CARD OF 'cachetlaw26.RunWrites'. -/
def runWritesUptoCard : Claim7 := { stood := { row := runWritesUptoRow, standIns := [], harness := (true, "1d54be7bfd9d88cd89f18064617c789637c83811667ef482496424fb2dd46691"), looks := true }, kinds := [], alts := [], laidByText := true, laidKinds := [.data, .data, .data, .data, .sentinel, .sentinel, .pinned], laidTests := true, laidLooks := .later }
def RunWritesUptoCardSaid : Prop := Claim7.holds Tryz.pinned (.plain (OpenSpec.upto runWritesSpec)) runWritesUptoCard
end Rows
end Go.Proofs.YtkmopacddblfeaaGreatDoor
