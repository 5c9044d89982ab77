/-
  DERIVED. GIVEN WITH THE SEED: THE CARDS: each row of YthklkhndoojmfaaGreatDoorRows.lean that lists a variable, with what it lists TIED to the program's text (the seventh form; the later family's looks); each row that meets fmt, with fmt's text TOLD by the authors' own Lean function (tested against real Go, not proved from fmt's source: count such statements apart). THE CARD IS WHAT COUNTS. Prove the row's statement (the work); the ties are given (YthklkhndoojmfaaGreatDoorTie.lean); close each card by the builder's one call (the guide's Derived/Test/ToyasCard.lean, 'card_holds'). Laid BY PROGRAM, IN A SANDBOX (cutbox-door.mjs). By AI agents, Wed Nov 11 2026. No macro, syntax, notation, axiom, sorry.
-/
import Derived.Test.YthklkhndoojmfaaGreatDoorRows
import GoSem.ClaimSeven
namespace Go.Proofs.YthklkhndoojmfaaGreatDoor
namespace Rows

/-- THE TIED CARD OF 'cachetlaw26.RunMarks'. -/
def runMarksCard : Claim7 := { stood := { row := runMarksRow, standIns := [], harness := (true, "08ebb4daed11b8f7aa4cab63f6797b01da4f2407b057fcef4b40841393881e55"), looks := true }, kinds := [], alts := [], laidByText := true, laidKinds := [.data, .data, .data, .data, .sentinel, .sentinel, .pinned], laidTests := true, laidLooks := .later }
def RunMarksCardSaid : Prop := Claim7.holds Tryz.pinned (.plain (OpenSpec.ofChange runMarksSpec)) runMarksCard

/-- THE SECOND FORM's CARD OF 'cachetlaw26.RunMarks'. -/
def runMarksUptoCard : Claim7 := { stood := { row := runMarksUptoRow, standIns := [], harness := (true, "08ebb4daed11b8f7aa4cab63f6797b01da4f2407b057fcef4b40841393881e55"), looks := true }, kinds := [], alts := [], laidByText := true, laidKinds := [.data, .data, .data, .data, .sentinel, .sentinel, .pinned], laidTests := true, laidLooks := .later }
def RunMarksUptoCardSaid : Prop := Claim7.holds Tryz.pinned (.plain (OpenSpec.upto runMarksSpec)) runMarksUptoCard
end Rows
end Go.Proofs.YthklkhndoojmfaaGreatDoor
