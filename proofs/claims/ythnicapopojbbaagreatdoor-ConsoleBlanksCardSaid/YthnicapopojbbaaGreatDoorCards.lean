/-
  DERIVED. GIVEN WITH THE SEED: THE CARDS: each row of YthnicapopojbbaaGreatDoorRows.lean that lists a variable, with what it lists TIED to the program's text (the seventh form; the later family's looks); each row that meets fmt, with fmt's text TOLD by the authors' own Lean function (tested against real Go, not proved from fmt's source: count such statements apart). THE CARD IS WHAT COUNTS. Prove the row's statement (the work); the ties are given (YthnicapopojbbaaGreatDoorTie.lean); close each card by the builder's one call (the guide's Derived/Test/ToyasCard.lean, 'card_holds'). Laid BY PROGRAM, IN A SANDBOX (cutbox-door.mjs). By AI agents, Wed Nov 11 2026. No macro, syntax, notation, axiom, sorry.
-/
import Derived.Test.YthnicapopojbbaaGreatDoorRows
import GoSem.ClaimSeven
namespace Go.Proofs.YthnicapopojbbaaGreatDoor
namespace Rows

/-- THE TIED CARD OF 'cachetlaw27.ConsoleHashes'. -/
def consoleHashesCard : Claim7 := { stood := { row := consoleHashesRow, standIns := [], harness := (true, "2258b5dc46dab5f8caf8d73b4cece8145c8390f40cfbff7b9822b56a13abdcf3"), looks := true }, kinds := [], alts := [], laidByText := true, laidKinds := [.data, .data, .data, .data, .sentinel, .sentinel, .pinned], laidTests := true, laidLooks := .later }
def ConsoleHashesCardSaid : Prop := Claim7.holds Tryz.pinned (.plain (OpenSpec.ofChange consoleHashesSpec)) consoleHashesCard

/-- THE TIED CARD OF 'cachetlaw27.ConsoleNums'. -/
def consoleNumsCard : Claim7 := { stood := { row := consoleNumsRow, standIns := [], harness := (true, "2258b5dc46dab5f8caf8d73b4cece8145c8390f40cfbff7b9822b56a13abdcf3"), looks := true }, kinds := [], alts := [], laidByText := true, laidKinds := [.data, .data, .data, .data, .sentinel, .sentinel, .pinned], laidTests := true, laidLooks := .later }
def ConsoleNumsCardSaid : Prop := Claim7.holds Tryz.pinned (.plain (OpenSpec.ofChange consoleNumsSpec)) consoleNumsCard

/-- THE TIED CARD OF 'cachetlaw27.ConsoleBlanks'. -/
def consoleBlanksCard : Claim7 := { stood := { row := consoleBlanksRow, standIns := [], harness := (true, "2258b5dc46dab5f8caf8d73b4cece8145c8390f40cfbff7b9822b56a13abdcf3"), looks := true }, kinds := [], alts := [], laidByText := true, laidKinds := [.data, .data, .data, .data, .sentinel, .sentinel, .pinned], laidTests := true, laidLooks := .later }
def ConsoleBlanksCardSaid : Prop := Claim7.holds Tryz.pinned (.plain (OpenSpec.ofChange consoleBlanksSpec)) consoleBlanksCard

/-- THE SECOND FORM's CARD OF 'cachetlaw27.ConsoleHashes'. -/
def consoleHashesUptoCard : Claim7 := { stood := { row := consoleHashesUptoRow, standIns := [], harness := (true, "2258b5dc46dab5f8caf8d73b4cece8145c8390f40cfbff7b9822b56a13abdcf3"), looks := true }, kinds := [], alts := [], laidByText := true, laidKinds := [.data, .data, .data, .data, .sentinel, .sentinel, .pinned], laidTests := true, laidLooks := .later }
def ConsoleHashesUptoCardSaid : Prop := Claim7.holds Tryz.pinned (.plain (OpenSpec.upto consoleHashesSpec)) consoleHashesUptoCard

/-- THE SECOND FORM's CARD OF 'cachetlaw27.ConsoleNums'. -/
def consoleNumsUptoCard : Claim7 := { stood := { row := consoleNumsUptoRow, standIns := [], harness := (true, "2258b5dc46dab5f8caf8d73b4cece8145c8390f40cfbff7b9822b56a13abdcf3"), looks := true }, kinds := [], alts := [], laidByText := true, laidKinds := [.data, .data, .data, .data, .sentinel, .sentinel, .pinned], laidTests := true, laidLooks := .later }
def ConsoleNumsUptoCardSaid : Prop := Claim7.holds Tryz.pinned (.plain (OpenSpec.upto consoleNumsSpec)) consoleNumsUptoCard

/-- THE SECOND FORM's CARD OF 'cachetlaw27.ConsoleBlanks'. -/
def consoleBlanksUptoCard : Claim7 := { stood := { row := consoleBlanksUptoRow, standIns := [], harness := (true, "2258b5dc46dab5f8caf8d73b4cece8145c8390f40cfbff7b9822b56a13abdcf3"), looks := true }, kinds := [], alts := [], laidByText := true, laidKinds := [.data, .data, .data, .data, .sentinel, .sentinel, .pinned], laidTests := true, laidLooks := .later }
def ConsoleBlanksUptoCardSaid : Prop := Claim7.holds Tryz.pinned (.plain (OpenSpec.upto consoleBlanksSpec)) consoleBlanksUptoCard
end Rows
end Go.Proofs.YthnicapopojbbaaGreatDoor
