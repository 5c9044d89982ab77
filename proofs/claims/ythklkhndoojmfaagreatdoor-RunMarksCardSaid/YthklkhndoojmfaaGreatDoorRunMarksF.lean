/-
  The closed facts of the row of RunMarks.
-/
import Derived.Test.YthklkhndoojmfaaGreatDoorFacts
import Derived.Test.YthklkhndoojmfaaGreatDoorRows
import Derived.JoinedOf
import Derived.KernelRfl
set_option maxRecDepth 100000
set_option linter.unusedVariables false
namespace Go.Proofs.YthklkhndoojmfaaGreatDoor.runMarksFacts
open Go.Proofs.YthklkhndoojmfaaGreatDoor
theorem q0:Rows.runMarksRow.wf (OpenSpec.ofChange Rows.runMarksSpec)=true:=by kernel_rfl
theorem q3:Tryz.f3.params.all (Tryz.prog.readableRec ·)=true:=by kernel_rfl
theorem q4:namedTie Tryz.prog Rows.runMarksRow.named Rows.runMarksSpec.vars=true:=by kernel_rfl
theorem q5:(Rows.runMarksRow.stops==[])=true:=by kernel_rfl
theorem q7:(Rows.runMarksRow.knobs==[])=true:=by kernel_rfl
theorem q9:(Rows.runMarksRow.inPlace==Tryz.prog.inPlace 3)=true:=by kernel_rfl
theorem q10:(Rows.runMarksRow.unfollowed==Tryz.prog.unfollowed 3)=true:=by kernel_rfl
theorem q11:(Rows.runMarksRow.recurses==Tryz.prog.recurses 3)=true:=by kernel_rfl
theorem q12:(Rows.runMarksRow.named==Tryz.prog.varsNamed 3)=true:=by kernel_rfl
theorem q13:(Rows.runMarksRow.maps==(Tryz.f3.params.toList++Rows.runMarksSpec.plain.varTypes Tryz.prog).any (Tryz.prog.mapsRec ·))=true:=by kernel_rfl
theorem q14:(Rows.runMarksRow.ifaces==(Tryz.f3.params.toList++Rows.runMarksSpec.plain.varTypes Tryz.prog).any (Tryz.prog.ifacesRec ·))=true:=by kernel_rfl
theorem q15:(Rows.runMarksRow.mapsOut==Tryz.prog.mapsAmong Tryz.f3.resultTypes.toList)=true:=by kernel_rfl
theorem q16:(Rows.runMarksRow.loops==(Tryz.f3.params.toList++Rows.runMarksSpec.plain.varTypes Tryz.prog).any (Tryz.prog.loopsFrom ·))=true:=by kernel_rfl
theorem q17:(Rows.runMarksRow.wideKeys==(Tryz.f3.params.toList++Rows.runMarksSpec.plain.varTypes Tryz.prog++Tryz.f3.resultTypes.toList).any (Tryz.prog.wideKeysFrom ·))=true:=by kernel_rfl
theorem q18:Rows.runMarksSpec.vars.all (Tryz.prog.varReadable ·)=true:=by kernel_rfl
theorem q19:Tryz.f3.resultTypes.all (fun t=>Tryz.prog.readableRec t&&decide (t<Tryz.prog.types.size))=true:=by kernel_rfl
theorem q20:(Rows.runMarksRow.ifacesOut==Tryz.f3.resultTypes.toList.any (Tryz.prog.ifacesRec ·))=true:=by kernel_rfl
theorem q21:(Rows.runMarksRow.loopsOut==Tryz.f3.resultTypes.toList.any (Tryz.prog.loopsFrom ·))=true:=by kernel_rfl
theorem q22:(Rows.runMarksRow.plainKeys==Tryz.prog.plainKeys)=true:=by kernel_rfl
theorem q23:Rows.runMarksRow.shortTexts.isNone=true:=by kernel_rfl
theorem q26:(Rows.runMarksRow.lifted==Tryz.prog.liftsFinal)=true:=by kernel_rfl
theorem q27:(Tryz.prog.make==some Rows.runMarksRow.make)=true:=by kernel_rfl
theorem q28:(Rows.runMarksRow.kinds==(if Rows.runMarksRow.domain.isEmpty then[]else Tryz.f3.params.toList.map fun t=>match Tryz.prog.underlying t with|some (.int k)=>some k|_=>none))=true:=by kernel_rfl
theorem q29:(Rows.runMarksRow.pinned==Rows.runMarksRow.pinnedBy)=true:=by kernel_rfl
theorem q30:(Rows.runMarksRow.veiled==(Tryz.f3.params.toList++Rows.runMarksSpec.plain.varTypes Tryz.prog++Tryz.f3.resultTypes.toList).any (Tryz.prog.veiledRec ·))=true:=by kernel_rfl
theorem q31:Rows.runMarksRow.veiledFits Tryz.prog Tryz.f3.params.toList (Tryz.f3.params.toList++Rows.runMarksSpec.plain.varTypes Tryz.prog++Tryz.f3.resultTypes.toList)=true:=by kernel_rfl
theorem closed:joinedFacts Tryz.prog 3 Tryz.f3 Rows.runMarksSpec Rows.runMarksRow=true:=(Facts.and2 (Facts.and2 (Facts.and2 (Facts.and2 (Facts.and2 (Facts.and2 (Facts.and2 (Facts.and2 (Facts.and2 (Facts.and2 (Facts.and2 (Facts.and2 (Facts.and2 (Facts.and2 (Facts.and2 (Facts.and2 (Facts.and2 (Facts.and2 (Facts.and2 (Facts.and2 (Facts.and2 (Facts.and2 (Facts.and2 (Facts.and2 (Facts.and2 (Facts.and2 (Facts.and2 (Facts.and2 (Facts.and2 (Facts.and2 (Facts.and2 q0 Facts.q1) Facts.q2) q3) q4) q5) Facts.q6) q7) Facts.q8) q9) q10) q11) q12) q13) q14) q15) q16) q17) q18) q19) q20) q21) q22) q23) Facts.q24) Facts.q25) q26) q27) q28) q29) q30) q31)
end Go.Proofs.YthklkhndoojmfaaGreatDoor.runMarksFacts
