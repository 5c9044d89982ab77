/-
  The closed facts of the row of RunWrites.
-/
import Derived.Test.YtkmopacddblfeaaGreatDoorFacts
import Derived.Test.YtkmopacddblfeaaGreatDoorRows
import Derived.JoinedOf
import Derived.KernelRfl
set_option maxRecDepth 100000
set_option linter.unusedVariables false
namespace Go.Proofs.YtkmopacddblfeaaGreatDoor.runWritesFacts
open Go.Proofs.YtkmopacddblfeaaGreatDoor
theorem q0 : Rows.runWritesRow.wf (OpenSpec.ofChange Rows.runWritesSpec) = true := by kernel_rfl
theorem q3 : Tryz.f5.params.all (Tryz.prog.readableRec ·) = true := by kernel_rfl
theorem q4 : namedTie Tryz.prog Rows.runWritesRow.named Rows.runWritesSpec.vars = true := by kernel_rfl
theorem q5 : (Rows.runWritesRow.stops == []) = true := by kernel_rfl
theorem q7 : (Rows.runWritesRow.knobs == []) = true := by kernel_rfl
theorem q9 : (Rows.runWritesRow.inPlace == Tryz.prog.inPlace 5) = true := by kernel_rfl
theorem q10 : (Rows.runWritesRow.unfollowed == Tryz.prog.unfollowed 5) = true := by kernel_rfl
theorem q11 : (Rows.runWritesRow.recurses == Tryz.prog.recurses 5) = true := by kernel_rfl
theorem q12 : (Rows.runWritesRow.named == Tryz.prog.varsNamed 5) = true := by kernel_rfl
theorem q13 : (Rows.runWritesRow.maps == (Tryz.f5.params.toList ++ Rows.runWritesSpec.plain.varTypes Tryz.prog).any (Tryz.prog.mapsRec ·)) = true := by kernel_rfl
theorem q14 : (Rows.runWritesRow.ifaces == (Tryz.f5.params.toList ++ Rows.runWritesSpec.plain.varTypes Tryz.prog).any (Tryz.prog.ifacesRec ·)) = true := by kernel_rfl
theorem q15 : (Rows.runWritesRow.mapsOut == Tryz.prog.mapsAmong Tryz.f5.resultTypes.toList) = true := by kernel_rfl
theorem q16 : (Rows.runWritesRow.loops == (Tryz.f5.params.toList ++ Rows.runWritesSpec.plain.varTypes Tryz.prog).any (Tryz.prog.loopsFrom ·)) = true := by kernel_rfl
theorem q17 : (Rows.runWritesRow.wideKeys == (Tryz.f5.params.toList ++ Rows.runWritesSpec.plain.varTypes Tryz.prog ++ Tryz.f5.resultTypes.toList).any (Tryz.prog.wideKeysFrom ·)) = true := by kernel_rfl
theorem q18 : Rows.runWritesSpec.vars.all (Tryz.prog.varReadable ·) = true := by kernel_rfl
theorem q19 : Tryz.f5.resultTypes.all (fun t => Tryz.prog.readableRec t && decide (t < Tryz.prog.types.size)) = true := by kernel_rfl
theorem q20 : (Rows.runWritesRow.ifacesOut == Tryz.f5.resultTypes.toList.any (Tryz.prog.ifacesRec ·)) = true := by kernel_rfl
theorem q21 : (Rows.runWritesRow.loopsOut == Tryz.f5.resultTypes.toList.any (Tryz.prog.loopsFrom ·)) = true := by kernel_rfl
theorem q22 : (Rows.runWritesRow.plainKeys == Tryz.prog.plainKeys) = true := by kernel_rfl
theorem q23 : Rows.runWritesRow.shortTexts.isNone = true := by kernel_rfl
theorem q26 : (Rows.runWritesRow.lifted == Tryz.prog.liftsFinal) = true := by kernel_rfl
theorem q27 : (Tryz.prog.make == some Rows.runWritesRow.make) = true := by kernel_rfl
theorem q28 : (Rows.runWritesRow.kinds == (if Rows.runWritesRow.domain.isEmpty then [] else Tryz.f5.params.toList.map fun t => match Tryz.prog.underlying t with | some (.int k) => some k | _ => none)) = true := by kernel_rfl
theorem q29 : (Rows.runWritesRow.pinned == Rows.runWritesRow.pinnedBy) = true := by kernel_rfl
theorem q30 : (Rows.runWritesRow.veiled == (Tryz.f5.params.toList ++ Rows.runWritesSpec.plain.varTypes Tryz.prog ++ Tryz.f5.resultTypes.toList).any (Tryz.prog.veiledRec ·)) = true := by kernel_rfl
theorem q31 : Rows.runWritesRow.veiledFits Tryz.prog Tryz.f5.params.toList (Tryz.f5.params.toList ++ Rows.runWritesSpec.plain.varTypes Tryz.prog ++ Tryz.f5.resultTypes.toList) = true := by kernel_rfl
theorem closed : joinedFacts Tryz.prog 5 Tryz.f5 Rows.runWritesSpec Rows.runWritesRow = true := (Facts.and2 (Facts.and2 (Facts.and2 (Facts.and2 (Facts.and2 (Facts.and2 (Facts.and2 (Facts.and2 (Facts.and2 (Facts.and2 (Facts.and2 (Facts.and2 (Facts.and2 (Facts.and2 (Facts.and2 (Facts.and2 (Facts.and2 (Facts.and2 (Facts.and2 (Facts.and2 (Facts.and2 (Facts.and2 (Facts.and2 (Facts.and2 (Facts.and2 (Facts.and2 (Facts.and2 (Facts.and2 (Facts.and2 (Facts.and2 (Facts.and2 q0 Facts.q1) Facts.q2) q3) q4) q5) Facts.q6) q7) Facts.q8) q9) q10) q11) q12) q13) q14) q15) q16) q17) q18) q19) q20) q21) q22) q23) Facts.q24) Facts.q25) q26) q27) q28) q29) q30) q31)
end Go.Proofs.YtkmopacddblfeaaGreatDoor.runWritesFacts
