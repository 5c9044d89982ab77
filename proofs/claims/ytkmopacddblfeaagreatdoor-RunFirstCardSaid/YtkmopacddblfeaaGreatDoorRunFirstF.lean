/-
  The closed facts of the row of RunFirst.
-/
import Derived.Test.YtkmopacddblfeaaGreatDoorFacts
import Derived.Test.YtkmopacddblfeaaGreatDoorRows
import Derived.JoinedOf
import Derived.KernelRfl
set_option maxRecDepth 100000
set_option linter.unusedVariables false
namespace Go.Proofs.YtkmopacddblfeaaGreatDoor.runFirstFacts
open Go.Proofs.YtkmopacddblfeaaGreatDoor
theorem q0 : Rows.runFirstRow.wf (OpenSpec.ofChange Rows.runFirstSpec) = true := by kernel_rfl
theorem q3 : Tryz.f4.params.all (Tryz.prog.readableRec ·) = true := by kernel_rfl
theorem q4 : namedTie Tryz.prog Rows.runFirstRow.named Rows.runFirstSpec.vars = true := by kernel_rfl
theorem q5 : (Rows.runFirstRow.stops == []) = true := by kernel_rfl
theorem q7 : (Rows.runFirstRow.knobs == []) = true := by kernel_rfl
theorem q9 : (Rows.runFirstRow.inPlace == Tryz.prog.inPlace 4) = true := by kernel_rfl
theorem q10 : (Rows.runFirstRow.unfollowed == Tryz.prog.unfollowed 4) = true := by kernel_rfl
theorem q11 : (Rows.runFirstRow.recurses == Tryz.prog.recurses 4) = true := by kernel_rfl
theorem q12 : (Rows.runFirstRow.named == Tryz.prog.varsNamed 4) = true := by kernel_rfl
theorem q13 : (Rows.runFirstRow.maps == (Tryz.f4.params.toList ++ Rows.runFirstSpec.plain.varTypes Tryz.prog).any (Tryz.prog.mapsRec ·)) = true := by kernel_rfl
theorem q14 : (Rows.runFirstRow.ifaces == (Tryz.f4.params.toList ++ Rows.runFirstSpec.plain.varTypes Tryz.prog).any (Tryz.prog.ifacesRec ·)) = true := by kernel_rfl
theorem q15 : (Rows.runFirstRow.mapsOut == Tryz.prog.mapsAmong Tryz.f4.resultTypes.toList) = true := by kernel_rfl
theorem q16 : (Rows.runFirstRow.loops == (Tryz.f4.params.toList ++ Rows.runFirstSpec.plain.varTypes Tryz.prog).any (Tryz.prog.loopsFrom ·)) = true := by kernel_rfl
theorem q17 : (Rows.runFirstRow.wideKeys == (Tryz.f4.params.toList ++ Rows.runFirstSpec.plain.varTypes Tryz.prog ++ Tryz.f4.resultTypes.toList).any (Tryz.prog.wideKeysFrom ·)) = true := by kernel_rfl
theorem q18 : Rows.runFirstSpec.vars.all (Tryz.prog.varReadable ·) = true := by kernel_rfl
theorem q19 : Tryz.f4.resultTypes.all (fun t => Tryz.prog.readableRec t && decide (t < Tryz.prog.types.size)) = true := by kernel_rfl
theorem q20 : (Rows.runFirstRow.ifacesOut == Tryz.f4.resultTypes.toList.any (Tryz.prog.ifacesRec ·)) = true := by kernel_rfl
theorem q21 : (Rows.runFirstRow.loopsOut == Tryz.f4.resultTypes.toList.any (Tryz.prog.loopsFrom ·)) = true := by kernel_rfl
theorem q22 : (Rows.runFirstRow.plainKeys == Tryz.prog.plainKeys) = true := by kernel_rfl
theorem q23 : Rows.runFirstRow.shortTexts.isNone = true := by kernel_rfl
theorem q26 : (Rows.runFirstRow.lifted == Tryz.prog.liftsFinal) = true := by kernel_rfl
theorem q27 : (Tryz.prog.make == some Rows.runFirstRow.make) = true := by kernel_rfl
theorem q28 : (Rows.runFirstRow.kinds == (if Rows.runFirstRow.domain.isEmpty then [] else Tryz.f4.params.toList.map fun t => match Tryz.prog.underlying t with | some (.int k) => some k | _ => none)) = true := by kernel_rfl
theorem q29 : (Rows.runFirstRow.pinned == Rows.runFirstRow.pinnedBy) = true := by kernel_rfl
theorem q30 : (Rows.runFirstRow.veiled == (Tryz.f4.params.toList ++ Rows.runFirstSpec.plain.varTypes Tryz.prog ++ Tryz.f4.resultTypes.toList).any (Tryz.prog.veiledRec ·)) = true := by kernel_rfl
theorem q31 : Rows.runFirstRow.veiledFits Tryz.prog Tryz.f4.params.toList (Tryz.f4.params.toList ++ Rows.runFirstSpec.plain.varTypes Tryz.prog ++ Tryz.f4.resultTypes.toList) = true := by kernel_rfl
theorem closed : joinedFacts Tryz.prog 4 Tryz.f4 Rows.runFirstSpec Rows.runFirstRow = true := (Facts.and2 (Facts.and2 (Facts.and2 (Facts.and2 (Facts.and2 (Facts.and2 (Facts.and2 (Facts.and2 (Facts.and2 (Facts.and2 (Facts.and2 (Facts.and2 (Facts.and2 (Facts.and2 (Facts.and2 (Facts.and2 (Facts.and2 (Facts.and2 (Facts.and2 (Facts.and2 (Facts.and2 (Facts.and2 (Facts.and2 (Facts.and2 (Facts.and2 (Facts.and2 (Facts.and2 (Facts.and2 (Facts.and2 (Facts.and2 (Facts.and2 q0 Facts.q1) Facts.q2) q3) q4) q5) Facts.q6) q7) Facts.q8) q9) q10) q11) q12) q13) q14) q15) q16) q17) q18) q19) q20) q21) q22) q23) Facts.q24) Facts.q25) q26) q27) q28) q29) q30) q31)
end Go.Proofs.YtkmopacddblfeaaGreatDoor.runFirstFacts
