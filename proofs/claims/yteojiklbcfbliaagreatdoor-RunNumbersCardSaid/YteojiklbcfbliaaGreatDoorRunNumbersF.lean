/-
  The closed facts of the row of RunNumbers.
-/
import Derived.Test.YteojiklbcfbliaaGreatDoorFacts
import Derived.Test.YteojiklbcfbliaaGreatDoorRows
import Derived.JoinedOf
import Derived.KernelRfl
set_option maxRecDepth 100000
set_option linter.unusedVariables false
namespace Go.Proofs.YteojiklbcfbliaaGreatDoor.runNumbersFacts
open Go.Proofs.YteojiklbcfbliaaGreatDoor
theorem q0 : Rows.runNumbersRow.wf (OpenSpec.ofChange Rows.runNumbersSpec) = true := by kernel_rfl
theorem q3 : Tryz.f3.params.all (Tryz.prog.readableRec ·) = true := by kernel_rfl
theorem q4 : namedTie Tryz.prog Rows.runNumbersRow.named Rows.runNumbersSpec.vars = true := by kernel_rfl
theorem q5 : (Rows.runNumbersRow.stops == []) = true := by kernel_rfl
theorem q7 : (Rows.runNumbersRow.knobs == []) = true := by kernel_rfl
theorem q9 : (Rows.runNumbersRow.inPlace == Tryz.prog.inPlace 3) = true := by kernel_rfl
theorem q10 : (Rows.runNumbersRow.unfollowed == Tryz.prog.unfollowed 3) = true := by kernel_rfl
theorem q11 : (Rows.runNumbersRow.recurses == Tryz.prog.recurses 3) = true := by kernel_rfl
theorem q12 : (Rows.runNumbersRow.named == Tryz.prog.varsNamed 3) = true := by kernel_rfl
theorem q13 : (Rows.runNumbersRow.maps == (Tryz.f3.params.toList ++ Rows.runNumbersSpec.plain.varTypes Tryz.prog).any (Tryz.prog.mapsRec ·)) = true := by kernel_rfl
theorem q14 : (Rows.runNumbersRow.ifaces == (Tryz.f3.params.toList ++ Rows.runNumbersSpec.plain.varTypes Tryz.prog).any (Tryz.prog.ifacesRec ·)) = true := by kernel_rfl
theorem q15 : (Rows.runNumbersRow.mapsOut == Tryz.prog.mapsAmong Tryz.f3.resultTypes.toList) = true := by kernel_rfl
theorem q16 : (Rows.runNumbersRow.loops == (Tryz.f3.params.toList ++ Rows.runNumbersSpec.plain.varTypes Tryz.prog).any (Tryz.prog.loopsFrom ·)) = true := by kernel_rfl
theorem q17 : (Rows.runNumbersRow.wideKeys == (Tryz.f3.params.toList ++ Rows.runNumbersSpec.plain.varTypes Tryz.prog ++ Tryz.f3.resultTypes.toList).any (Tryz.prog.wideKeysFrom ·)) = true := by kernel_rfl
theorem q18 : Rows.runNumbersSpec.vars.all (Tryz.prog.varReadable ·) = true := by kernel_rfl
theorem q19 : Tryz.f3.resultTypes.all (fun t => Tryz.prog.readableRec t && decide (t < Tryz.prog.types.size)) = true := by kernel_rfl
theorem q20 : (Rows.runNumbersRow.ifacesOut == Tryz.f3.resultTypes.toList.any (Tryz.prog.ifacesRec ·)) = true := by kernel_rfl
theorem q21 : (Rows.runNumbersRow.loopsOut == Tryz.f3.resultTypes.toList.any (Tryz.prog.loopsFrom ·)) = true := by kernel_rfl
theorem q22 : (Rows.runNumbersRow.plainKeys == Tryz.prog.plainKeys) = true := by kernel_rfl
theorem q23 : Rows.runNumbersRow.shortTexts.isNone = true := by kernel_rfl
theorem q26 : (Rows.runNumbersRow.lifted == Tryz.prog.liftsFinal) = true := by kernel_rfl
theorem q27 : (Tryz.prog.make == some Rows.runNumbersRow.make) = true := by kernel_rfl
theorem q28 : (Rows.runNumbersRow.kinds == (if Rows.runNumbersRow.domain.isEmpty then [] else Tryz.f3.params.toList.map fun t => match Tryz.prog.underlying t with | some (.int k) => some k | _ => none)) = true := by kernel_rfl
theorem q29 : (Rows.runNumbersRow.pinned == Rows.runNumbersRow.pinnedBy) = true := by kernel_rfl
theorem q30 : (Rows.runNumbersRow.veiled == (Tryz.f3.params.toList ++ Rows.runNumbersSpec.plain.varTypes Tryz.prog ++ Tryz.f3.resultTypes.toList).any (Tryz.prog.veiledRec ·)) = true := by kernel_rfl
theorem q31 : Rows.runNumbersRow.veiledFits Tryz.prog Tryz.f3.params.toList (Tryz.f3.params.toList ++ Rows.runNumbersSpec.plain.varTypes Tryz.prog ++ Tryz.f3.resultTypes.toList) = true := by kernel_rfl
theorem closed : joinedFacts Tryz.prog 3 Tryz.f3 Rows.runNumbersSpec Rows.runNumbersRow = true := (Facts.and2 (Facts.and2 (Facts.and2 (Facts.and2 (Facts.and2 (Facts.and2 (Facts.and2 (Facts.and2 (Facts.and2 (Facts.and2 (Facts.and2 (Facts.and2 (Facts.and2 (Facts.and2 (Facts.and2 (Facts.and2 (Facts.and2 (Facts.and2 (Facts.and2 (Facts.and2 (Facts.and2 (Facts.and2 (Facts.and2 (Facts.and2 (Facts.and2 (Facts.and2 (Facts.and2 (Facts.and2 (Facts.and2 (Facts.and2 (Facts.and2 q0 Facts.q1) Facts.q2) q3) q4) q5) Facts.q6) q7) Facts.q8) q9) q10) q11) q12) q13) q14) q15) q16) q17) q18) q19) q20) q21) q22) q23) Facts.q24) Facts.q25) q26) q27) q28) q29) q30) q31)
end Go.Proofs.YteojiklbcfbliaaGreatDoor.runNumbersFacts
