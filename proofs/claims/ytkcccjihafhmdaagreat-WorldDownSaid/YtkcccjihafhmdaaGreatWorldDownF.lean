/-
  The closed facts of the row of WorldDown.
-/
import Derived.Test.YtkcccjihafhmdaaGreatFacts
import Derived.Test.YtkcccjihafhmdaaGreatRows
import Derived.JoinedOf
import Derived.KernelRfl
set_option maxRecDepth 100000
set_option linter.unusedVariables false
namespace Go.Proofs.YtkcccjihafhmdaaGreat.worldDownFacts
open Go.Proofs.YtkcccjihafhmdaaGreat
theorem q0 : Rows.worldDownRow.wf (OpenSpec.ofChange Rows.worldDownSpec) = true := by kernel_rfl
theorem q3 : Tryz.f8.params.all (Tryz.prog.readableRec ·) = true := by kernel_rfl
theorem q4 : namedTie Tryz.prog Rows.worldDownRow.named Rows.worldDownSpec.vars = true := by kernel_rfl
theorem q5 : (Rows.worldDownRow.stops == []) = true := by kernel_rfl
theorem q7 : (Rows.worldDownRow.knobs == []) = true := by kernel_rfl
theorem q9 : (Rows.worldDownRow.inPlace == Tryz.prog.inPlace 8) = true := by kernel_rfl
theorem q10 : (Rows.worldDownRow.unfollowed == Tryz.prog.unfollowed 8) = true := by kernel_rfl
theorem q11 : (Rows.worldDownRow.recurses == Tryz.prog.recurses 8) = true := by kernel_rfl
theorem q12 : (Rows.worldDownRow.named == Tryz.prog.varsNamed 8) = true := by kernel_rfl
theorem q13 : (Rows.worldDownRow.maps == (Tryz.f8.params.toList ++ Rows.worldDownSpec.plain.varTypes Tryz.prog).any (Tryz.prog.mapsRec ·)) = true := by kernel_rfl
theorem q14 : (Rows.worldDownRow.ifaces == (Tryz.f8.params.toList ++ Rows.worldDownSpec.plain.varTypes Tryz.prog).any (Tryz.prog.ifacesRec ·)) = true := by kernel_rfl
theorem q15 : (Rows.worldDownRow.mapsOut == Tryz.prog.mapsAmong Tryz.f8.resultTypes.toList) = true := by kernel_rfl
theorem q16 : (Rows.worldDownRow.loops == (Tryz.f8.params.toList ++ Rows.worldDownSpec.plain.varTypes Tryz.prog).any (Tryz.prog.loopsFrom ·)) = true := by kernel_rfl
theorem q17 : (Rows.worldDownRow.wideKeys == (Tryz.f8.params.toList ++ Rows.worldDownSpec.plain.varTypes Tryz.prog ++ Tryz.f8.resultTypes.toList).any (Tryz.prog.wideKeysFrom ·)) = true := by kernel_rfl
theorem q18 : Rows.worldDownSpec.vars.all (Tryz.prog.varReadable ·) = true := by kernel_rfl
theorem q19 : Tryz.f8.resultTypes.all (fun t => Tryz.prog.readableRec t && decide (t < Tryz.prog.types.size)) = true := by kernel_rfl
theorem q20 : (Rows.worldDownRow.ifacesOut == Tryz.f8.resultTypes.toList.any (Tryz.prog.ifacesRec ·)) = true := by kernel_rfl
theorem q21 : (Rows.worldDownRow.loopsOut == Tryz.f8.resultTypes.toList.any (Tryz.prog.loopsFrom ·)) = true := by kernel_rfl
theorem q22 : (Rows.worldDownRow.plainKeys == Tryz.prog.plainKeys) = true := by kernel_rfl
theorem q23 : Rows.worldDownRow.shortTexts.isNone = true := by kernel_rfl
theorem q26 : (Rows.worldDownRow.lifted == Tryz.prog.liftsFinal) = true := by kernel_rfl
theorem q27 : (Tryz.prog.make == some Rows.worldDownRow.make) = true := by kernel_rfl
theorem q28 : (Rows.worldDownRow.kinds == (if Rows.worldDownRow.domain.isEmpty then [] else Tryz.f8.params.toList.map fun t => match Tryz.prog.underlying t with | some (.int k) => some k | _ => none)) = true := by kernel_rfl
theorem q29 : (Rows.worldDownRow.pinned == Rows.worldDownRow.pinnedBy) = true := by kernel_rfl
theorem q30 : (Rows.worldDownRow.veiled == (Tryz.f8.params.toList ++ Rows.worldDownSpec.plain.varTypes Tryz.prog ++ Tryz.f8.resultTypes.toList).any (Tryz.prog.veiledRec ·)) = true := by kernel_rfl
theorem q31 : Rows.worldDownRow.veiledFits Tryz.prog Tryz.f8.params.toList (Tryz.f8.params.toList ++ Rows.worldDownSpec.plain.varTypes Tryz.prog ++ Tryz.f8.resultTypes.toList) = true := by kernel_rfl
theorem closed : joinedFacts Tryz.prog 8 Tryz.f8 Rows.worldDownSpec Rows.worldDownRow = true := (Facts.and2 (Facts.and2 (Facts.and2 (Facts.and2 (Facts.and2 (Facts.and2 (Facts.and2 (Facts.and2 (Facts.and2 (Facts.and2 (Facts.and2 (Facts.and2 (Facts.and2 (Facts.and2 (Facts.and2 (Facts.and2 (Facts.and2 (Facts.and2 (Facts.and2 (Facts.and2 (Facts.and2 (Facts.and2 (Facts.and2 (Facts.and2 (Facts.and2 (Facts.and2 (Facts.and2 (Facts.and2 (Facts.and2 (Facts.and2 (Facts.and2 q0 Facts.q1) Facts.q2) q3) q4) q5) Facts.q6) q7) Facts.q8) q9) q10) q11) q12) q13) q14) q15) q16) q17) q18) q19) q20) q21) q22) q23) Facts.q24) Facts.q25) q26) q27) q28) q29) q30) q31)
end Go.Proofs.YtkcccjihafhmdaaGreat.worldDownFacts
