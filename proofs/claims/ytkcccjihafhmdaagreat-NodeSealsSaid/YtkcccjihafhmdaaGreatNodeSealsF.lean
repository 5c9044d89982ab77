/-
  The closed facts of the row of NodeSeals.
-/
import Derived.Test.YtkcccjihafhmdaaGreatFacts
import Derived.Test.YtkcccjihafhmdaaGreatRows
import Derived.JoinedOf
import Derived.KernelRfl
set_option maxRecDepth 100000
set_option linter.unusedVariables false
namespace Go.Proofs.YtkcccjihafhmdaaGreat.nodeSealsFacts
open Go.Proofs.YtkcccjihafhmdaaGreat
theorem q0 : Rows.nodeSealsRow.wf (OpenSpec.ofChange Rows.nodeSealsSpec) = true := by kernel_rfl
theorem q3 : Tryz.f4.params.all (Tryz.prog.readableRec ·) = true := by kernel_rfl
theorem q4 : namedTie Tryz.prog Rows.nodeSealsRow.named Rows.nodeSealsSpec.vars = true := by kernel_rfl
theorem q5 : (Rows.nodeSealsRow.stops == []) = true := by kernel_rfl
theorem q7 : (Rows.nodeSealsRow.knobs == []) = true := by kernel_rfl
theorem q9 : (Rows.nodeSealsRow.inPlace == Tryz.prog.inPlace 4) = true := by kernel_rfl
theorem q10 : (Rows.nodeSealsRow.unfollowed == Tryz.prog.unfollowed 4) = true := by kernel_rfl
theorem q11 : (Rows.nodeSealsRow.recurses == Tryz.prog.recurses 4) = true := by kernel_rfl
theorem q12 : (Rows.nodeSealsRow.named == Tryz.prog.varsNamed 4) = true := by kernel_rfl
theorem q13 : (Rows.nodeSealsRow.maps == (Tryz.f4.params.toList ++ Rows.nodeSealsSpec.plain.varTypes Tryz.prog).any (Tryz.prog.mapsRec ·)) = true := by kernel_rfl
theorem q14 : (Rows.nodeSealsRow.ifaces == (Tryz.f4.params.toList ++ Rows.nodeSealsSpec.plain.varTypes Tryz.prog).any (Tryz.prog.ifacesRec ·)) = true := by kernel_rfl
theorem q15 : (Rows.nodeSealsRow.mapsOut == Tryz.prog.mapsAmong Tryz.f4.resultTypes.toList) = true := by kernel_rfl
theorem q16 : (Rows.nodeSealsRow.loops == (Tryz.f4.params.toList ++ Rows.nodeSealsSpec.plain.varTypes Tryz.prog).any (Tryz.prog.loopsFrom ·)) = true := by kernel_rfl
theorem q17 : (Rows.nodeSealsRow.wideKeys == (Tryz.f4.params.toList ++ Rows.nodeSealsSpec.plain.varTypes Tryz.prog ++ Tryz.f4.resultTypes.toList).any (Tryz.prog.wideKeysFrom ·)) = true := by kernel_rfl
theorem q18 : Rows.nodeSealsSpec.vars.all (Tryz.prog.varReadable ·) = true := by kernel_rfl
theorem q19 : Tryz.f4.resultTypes.all (fun t => Tryz.prog.readableRec t && decide (t < Tryz.prog.types.size)) = true := by kernel_rfl
theorem q20 : (Rows.nodeSealsRow.ifacesOut == Tryz.f4.resultTypes.toList.any (Tryz.prog.ifacesRec ·)) = true := by kernel_rfl
theorem q21 : (Rows.nodeSealsRow.loopsOut == Tryz.f4.resultTypes.toList.any (Tryz.prog.loopsFrom ·)) = true := by kernel_rfl
theorem q22 : (Rows.nodeSealsRow.plainKeys == Tryz.prog.plainKeys) = true := by kernel_rfl
theorem q23 : Rows.nodeSealsRow.shortTexts.isNone = true := by kernel_rfl
theorem q26 : (Rows.nodeSealsRow.lifted == Tryz.prog.liftsFinal) = true := by kernel_rfl
theorem q27 : (Tryz.prog.make == some Rows.nodeSealsRow.make) = true := by kernel_rfl
theorem q28 : (Rows.nodeSealsRow.kinds == (if Rows.nodeSealsRow.domain.isEmpty then [] else Tryz.f4.params.toList.map fun t => match Tryz.prog.underlying t with | some (.int k) => some k | _ => none)) = true := by kernel_rfl
theorem q29 : (Rows.nodeSealsRow.pinned == Rows.nodeSealsRow.pinnedBy) = true := by kernel_rfl
theorem q30 : (Rows.nodeSealsRow.veiled == (Tryz.f4.params.toList ++ Rows.nodeSealsSpec.plain.varTypes Tryz.prog ++ Tryz.f4.resultTypes.toList).any (Tryz.prog.veiledRec ·)) = true := by kernel_rfl
theorem q31 : Rows.nodeSealsRow.veiledFits Tryz.prog Tryz.f4.params.toList (Tryz.f4.params.toList ++ Rows.nodeSealsSpec.plain.varTypes Tryz.prog ++ Tryz.f4.resultTypes.toList) = true := by kernel_rfl
theorem closed : joinedFacts Tryz.prog 4 Tryz.f4 Rows.nodeSealsSpec Rows.nodeSealsRow = true := (Facts.and2 (Facts.and2 (Facts.and2 (Facts.and2 (Facts.and2 (Facts.and2 (Facts.and2 (Facts.and2 (Facts.and2 (Facts.and2 (Facts.and2 (Facts.and2 (Facts.and2 (Facts.and2 (Facts.and2 (Facts.and2 (Facts.and2 (Facts.and2 (Facts.and2 (Facts.and2 (Facts.and2 (Facts.and2 (Facts.and2 (Facts.and2 (Facts.and2 (Facts.and2 (Facts.and2 (Facts.and2 (Facts.and2 (Facts.and2 (Facts.and2 q0 Facts.q1) Facts.q2) q3) q4) q5) Facts.q6) q7) Facts.q8) q9) q10) q11) q12) q13) q14) q15) q16) q17) q18) q19) q20) q21) q22) q23) Facts.q24) Facts.q25) q26) q27) q28) q29) q30) q31)
end Go.Proofs.YtkcccjihafhmdaaGreat.nodeSealsFacts
