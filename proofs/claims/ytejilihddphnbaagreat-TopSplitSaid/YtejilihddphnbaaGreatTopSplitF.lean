/-
  The closed facts of the row of TopSplit.
-/
import Derived.Test.YtejilihddphnbaaGreatFacts
import Derived.Test.YtejilihddphnbaaGreatRows
import Derived.JoinedOf
import Derived.KernelRfl
set_option maxRecDepth 100000
set_option linter.unusedVariables false
namespace Go.Proofs.YtejilihddphnbaaGreat.topSplitFacts
open Go.Proofs.YtejilihddphnbaaGreat
theorem q0 : Rows.topSplitRow.wf (OpenSpec.ofChange Rows.topSplitSpec) = true := by kernel_rfl
theorem q3 : Tryz.f6.params.all (Tryz.prog.readableRec ·) = true := by kernel_rfl
theorem q4 : namedTie Tryz.prog Rows.topSplitRow.named Rows.topSplitSpec.vars = true := by kernel_rfl
theorem q5 : (Rows.topSplitRow.stops == []) = true := by kernel_rfl
theorem q7 : (Rows.topSplitRow.knobs == []) = true := by kernel_rfl
theorem q9 : (Rows.topSplitRow.inPlace == Tryz.prog.inPlace 6) = true := by kernel_rfl
theorem q10 : (Rows.topSplitRow.unfollowed == Tryz.prog.unfollowed 6) = true := by kernel_rfl
theorem q11 : (Rows.topSplitRow.recurses == Tryz.prog.recurses 6) = true := by kernel_rfl
theorem q12 : (Rows.topSplitRow.named == Tryz.prog.varsNamed 6) = true := by kernel_rfl
theorem q13 : (Rows.topSplitRow.maps == (Tryz.f6.params.toList ++ Rows.topSplitSpec.plain.varTypes Tryz.prog).any (Tryz.prog.mapsRec ·)) = true := by kernel_rfl
theorem q14 : (Rows.topSplitRow.ifaces == (Tryz.f6.params.toList ++ Rows.topSplitSpec.plain.varTypes Tryz.prog).any (Tryz.prog.ifacesRec ·)) = true := by kernel_rfl
theorem q15 : (Rows.topSplitRow.mapsOut == Tryz.prog.mapsAmong Tryz.f6.resultTypes.toList) = true := by kernel_rfl
theorem q16 : (Rows.topSplitRow.loops == (Tryz.f6.params.toList ++ Rows.topSplitSpec.plain.varTypes Tryz.prog).any (Tryz.prog.loopsFrom ·)) = true := by kernel_rfl
theorem q17 : (Rows.topSplitRow.wideKeys == (Tryz.f6.params.toList ++ Rows.topSplitSpec.plain.varTypes Tryz.prog ++ Tryz.f6.resultTypes.toList).any (Tryz.prog.wideKeysFrom ·)) = true := by kernel_rfl
theorem q18 : Rows.topSplitSpec.vars.all (Tryz.prog.varReadable ·) = true := by kernel_rfl
theorem q19 : Tryz.f6.resultTypes.all (fun t => Tryz.prog.readableRec t && decide (t < Tryz.prog.types.size)) = true := by kernel_rfl
theorem q20 : (Rows.topSplitRow.ifacesOut == Tryz.f6.resultTypes.toList.any (Tryz.prog.ifacesRec ·)) = true := by kernel_rfl
theorem q21 : (Rows.topSplitRow.loopsOut == Tryz.f6.resultTypes.toList.any (Tryz.prog.loopsFrom ·)) = true := by kernel_rfl
theorem q22 : (Rows.topSplitRow.plainKeys == Tryz.prog.plainKeys) = true := by kernel_rfl
theorem q23 : Rows.topSplitRow.shortTexts.isNone = true := by kernel_rfl
theorem q26 : (Rows.topSplitRow.lifted == Tryz.prog.liftsFinal) = true := by kernel_rfl
theorem q27 : (Tryz.prog.make == some Rows.topSplitRow.make) = true := by kernel_rfl
theorem q28 : (Rows.topSplitRow.kinds == (if Rows.topSplitRow.domain.isEmpty then [] else Tryz.f6.params.toList.map fun t => match Tryz.prog.underlying t with | some (.int k) => some k | _ => none)) = true := by kernel_rfl
theorem q29 : (Rows.topSplitRow.pinned == Rows.topSplitRow.pinnedBy) = true := by kernel_rfl
theorem q30 : (Rows.topSplitRow.veiled == (Tryz.f6.params.toList ++ Rows.topSplitSpec.plain.varTypes Tryz.prog ++ Tryz.f6.resultTypes.toList).any (Tryz.prog.veiledRec ·)) = true := by kernel_rfl
theorem q31 : Rows.topSplitRow.veiledFits Tryz.prog Tryz.f6.params.toList (Tryz.f6.params.toList ++ Rows.topSplitSpec.plain.varTypes Tryz.prog ++ Tryz.f6.resultTypes.toList) = true := by kernel_rfl
theorem closed : joinedFacts Tryz.prog 6 Tryz.f6 Rows.topSplitSpec Rows.topSplitRow = true := (Facts.and2 (Facts.and2 (Facts.and2 (Facts.and2 (Facts.and2 (Facts.and2 (Facts.and2 (Facts.and2 (Facts.and2 (Facts.and2 (Facts.and2 (Facts.and2 (Facts.and2 (Facts.and2 (Facts.and2 (Facts.and2 (Facts.and2 (Facts.and2 (Facts.and2 (Facts.and2 (Facts.and2 (Facts.and2 (Facts.and2 (Facts.and2 (Facts.and2 (Facts.and2 (Facts.and2 (Facts.and2 (Facts.and2 (Facts.and2 (Facts.and2 q0 Facts.q1) Facts.q2) q3) q4) q5) Facts.q6) q7) Facts.q8) q9) q10) q11) q12) q13) q14) q15) q16) q17) q18) q19) q20) q21) q22) q23) Facts.q24) Facts.q25) q26) q27) q28) q29) q30) q31)
end Go.Proofs.YtejilihddphnbaaGreat.topSplitFacts
