/-
  The closed facts of the row of NodeTries.
-/
import Derived.Test.YtbhmncahmdidiaaGreatFacts
import Derived.Test.YtbhmncahmdidiaaGreatRows
import Derived.JoinedOf
import Derived.KernelRfl
set_option maxRecDepth 100000
set_option linter.unusedVariables false
namespace Go.Proofs.YtbhmncahmdidiaaGreat.nodeTriesFacts
open Go.Proofs.YtbhmncahmdidiaaGreat
theorem q0 : Rows.nodeTriesRow.wf (OpenSpec.ofChange Rows.nodeTriesSpec) = true := by kernel_rfl
theorem q3 : Tryz.f4.params.all (Tryz.prog.readableRec ·) = true := by kernel_rfl
theorem q4 : namedTie Tryz.prog Rows.nodeTriesRow.named Rows.nodeTriesSpec.vars = true := by kernel_rfl
theorem q5 : (Rows.nodeTriesRow.stops == []) = true := by kernel_rfl
theorem q7 : (Rows.nodeTriesRow.knobs == []) = true := by kernel_rfl
theorem q9 : (Rows.nodeTriesRow.inPlace == Tryz.prog.inPlace 4) = true := by kernel_rfl
theorem q10 : (Rows.nodeTriesRow.unfollowed == Tryz.prog.unfollowed 4) = true := by kernel_rfl
theorem q11 : (Rows.nodeTriesRow.recurses == Tryz.prog.recurses 4) = true := by kernel_rfl
theorem q12 : (Rows.nodeTriesRow.named == Tryz.prog.varsNamed 4) = true := by kernel_rfl
theorem q13 : (Rows.nodeTriesRow.maps == (Tryz.f4.params.toList ++ Rows.nodeTriesSpec.plain.varTypes Tryz.prog).any (Tryz.prog.mapsRec ·)) = true := by kernel_rfl
theorem q14 : (Rows.nodeTriesRow.ifaces == (Tryz.f4.params.toList ++ Rows.nodeTriesSpec.plain.varTypes Tryz.prog).any (Tryz.prog.ifacesRec ·)) = true := by kernel_rfl
theorem q15 : (Rows.nodeTriesRow.mapsOut == Tryz.prog.mapsAmong Tryz.f4.resultTypes.toList) = true := by kernel_rfl
theorem q16 : (Rows.nodeTriesRow.loops == (Tryz.f4.params.toList ++ Rows.nodeTriesSpec.plain.varTypes Tryz.prog).any (Tryz.prog.loopsFrom ·)) = true := by kernel_rfl
theorem q17 : (Rows.nodeTriesRow.wideKeys == (Tryz.f4.params.toList ++ Rows.nodeTriesSpec.plain.varTypes Tryz.prog ++ Tryz.f4.resultTypes.toList).any (Tryz.prog.wideKeysFrom ·)) = true := by kernel_rfl
theorem q18 : Rows.nodeTriesSpec.vars.all (Tryz.prog.varReadable ·) = true := by kernel_rfl
theorem q19 : Tryz.f4.resultTypes.all (fun t => Tryz.prog.readableRec t && decide (t < Tryz.prog.types.size)) = true := by kernel_rfl
theorem q20 : (Rows.nodeTriesRow.ifacesOut == Tryz.f4.resultTypes.toList.any (Tryz.prog.ifacesRec ·)) = true := by kernel_rfl
theorem q21 : (Rows.nodeTriesRow.loopsOut == Tryz.f4.resultTypes.toList.any (Tryz.prog.loopsFrom ·)) = true := by kernel_rfl
theorem q22 : (Rows.nodeTriesRow.plainKeys == Tryz.prog.plainKeys) = true := by kernel_rfl
theorem q23 : Rows.nodeTriesRow.shortTexts.isNone = true := by kernel_rfl
theorem q26 : (Rows.nodeTriesRow.lifted == Tryz.prog.liftsFinal) = true := by kernel_rfl
theorem q27 : (Tryz.prog.make == some Rows.nodeTriesRow.make) = true := by kernel_rfl
theorem q28 : (Rows.nodeTriesRow.kinds == (if Rows.nodeTriesRow.domain.isEmpty then [] else Tryz.f4.params.toList.map fun t => match Tryz.prog.underlying t with | some (.int k) => some k | _ => none)) = true := by kernel_rfl
theorem q29 : (Rows.nodeTriesRow.pinned == Rows.nodeTriesRow.pinnedBy) = true := by kernel_rfl
theorem q30 : (Rows.nodeTriesRow.veiled == (Tryz.f4.params.toList ++ Rows.nodeTriesSpec.plain.varTypes Tryz.prog ++ Tryz.f4.resultTypes.toList).any (Tryz.prog.veiledRec ·)) = true := by kernel_rfl
theorem q31 : Rows.nodeTriesRow.veiledFits Tryz.prog Tryz.f4.params.toList (Tryz.f4.params.toList ++ Rows.nodeTriesSpec.plain.varTypes Tryz.prog ++ Tryz.f4.resultTypes.toList) = true := by kernel_rfl
theorem closed : joinedFacts Tryz.prog 4 Tryz.f4 Rows.nodeTriesSpec Rows.nodeTriesRow = true := (Facts.and2 (Facts.and2 (Facts.and2 (Facts.and2 (Facts.and2 (Facts.and2 (Facts.and2 (Facts.and2 (Facts.and2 (Facts.and2 (Facts.and2 (Facts.and2 (Facts.and2 (Facts.and2 (Facts.and2 (Facts.and2 (Facts.and2 (Facts.and2 (Facts.and2 (Facts.and2 (Facts.and2 (Facts.and2 (Facts.and2 (Facts.and2 (Facts.and2 (Facts.and2 (Facts.and2 (Facts.and2 (Facts.and2 (Facts.and2 (Facts.and2 q0 Facts.q1) Facts.q2) q3) q4) q5) Facts.q6) q7) Facts.q8) q9) q10) q11) q12) q13) q14) q15) q16) q17) q18) q19) q20) q21) q22) q23) Facts.q24) Facts.q25) q26) q27) q28) q29) q30) q31)
end Go.Proofs.YtbhmncahmdidiaaGreat.nodeTriesFacts
