/-
  The closed facts of the row of NodeForms.
-/
import Derived.Test.YtkcccjihafhmdaaGreatFacts
import Derived.Test.YtkcccjihafhmdaaGreatRows
import Derived.JoinedOf
import Derived.KernelRfl
set_option maxRecDepth 100000
set_option linter.unusedVariables false
namespace Go.Proofs.YtkcccjihafhmdaaGreat.nodeFormsFacts
open Go.Proofs.YtkcccjihafhmdaaGreat
theorem q0 : Rows.nodeFormsRow.wf (OpenSpec.ofChange Rows.nodeFormsSpec) = true := by kernel_rfl
theorem q3 : Tryz.f6.params.all (Tryz.prog.readableRec ·) = true := by kernel_rfl
theorem q4 : namedTie Tryz.prog Rows.nodeFormsRow.named Rows.nodeFormsSpec.vars = true := by kernel_rfl
theorem q5 : (Rows.nodeFormsRow.stops == []) = true := by kernel_rfl
theorem q7 : (Rows.nodeFormsRow.knobs == []) = true := by kernel_rfl
theorem q9 : (Rows.nodeFormsRow.inPlace == Tryz.prog.inPlace 6) = true := by kernel_rfl
theorem q10 : (Rows.nodeFormsRow.unfollowed == Tryz.prog.unfollowed 6) = true := by kernel_rfl
theorem q11 : (Rows.nodeFormsRow.recurses == Tryz.prog.recurses 6) = true := by kernel_rfl
theorem q12 : (Rows.nodeFormsRow.named == Tryz.prog.varsNamed 6) = true := by kernel_rfl
theorem q13 : (Rows.nodeFormsRow.maps == (Tryz.f6.params.toList ++ Rows.nodeFormsSpec.plain.varTypes Tryz.prog).any (Tryz.prog.mapsRec ·)) = true := by kernel_rfl
theorem q14 : (Rows.nodeFormsRow.ifaces == (Tryz.f6.params.toList ++ Rows.nodeFormsSpec.plain.varTypes Tryz.prog).any (Tryz.prog.ifacesRec ·)) = true := by kernel_rfl
theorem q15 : (Rows.nodeFormsRow.mapsOut == Tryz.prog.mapsAmong Tryz.f6.resultTypes.toList) = true := by kernel_rfl
theorem q16 : (Rows.nodeFormsRow.loops == (Tryz.f6.params.toList ++ Rows.nodeFormsSpec.plain.varTypes Tryz.prog).any (Tryz.prog.loopsFrom ·)) = true := by kernel_rfl
theorem q17 : (Rows.nodeFormsRow.wideKeys == (Tryz.f6.params.toList ++ Rows.nodeFormsSpec.plain.varTypes Tryz.prog ++ Tryz.f6.resultTypes.toList).any (Tryz.prog.wideKeysFrom ·)) = true := by kernel_rfl
theorem q18 : Rows.nodeFormsSpec.vars.all (Tryz.prog.varReadable ·) = true := by kernel_rfl
theorem q19 : Tryz.f6.resultTypes.all (fun t => Tryz.prog.readableRec t && decide (t < Tryz.prog.types.size)) = true := by kernel_rfl
theorem q20 : (Rows.nodeFormsRow.ifacesOut == Tryz.f6.resultTypes.toList.any (Tryz.prog.ifacesRec ·)) = true := by kernel_rfl
theorem q21 : (Rows.nodeFormsRow.loopsOut == Tryz.f6.resultTypes.toList.any (Tryz.prog.loopsFrom ·)) = true := by kernel_rfl
theorem q22 : (Rows.nodeFormsRow.plainKeys == Tryz.prog.plainKeys) = true := by kernel_rfl
theorem q23 : Rows.nodeFormsRow.shortTexts.isNone = true := by kernel_rfl
theorem q26 : (Rows.nodeFormsRow.lifted == Tryz.prog.liftsFinal) = true := by kernel_rfl
theorem q27 : (Tryz.prog.make == some Rows.nodeFormsRow.make) = true := by kernel_rfl
theorem q28 : (Rows.nodeFormsRow.kinds == (if Rows.nodeFormsRow.domain.isEmpty then [] else Tryz.f6.params.toList.map fun t => match Tryz.prog.underlying t with | some (.int k) => some k | _ => none)) = true := by kernel_rfl
theorem q29 : (Rows.nodeFormsRow.pinned == Rows.nodeFormsRow.pinnedBy) = true := by kernel_rfl
theorem q30 : (Rows.nodeFormsRow.veiled == (Tryz.f6.params.toList ++ Rows.nodeFormsSpec.plain.varTypes Tryz.prog ++ Tryz.f6.resultTypes.toList).any (Tryz.prog.veiledRec ·)) = true := by kernel_rfl
theorem q31 : Rows.nodeFormsRow.veiledFits Tryz.prog Tryz.f6.params.toList (Tryz.f6.params.toList ++ Rows.nodeFormsSpec.plain.varTypes Tryz.prog ++ Tryz.f6.resultTypes.toList) = true := by kernel_rfl
theorem closed : joinedFacts Tryz.prog 6 Tryz.f6 Rows.nodeFormsSpec Rows.nodeFormsRow = true := (Facts.and2 (Facts.and2 (Facts.and2 (Facts.and2 (Facts.and2 (Facts.and2 (Facts.and2 (Facts.and2 (Facts.and2 (Facts.and2 (Facts.and2 (Facts.and2 (Facts.and2 (Facts.and2 (Facts.and2 (Facts.and2 (Facts.and2 (Facts.and2 (Facts.and2 (Facts.and2 (Facts.and2 (Facts.and2 (Facts.and2 (Facts.and2 (Facts.and2 (Facts.and2 (Facts.and2 (Facts.and2 (Facts.and2 (Facts.and2 (Facts.and2 q0 Facts.q1) Facts.q2) q3) q4) q5) Facts.q6) q7) Facts.q8) q9) q10) q11) q12) q13) q14) q15) q16) q17) q18) q19) q20) q21) q22) q23) Facts.q24) Facts.q25) q26) q27) q28) q29) q30) q31)
end Go.Proofs.YtkcccjihafhmdaaGreat.nodeFormsFacts
