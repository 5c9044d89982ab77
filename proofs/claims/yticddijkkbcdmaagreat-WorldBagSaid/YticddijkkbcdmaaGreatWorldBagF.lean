/-
  The closed facts of the row of WorldBag.
-/
import Derived.Test.YticddijkkbcdmaaGreatFacts
import Derived.Test.YticddijkkbcdmaaGreatRows
import Derived.JoinedOf
import Derived.KernelRfl
set_option maxRecDepth 100000
set_option linter.unusedVariables false
namespace Go.Proofs.YticddijkkbcdmaaGreat.worldBagFacts
open Go.Proofs.YticddijkkbcdmaaGreat
theorem q0:Rows.worldBagRow.wf (OpenSpec.ofChange Rows.worldBagSpec)=true:=by kernel_rfl
theorem q3:Tryz.f3.params.all (Tryz.prog.readableRec ·)=true:=by kernel_rfl
theorem q4:namedTie Tryz.prog Rows.worldBagRow.named Rows.worldBagSpec.vars=true:=by kernel_rfl
theorem q5:(Rows.worldBagRow.stops==[])=true:=by kernel_rfl
theorem q7:(Rows.worldBagRow.knobs==[])=true:=by kernel_rfl
theorem q9:(Rows.worldBagRow.inPlace==Tryz.prog.inPlace 3)=true:=by kernel_rfl
theorem q10:(Rows.worldBagRow.unfollowed==Tryz.prog.unfollowed 3)=true:=by kernel_rfl
theorem q11:(Rows.worldBagRow.recurses==Tryz.prog.recurses 3)=true:=by kernel_rfl
theorem q12:(Rows.worldBagRow.named==Tryz.prog.varsNamed 3)=true:=by kernel_rfl
theorem q13:(Rows.worldBagRow.maps==(Tryz.f3.params.toList++Rows.worldBagSpec.plain.varTypes Tryz.prog).any (Tryz.prog.mapsRec ·))=true:=by kernel_rfl
theorem q14:(Rows.worldBagRow.ifaces==(Tryz.f3.params.toList++Rows.worldBagSpec.plain.varTypes Tryz.prog).any (Tryz.prog.ifacesRec ·))=true:=by kernel_rfl
theorem q15:(Rows.worldBagRow.mapsOut==Tryz.prog.mapsAmong Tryz.f3.resultTypes.toList)=true:=by kernel_rfl
theorem q16:(Rows.worldBagRow.loops==(Tryz.f3.params.toList++Rows.worldBagSpec.plain.varTypes Tryz.prog).any (Tryz.prog.loopsFrom ·))=true:=by kernel_rfl
theorem q17:(Rows.worldBagRow.wideKeys==(Tryz.f3.params.toList++Rows.worldBagSpec.plain.varTypes Tryz.prog++Tryz.f3.resultTypes.toList).any (Tryz.prog.wideKeysFrom ·))=true:=by kernel_rfl
theorem q18:Rows.worldBagSpec.vars.all (Tryz.prog.varReadable ·)=true:=by kernel_rfl
theorem q19:Tryz.f3.resultTypes.all (fun t=>Tryz.prog.readableRec t&&decide (t<Tryz.prog.types.size))=true:=by kernel_rfl
theorem q20:(Rows.worldBagRow.ifacesOut==Tryz.f3.resultTypes.toList.any (Tryz.prog.ifacesRec ·))=true:=by kernel_rfl
theorem q21:(Rows.worldBagRow.loopsOut==Tryz.f3.resultTypes.toList.any (Tryz.prog.loopsFrom ·))=true:=by kernel_rfl
theorem q22:(Rows.worldBagRow.plainKeys==Tryz.prog.plainKeys)=true:=by kernel_rfl
theorem q23:Rows.worldBagRow.shortTexts.isNone=true:=by kernel_rfl
theorem q26:(Rows.worldBagRow.lifted==Tryz.prog.liftsFinal)=true:=by kernel_rfl
theorem q27:(Tryz.prog.make==some Rows.worldBagRow.make)=true:=by kernel_rfl
theorem q28:(Rows.worldBagRow.kinds==(if Rows.worldBagRow.domain.isEmpty then[]else Tryz.f3.params.toList.map fun t=>match Tryz.prog.underlying t with|some (.int k)=>some k|_=>none))=true:=by kernel_rfl
theorem q29:(Rows.worldBagRow.pinned==Rows.worldBagRow.pinnedBy)=true:=by kernel_rfl
theorem q30:(Rows.worldBagRow.veiled==(Tryz.f3.params.toList++Rows.worldBagSpec.plain.varTypes Tryz.prog++Tryz.f3.resultTypes.toList).any (Tryz.prog.veiledRec ·))=true:=by kernel_rfl
theorem q31:Rows.worldBagRow.veiledFits Tryz.prog Tryz.f3.params.toList (Tryz.f3.params.toList++Rows.worldBagSpec.plain.varTypes Tryz.prog++Tryz.f3.resultTypes.toList)=true:=by kernel_rfl
theorem closed:joinedFacts Tryz.prog 3 Tryz.f3 Rows.worldBagSpec Rows.worldBagRow=true:=(Facts.and2 (Facts.and2 (Facts.and2 (Facts.and2 (Facts.and2 (Facts.and2 (Facts.and2 (Facts.and2 (Facts.and2 (Facts.and2 (Facts.and2 (Facts.and2 (Facts.and2 (Facts.and2 (Facts.and2 (Facts.and2 (Facts.and2 (Facts.and2 (Facts.and2 (Facts.and2 (Facts.and2 (Facts.and2 (Facts.and2 (Facts.and2 (Facts.and2 (Facts.and2 (Facts.and2 (Facts.and2 (Facts.and2 (Facts.and2 (Facts.and2 q0 Facts.q1) Facts.q2) q3) q4) q5) Facts.q6) q7) Facts.q8) q9) q10) q11) q12) q13) q14) q15) q16) q17) q18) q19) q20) q21) q22) q23) Facts.q24) Facts.q25) q26) q27) q28) q29) q30) q31)
end Go.Proofs.YticddijkkbcdmaaGreat.worldBagFacts
