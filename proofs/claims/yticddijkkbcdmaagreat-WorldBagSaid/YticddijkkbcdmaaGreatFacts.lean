/-
  What the rows ask of the program alone.
-/
import Derived.Test.YticddijkkbcdmaaGreatRows
import Derived.JoinedOf
import Derived.KernelRfl
set_option linter.unusedVariables false
set_option linter.unusedSimpArgs false
noncomputable section
noncomputable section
set_option maxRecDepth 100000
namespace Go.Proofs.YticddijkkbcdmaaGreat.Facts
theorem and2 {a b:Bool} (ha:a=true) (hb:b=true):(a&&b)=true:=by rw[ha,hb];rfl
theorem q1:laidOutB Tryz.prog=true:=by kernel_rfl
theorem q2:mapsRowed Tryz.prog=true:=by kernel_rfl
theorem q6:(Tryz.prog.stops==[])=true:=by kernel_rfl
theorem q8:(Tryz.prog.stopKnobs==[])=true:=by kernel_rfl
theorem q24:Tryz.prog.stopsHeard=true:=by kernel_rfl
theorem q25:Tryz.prog.mayEnter=true:=by kernel_rfl
end Go.Proofs.YticddijkkbcdmaaGreat.Facts
