/-
  What every law of the chapter begins with.
-/
import Derived.Test.YthklkhndoojmfaaGreatDoorBase
set_option linter.unusedVariables false
set_option linter.unusedSimpArgs false
noncomputable section
set_option maxRecDepth 1000000
namespace Go.Proofs.YthklkhndoojmfaaGreatDoor.Ev
open Go.Ev Go.Proofs
theorem awakeRuns:hcall (noOrc zz) KT0.find FT.find 60 4 [] (gFz 0 1 3) [] 3 isR []=true:=by kernel_rfl
theorem awakeG:SaysTrueG Tryz.prog 0 1 3 4:=λw hw=>lawG (T:=TT λ_=>0) (val:=λ_=>0) zz_not isR_elim (noOrc_ok zz_not _) mixed (KTree.ok (kt0Ok _ _)) ftOk ⟨[],(λj p h=>by simp at h),awakeRuns⟩ w hw [] trivial
end Go.Proofs.YthklkhndoojmfaaGreatDoor.Ev
