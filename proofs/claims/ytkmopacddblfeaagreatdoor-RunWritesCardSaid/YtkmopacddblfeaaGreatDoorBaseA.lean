/-
  What every law of the chapter begins with.
-/
import Derived.Test.YtkmopacddblfeaaGreatDoorBase
set_option linter.unusedVariables false
set_option linter.unusedSimpArgs false
noncomputable section
set_option maxRecDepth 1000000
namespace Go.Proofs.YtkmopacddblfeaaGreatDoor.Ev
open Go.Ev Go.Proofs
theorem awakeRuns : hcall (noOrc zz) KT0.find FT.find 60 6 [] (gFz 0 1 3) [] 3 isR [] = true:=by kernel_rfl
theorem awakeG : SaysTrueG Tryz.prog 0 1 3 6:=λw hw=>lawG (T:=TT λ_=>0) (val:=λ_=>0) zz_not isR_elim (noOrc_ok zz_not _) mixed (KTree.ok (kt0Ok _ _)) ftOk ⟨[],(λj p h=>by simp at h),awakeRuns⟩ w hw [] trivial
def KT1 : KTree:=(.node 56 hxK (.node 23 (bsK 68 5) (.node 12 (cutK 0) (.node 10 (rnK (noOrc zz) (hcall (noOrc zz) KT01.find FT.find 50) runBody runRes) (.node 6 (trueG 0 1 3) .nil .nil) .nil) (.node 22 (wsK 68 5) (.node 13 nmK .nil .nil) .nil)) (.node 31 (itK 3) (.node 28 (blK 68) (.node 27 ctK .nil .nil) .nil) (.node 32 (splitK 0) .nil .nil))) (.node 189 syK (.node 159 (mkK 231) (.node 158 (srtK 231 true 3) (.node 63 ibK .nil .nil) .nil) (.node 188 hsK .nil .nil)) (.node 269 mcK (.node 268 frK (.node 208 (puK (noOrc zz) (hcall (noOrc zz) KT00.find FT.find 50) putBody putRes) .nil .nil) .nil) (.node 384 csK .nil .nil))))
def K1 : Nat → Option (Contract RR):=KT1.find
theorem k1Ok (m : Nat → Nat) (val : Nat → Int) : ∀ f c,K1 f = some c → ContractOk (TT m) Tryz.prog val f c :=
 KTree.ok (t:=KT1) ⟨c56 m val,⟨c23 m val,⟨c12 m val,⟨c10 m val,⟨(trueG_ok zz_not (by kernel_rfl) awakeG),trivial,trivial⟩,trivial⟩,⟨c22 m val,⟨c13 m val,trivial,trivial⟩,trivial⟩⟩,⟨c31 m val,⟨c28 m val,⟨c27 m val,trivial,trivial⟩,trivial⟩,⟨c32 m val,trivial,trivial⟩⟩⟩,⟨c189 m val,⟨c159 m val,⟨c158 m val,⟨c63 m val,trivial,trivial⟩,trivial⟩,⟨c188 m val,trivial,trivial⟩⟩,⟨c269 m val,⟨c268 m val,⟨c208 m val,trivial,trivial⟩,trivial⟩,⟨c384 m val,trivial,trivial⟩⟩⟩⟩
end Go.Proofs.YtkmopacddblfeaaGreatDoor.Ev
