/-
  What every law of the chapter begins with.
-/
import Derived.Test.YteojiklbcfbliaaGreatDoorBase
set_option linter.unusedVariables false
set_option linter.unusedSimpArgs false
noncomputable section
set_option maxRecDepth 1000000
namespace Go.Proofs.YteojiklbcfbliaaGreatDoor.Ev
open Go.Ev Go.Proofs
theorem awakeRuns : hcall (noOrc zz) KT0.find FT.find 60 4 [] (gFz 0 1 3) [] 3 isR [] = true:=by kernel_rfl
theorem awakeG : SaysTrueG Tryz.prog 0 1 3 4:=λw hw=>lawG (T:=TT λ_=>0) (val:=λ_=>0) zz_not isR_elim (noOrc_ok zz_not _) mixed (KTree.ok (kt0Ok _ _)) ftOk ⟨[],(λj p h=>by simp at h),awakeRuns⟩ w hw [] trivial
def KT1 : KTree:=(.node 29 (itK 3) (.node 13 (wsK 52 5) (.node 10 (cutK 0) (.node 9 (rnK (noOrc zz) (hcall (noOrc zz) KT00.find FT.find 50) runBody runRes) (.node 4 (trueG 0 1 3) .nil .nil) .nil) (.node 11 nmK .nil .nil)) (.node 19 (blK 52) (.node 18 ctK .nil .nil) (.node 20 (bsK 52 5) .nil .nil))) (.node 157 (mkK 229) (.node 61 ibK (.node 36 hxK (.node 30 (splitK 0) .nil .nil) .nil) (.node 156 (srtK 229 true 3) .nil .nil)) (.node 187 syK (.node 186 hsK .nil .nil) (.node 382 csK .nil .nil))))
def K1 : Nat → Option (Contract RR):=KT1.find
theorem k1Ok (m : Nat → Nat) (val : Nat → Int) : ∀ f c,K1 f = some c → ContractOk (TT m) Tryz.prog val f c :=
 KTree.ok (t:=KT1) ⟨c29 m val,⟨c13 m val,⟨c10 m val,⟨c9 m val,⟨(trueG_ok zz_not (by kernel_rfl) awakeG),trivial,trivial⟩,trivial⟩,⟨c11 m val,trivial,trivial⟩⟩,⟨c19 m val,⟨c18 m val,trivial,trivial⟩,⟨c20 m val,trivial,trivial⟩⟩⟩,⟨c157 m val,⟨c61 m val,⟨c36 m val,⟨c30 m val,trivial,trivial⟩,trivial⟩,⟨c156 m val,trivial,trivial⟩⟩,⟨c187 m val,⟨c186 m val,trivial,trivial⟩,⟨c382 m val,trivial,trivial⟩⟩⟩⟩
end Go.Proofs.YteojiklbcfbliaaGreatDoor.Ev
