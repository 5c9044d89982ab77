/-
  What every law of a chapter begins with: cachetlaw23.awake.
-/
import Derived.Test.YtkmopacddblfeaaGreatBase
import Derived.KernelRfl
set_option linter.unusedVariables false
set_option linter.unusedSimpArgs false
noncomputable section
set_option maxRecDepth 1000000
namespace Go.Proofs.YtkmopacddblfeaaGreat.Ev
open Go.Ev Go.Proofs
theorem awakeRunsW : hcall (noOrc zz) KT0.find FT.find 60 4 [] (λ_=>none) [] 0 isR [] = true:=by kernel_rfl
theorem awakeW : SaysTrue Tryz.prog 4:=λw=>lawH (T:=TT λ_=>0) (val:=λ_=>0) zz_not isR_elim (noOrc_ok zz_not _) mixed (KTree.ok (kt0Ok _ _)) ftOk ⟨[],(λj p h=>by simp at h),awakeRunsW⟩ w [] trivial
def KT1W : KTree:=(.node 134 syK (.node 127 (wsK 208 5) (.node 113 (srtK 177 true 3) (.node 4 (trueK zz) .nil .nil) (.node 114 (mkK 177) .nil .nil)) (.node 133 hsK (.node 129 (bsK 208 5) .nil .nil) .nil)) (.node 209 mcK (.node 180 (blK 208) (.node 154 (puK (noOrc zz) (hcall (noOrc zz) KT00.find FT.find 50) putBody putRes) .nil .nil) (.node 208 frK .nil .nil)) (.node 324 csK (.node 285 (laK 286 (hcall (noOrc zz) KT00.find FT.find 50)) .nil .nil) .nil)))
def K1W : Nat → Option (Contract RR):=KT1W.find
theorem k1OkW (m : Nat → Nat) (val : Nat → Int) : ∀ f c,K1W f = some c → ContractOk (TT m) Tryz.prog val f c :=
 KTree.ok (t:=KT1W) ⟨c134 m val,⟨c127 m val,⟨c113 m val,⟨trueK_ok zz_not (by kernel_rfl) awakeW,trivial,trivial⟩,⟨c114 m val,trivial,trivial⟩⟩,⟨c133 m val,⟨c129 m val,trivial,trivial⟩,trivial⟩⟩,⟨c209 m val,⟨c180 m val,⟨c154 m val,trivial,trivial⟩,⟨c208 m val,trivial,trivial⟩⟩,⟨c324 m val,⟨c285 m val,trivial,trivial⟩,trivial⟩⟩⟩
end Go.Proofs.YtkmopacddblfeaaGreat.Ev
