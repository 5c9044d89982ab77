/-
  What every law of a chapter begins with: cachettop.awake.
-/
import Derived.Test.YtejilihddphnbaaGreatBase
import Derived.KernelRfl
set_option maxRecDepth 1000000
namespace Go.Proofs.YtejilihddphnbaaGreat.Ev
open Go.Ev Go.Proofs
theorem awakeRunsT : hcall (noOrc zz) KT0.find FT.find 60 24 [] (fun _ => none) [] 0 isR [] = true := by kernel_rfl
theorem awakeT : SaysTrue Tryz.prog 24 := fun w => lawH (T := TT fun _ => 0) (val := fun _ => 0) zz_not isR_elim (noOrc_ok zz_not _) mixed (KTree.ok (kt0Ok _ _)) ftOk ⟨[], (fun j p h => by simp at h), awakeRunsT⟩ w [] trivial
noncomputable def KT1T : KTree := (.node 225 (wsK 306 5) (.node 177 syK (.node 107 (puK (noOrc zz) (hcall (noOrc zz) KT00.find FT.find 50) putBody putRes) (.node 24 (trueK zz) .nil .nil) (.node 176 hsK .nil .nil)) (.node 195 mcK (.node 194 frK .nil .nil) .nil)) (.node 237 (srtK 283 true 3) (.node 227 (bsK 306 5) (.node 226 (blK 306) .nil .nil) .nil) (.node 346 csK (.node 238 (mkK 283) .nil .nil) .nil)))
noncomputable def K1T : Nat → Option (Contract RR) := KT1T.find
theorem k1OkT (m : Nat → Nat) (val : Nat → Int) : ∀ f c, K1T f = some c → ContractOk (TT m) Tryz.prog val f c :=
  KTree.ok (t := KT1T) ⟨c225 m val, ⟨c177 m val, ⟨c107 m val, ⟨trueK_ok zz_not (by kernel_rfl) awakeT, trivial, trivial⟩, ⟨c176 m val, trivial, trivial⟩⟩, ⟨c195 m val, ⟨c194 m val, trivial, trivial⟩, trivial⟩⟩, ⟨c237 m val, ⟨c227 m val, ⟨c226 m val, trivial, trivial⟩, trivial⟩, ⟨c346 m val, ⟨c238 m val, trivial, trivial⟩, trivial⟩⟩⟩
end Go.Proofs.YtejilihddphnbaaGreat.Ev
