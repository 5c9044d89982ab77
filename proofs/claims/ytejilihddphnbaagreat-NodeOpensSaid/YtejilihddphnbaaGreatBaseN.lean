/-
  What every law of a chapter begins with: cachetlaw22.awake.
-/
import Derived.Test.YtejilihddphnbaaGreatBase
import Derived.KernelRfl
set_option maxRecDepth 1000000
namespace Go.Proofs.YtejilihddphnbaaGreat.Ev
open Go.Ev Go.Proofs
theorem awakeRunsN : hcall (noOrc zz) KT0.find FT.find 60 7 [] (fun _ => none) [] 0 isR [] = true := by kernel_rfl
theorem awakeN : SaysTrue Tryz.prog 7 := fun w => lawH (T := TT fun _ => 0) (val := fun _ => 0) zz_not isR_elim (noOrc_ok zz_not _) mixed (KTree.ok (kt0Ok _ _)) ftOk ⟨[], (fun j p h => by simp at h), awakeRunsN⟩ w [] trivial
noncomputable def KT1N : KTree := (.node 195 mcK (.node 176 hsK (.node 59 (laK 133 (hcall (noOrc zz) KT00.find FT.find 50)) (.node 7 (trueK zz) .nil .nil) (.node 107 (puK (noOrc zz) (hcall (noOrc zz) KT00.find FT.find 50) putBody putRes) .nil .nil)) (.node 194 frK (.node 177 syK .nil .nil) .nil)) (.node 237 (srtK 283 true 3) (.node 226 (blK 306) (.node 225 (wsK 306 5) .nil .nil) (.node 227 (bsK 306 5) .nil .nil)) (.node 346 csK (.node 238 (mkK 283) .nil .nil) .nil)))
noncomputable def K1N : Nat → Option (Contract RR) := KT1N.find
theorem k1OkN (m : Nat → Nat) (val : Nat → Int) : ∀ f c, K1N f = some c → ContractOk (TT m) Tryz.prog val f c :=
  KTree.ok (t := KT1N) ⟨c195 m val, ⟨c176 m val, ⟨c59 m val, ⟨trueK_ok zz_not (by kernel_rfl) awakeN, trivial, trivial⟩, ⟨c107 m val, trivial, trivial⟩⟩, ⟨c194 m val, ⟨c177 m val, trivial, trivial⟩, trivial⟩⟩, ⟨c237 m val, ⟨c226 m val, ⟨c225 m val, trivial, trivial⟩, ⟨c227 m val, trivial, trivial⟩⟩, ⟨c346 m val, ⟨c238 m val, trivial, trivial⟩, trivial⟩⟩⟩
end Go.Proofs.YtejilihddphnbaaGreat.Ev
