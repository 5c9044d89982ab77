/-
  What every law of a chapter begins with: cachetlaw22.awake.
-/
import Derived.Test.YtkcccjihafhmdaaGreatBase
import Derived.KernelRfl
set_option maxRecDepth 1000000
namespace Go.Proofs.YtkcccjihafhmdaaGreat.Ev
open Go.Ev Go.Proofs
theorem awakeRunsN : hcall (noOrc zz) KT0.find FT.find 60 23 [] (fun _ => none) [] 0 isR [] = true := by kernel_rfl
theorem awakeN : SaysTrue Tryz.prog 23 := fun w => lawH (T := TT fun _ => 0) (val := fun _ => 0) zz_not isR_elim (noOrc_ok zz_not _) mixed (KTree.ok (kt0Ok _ _)) ftOk ⟨[], (fun j p h => by simp at h), awakeRunsN⟩ w [] trivial
noncomputable def KT1N : KTree := (.node 167 (srtK 245 true 3) (.node 146 (blK 240) (.node 139 (puK (noOrc zz) (hcall (noOrc zz) KT00.find FT.find 50) putBody putRes) (.node 23 (trueK zz) .nil .nil) (.node 144 (wsK 240 5) .nil .nil)) (.node 148 (bsK 240 5) (.node 147 hsK .nil .nil) .nil)) (.node 226 frK (.node 211 syK (.node 168 (mkK 245) .nil .nil) .nil) (.node 363 csK (.node 227 mcK .nil .nil) .nil)))
noncomputable def K1N : Nat → Option (Contract RR) := KT1N.find
theorem k1OkN (m : Nat → Nat) (val : Nat → Int) : ∀ f c, K1N f = some c → ContractOk (TT m) Tryz.prog val f c :=
  KTree.ok (t := KT1N) ⟨c167 m val, ⟨c146 m val, ⟨c139 m val, ⟨trueK_ok zz_not (by kernel_rfl) awakeN, trivial, trivial⟩, ⟨c144 m val, trivial, trivial⟩⟩, ⟨c148 m val, ⟨c147 m val, trivial, trivial⟩, trivial⟩⟩, ⟨c226 m val, ⟨c211 m val, ⟨c168 m val, trivial, trivial⟩, trivial⟩, ⟨c363 m val, ⟨c227 m val, trivial, trivial⟩, trivial⟩⟩⟩
end Go.Proofs.YtkcccjihafhmdaaGreat.Ev
