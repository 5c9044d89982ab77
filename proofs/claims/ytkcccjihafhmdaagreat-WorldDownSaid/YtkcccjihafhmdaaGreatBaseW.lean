/-
  What every law of a chapter begins with: cachetlaw23.awake.
-/
import Derived.Test.YtkcccjihafhmdaaGreatBase
import Derived.KernelRfl
set_option maxRecDepth 1000000
namespace Go.Proofs.YtkcccjihafhmdaaGreat.Ev
open Go.Ev Go.Proofs
theorem awakeRunsW : hcall (noOrc zz) KT0.find FT.find 60 40 [] (fun _ => none) [] 0 isR [] = true := by kernel_rfl
theorem awakeW : SaysTrue Tryz.prog 40 := fun w => lawH (T := TT fun _ => 0) (val := fun _ => 0) zz_not isR_elim (noOrc_ok zz_not _) mixed (KTree.ok (kt0Ok _ _)) ftOk ⟨[], (fun j p h => by simp at h), awakeRunsW⟩ w [] trivial
noncomputable def KT1W : KTree := (.node 167 (srtK 245 true 3) (.node 146 (blK 240) (.node 144 (wsK 240 5) (.node 40 (trueK zz) .nil .nil) .nil) (.node 148 (bsK 240 5) (.node 147 hsK .nil .nil) .nil)) (.node 227 mcK (.node 211 syK (.node 168 (mkK 245) .nil .nil) .nil) (.node 363 csK .nil .nil)))
noncomputable def K1W : Nat → Option (Contract RR) := KT1W.find
theorem k1OkW (m : Nat → Nat) (val : Nat → Int) : ∀ f c, K1W f = some c → ContractOk (TT m) Tryz.prog val f c :=
  KTree.ok (t := KT1W) ⟨c167 m val, ⟨c146 m val, ⟨c144 m val, ⟨trueK_ok zz_not (by kernel_rfl) awakeW, trivial, trivial⟩, trivial⟩, ⟨c148 m val, ⟨c147 m val, trivial, trivial⟩, trivial⟩⟩, ⟨c227 m val, ⟨c211 m val, ⟨c168 m val, trivial, trivial⟩, trivial⟩, ⟨c363 m val, trivial, trivial⟩⟩⟩
end Go.Proofs.YtkcccjihafhmdaaGreat.Ev
