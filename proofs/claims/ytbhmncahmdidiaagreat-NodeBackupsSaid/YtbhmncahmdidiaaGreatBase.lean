/-
  Chapter 22: the contracts of the library's functions, and what every law of the chapter begins with (awake).
-/
import Derived.Test.YtbhmncahmdidiaaGreatEvOk2
import Derived.Test.YtbhmncahmdidiaaGreatSync
import Derived.Test.YtbhmncahmdidiaaGreatEwM8
set_option maxRecDepth 1000000
namespace Go.Proofs.YtbhmncahmdidiaaGreat.Ev
open Go.Ev Go.Proofs

theorem mixed : Tryz.prog.follows .mixedOrders = true := by kernel_rfl
/-- Contracts; what stands at their head. -/
noncomputable def KT0 (a : KTree) : KTree := .node 131 (srtK 204 true 3) (.node 116 (blK 199) (.node 114 (wsK 199 5) a .nil) (.node 118 (bsK 199 5) .nil .nil)) (.node 180 mcK (.node 164 syK (.node 132 (mkK 204) .nil .nil) .nil) (.node 315 csK .nil .nil))
section
variable (m : Nat → Nat) (val : Nat → Int)
theorem c131 : ContractOk (TT m) Tryz.prog val 131 (srtK 204 true 3) := by
  have h := srtK_ok (T := TT m) (val := val) zz_not Tryz.lSorted Tryz.lKeys1 Tryz.lSort rfl true 3
  rw [show Tryz.lSorted_ren.f 6 = 131 from rfl, show Tryz.lKeys1_ren.f 10 = 204 from rfl] at h
  exact h
theorem c116 : ContractOk (TT m) Tryz.prog val 116 (blK 199) := by
  have h := blK_ok (T := TT m) (val := val) zz_not Tryz.lLen
  rw [show Tryz.lLen_ren.f 170 = 116 from rfl, show Tryz.lLen_ren.t 72 = 199 from rfl] at h
  exact h
theorem c114 : ContractOk (TT m) Tryz.prog val 114 (wsK 199 5) := by
  have h := wsK_ok (T := TT m) (val := val) zz_not Tryz.lWrite Tryz.lWrite_x
  rw [show Tryz.lWrite_ren.f 166 = 114 from rfl, show Tryz.lWrite_ren.t 72 = 199 from rfl, show Tryz.lWrite_ren.t 5 = 5 from rfl] at h
  exact h
theorem c118 : ContractOk (TT m) Tryz.prog val 118 (bsK 199 5) := by
  have h := bsK_ok (T := TT m) (val := val) zz_not Tryz.lString Tryz.lString_x
  rw [show Tryz.lString_ren.f 169 = 118 from rfl, show Tryz.lString_ren.t 72 = 199 from rfl, show Tryz.lString_ren.t 5 = 5 from rfl] at h
  exact h
theorem c180 : ContractOk (TT m) Tryz.prog val 180 mcK := by
  have h := mcK_ok (T := TT m) (val := val) zz_not Tryz.lClone
  rw [show Tryz.lClone_ren.f 5 = 180 from rfl] at h
  exact h
theorem c164 : ContractOk (TT m) Tryz.prog val 164 syK := syK_ok zz_not (by kernel_rfl) Tryz.sync_walk Tryz.sync_fused
theorem c132 : ContractOk (TT m) Tryz.prog val 132 (mkK 204) := by
  have h := mkK_ok (T := TT m) (val := val) zz_not Tryz.lKeys
  rw [show Tryz.lKeys_ren.f 7 = 132 from rfl, show Tryz.lKeys_ren.f 10 = 204 from rfl] at h
  exact h
theorem c315 : ContractOk (TT m) Tryz.prog val 315 csK := by
  have h := csK_ok (T := TT m) (val := val) zz_not Tryz.lComp
  rw [show Tryz.lComp_ren.f 213 = 315 from rfl] at h
  exact h
theorem kt0Ok {a : KTree} (ha : a.Ok (TT m) Tryz.prog val) : (KT0 a).Ok (TT m) Tryz.prog val :=
  ⟨c131 m val, ⟨c116 m val, ⟨c114 m val, ha, trivial⟩, ⟨c118 m val, trivial, trivial⟩⟩, ⟨c180 m val, ⟨c164 m val, ⟨c132 m val, trivial, trivial⟩, trivial⟩, ⟨c315 m val, trivial, trivial⟩⟩⟩
end
noncomputable def K0 : Nat → Option (Contract RR) := (KT0 .nil).find
theorem awakeRuns : hcall (noOrc zz) K0 FT.find 60 11 [] (fun _ => none) [] 0 isR [] = true := by kernel_rfl
theorem awake : SaysTrue Tryz.prog 11 := fun w => lawH (T := TT fun _ => 0) (val := fun _ => 0) zz_not isR_elim (noOrc_ok zz_not _) mixed (KTree.ok (kt0Ok _ _ (a := .nil) trivial)) ftOk ⟨[], (fun j p h => by simp at h), awakeRuns⟩ w [] trivial
noncomputable def K1 : Nat → Option (Contract RR) := (KT0 (.node 11 (trueK zz) .nil .nil)).find
theorem k1Ok (m : Nat → Nat) (val : Nat → Int) : ∀ f c, K1 f = some c → ContractOk (TT m) Tryz.prog val f c :=
  KTree.ok (kt0Ok m val ⟨trueK_ok zz_not (by kernel_rfl) awake, trivial, trivial⟩)
end Go.Proofs.YtbhmncahmdidiaaGreat.Ev
