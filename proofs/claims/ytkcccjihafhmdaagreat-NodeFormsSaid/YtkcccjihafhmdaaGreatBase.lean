/-
  The contracts: the contracts of the library's functions, and what every law begins with (awake).
-/
import Derived.Test.YtkcccjihafhmdaaGreatEvOk2
import Derived.Test.YtkcccjihafhmdaaGreatSync
import Derived.Test.YtkcccjihafhmdaaGreatEwM8
set_option maxRecDepth 1000000
namespace Go.Proofs.YtkcccjihafhmdaaGreat.Ev
open Go.Ev Go.Proofs

theorem mixed : Tryz.prog.follows .mixedOrders = true := by kernel_rfl
section
variable (m : Nat → Nat) (val : Nat → Int)
theorem c144 : ContractOk (TT m) Tryz.prog val 144 (wsK 240 5) := by
  have h := wsK_ok (T := TT m) (val := val) zz_not Tryz.lWrite Tryz.lWrite_x
  rw [show Tryz.lWrite_ren.f 166 = 144 from rfl, show Tryz.lWrite_ren.t 72 = 240 from rfl, show Tryz.lWrite_ren.t 5 = 5 from rfl] at h
  exact h
theorem c146 : ContractOk (TT m) Tryz.prog val 146 (blK 240) := by
  have h := blK_ok (T := TT m) (val := val) zz_not Tryz.lLen
  rw [show Tryz.lLen_ren.f 170 = 146 from rfl, show Tryz.lLen_ren.t 72 = 240 from rfl] at h
  exact h
theorem c147 : ContractOk (TT m) Tryz.prog val 147 hsK := by
  exact hsK_ok zz_not (by kernel_rfl) Tryz.hash_walk
theorem c148 : ContractOk (TT m) Tryz.prog val 148 (bsK 240 5) := by
  have h := bsK_ok (T := TT m) (val := val) zz_not Tryz.lString Tryz.lString_x
  rw [show Tryz.lString_ren.f 169 = 148 from rfl, show Tryz.lString_ren.t 72 = 240 from rfl, show Tryz.lString_ren.t 5 = 5 from rfl] at h
  exact h
theorem c167 : ContractOk (TT m) Tryz.prog val 167 (srtK 245 true 3) := by
  have h := srtK_ok (T := TT m) (val := val) zz_not Tryz.lSorted Tryz.lKeys1 Tryz.lSort rfl true 3
  rw [show Tryz.lSorted_ren.f 6 = 167 from rfl, show Tryz.lKeys1_ren.f 10 = 245 from rfl] at h
  exact h
theorem c168 : ContractOk (TT m) Tryz.prog val 168 (mkK 245) := by
  have h := mkK_ok (T := TT m) (val := val) zz_not Tryz.lKeys
  rw [show Tryz.lKeys_ren.f 7 = 168 from rfl, show Tryz.lKeys_ren.f 10 = 245 from rfl] at h
  exact h
theorem c211 : ContractOk (TT m) Tryz.prog val 211 syK := by
  exact syK_ok zz_not (by kernel_rfl) Tryz.sync_walk Tryz.sync_fused
theorem c227 : ContractOk (TT m) Tryz.prog val 227 mcK := by
  have h := mcK_ok (T := TT m) (val := val) zz_not Tryz.lClone
  rw [show Tryz.lClone_ren.f 5 = 227 from rfl] at h
  exact h
theorem c363 : ContractOk (TT m) Tryz.prog val 363 csK := by
  have h := csK_ok (T := TT m) (val := val) zz_not Tryz.lComp
  rw [show Tryz.lComp_ren.f 213 = 363 from rfl] at h
  exact h
end
noncomputable def KT0 : KTree := (.node 167 (srtK 245 true 3) (.node 147 hsK (.node 146 (blK 240) (.node 144 (wsK 240 5) .nil .nil) .nil) (.node 148 (bsK 240 5) .nil .nil)) (.node 227 mcK (.node 211 syK (.node 168 (mkK 245) .nil .nil) .nil) (.node 363 csK .nil .nil)))
theorem kt0Ok (m : Nat → Nat) (val : Nat → Int) : KT0.Ok (TT m) Tryz.prog val := ⟨c167 m val, ⟨c147 m val, ⟨c146 m val, ⟨c144 m val, trivial, trivial⟩, trivial⟩, ⟨c148 m val, trivial, trivial⟩⟩, ⟨c227 m val, ⟨c211 m val, ⟨c168 m val, trivial, trivial⟩, trivial⟩, ⟨c363 m val, trivial, trivial⟩⟩⟩
end Go.Proofs.YtkcccjihafhmdaaGreat.Ev
