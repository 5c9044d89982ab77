/-
  The contracts: the contracts of the library's functions, and what every law begins with (awake).
-/
import Derived.Test.YtkcccjihafhmdaaGreatEvOk2
import Derived.Test.YtkcccjihafhmdaaGreatSync
import Derived.Test.YtkcccjihafhmdaaGreatEwM8
set_option maxRecDepth 1000000
namespace Go.Proofs.YtkcccjihafhmdaaGreat.Ev
open Go.Ev Go.Proofs

theorem mixed : Tryz.prog.follows .mixedOrders = true := by kernel_rfl
section
variable (m : Nat → Nat) (val : Nat → Int)
theorem c144 : ContractOk (TT m) Tryz.prog val 144 (wsK 240 5) := by
  have h := wsK_ok (T := TT m) (val := val) zz_not Tryz.lWrite Tryz.lWrite_x
  rw [show Tryz.lWrite_ren.f 166 = 144 from rfl, show Tryz.lWrite_ren.t 72 = 240 from rfl, show Tryz.lWrite_ren.t 5 = 5 from rfl] at h
  exact h
theorem c146 : ContractOk (TT m) Tryz.prog val 146 (blK 240) := by
  have h := blK_ok (T := TT m) (val := val) zz_not Tryz.lLen
  rw [show Tryz.lLen_ren.f 170 = 146 from rfl, show Tryz.lLen_ren.t 72 = 240 from rfl] at h
  exact h
theorem c147 : ContractOk (TT m) Tryz.prog val 147 hsK := by
  exact hsK_ok zz_not (by kernel_rfl) Tryz.hash_walk
theorem c148 : ContractOk (TT m) Tryz.prog val 148 (bsK 240 5) := by
  have h := bsK_ok (T := TT m) (val := val) zz_not Tryz.lString Tryz.lString_x
  rw [show Tryz.lString_ren.f 169 = 148 from rfl, show Tryz.lString_ren.t 72 = 240 from rfl, show Tryz.lString_ren.t 5 = 5 from rfl] at h
  exact h
theorem c167 : ContractOk (TT m) Tryz.prog val 167 (srtK 245 true 3) := by
  have h := srtK_ok (T := TT m) (val := val) zz_not Tryz.lSorted Tryz.lKeys1 Tryz.lSort rfl true 3
  rw [show Tryz.lSorted_ren.f 6 = 167 from rfl, show Tryz.lKeys1_ren.f 10 = 245 from rfl] at h
  exact h
theorem c168 : ContractOk (TT m) Tryz.prog val 168 (mkK 245) := by
  have h := mkK_ok (T := TT m) (val := val) zz_not Tryz.lKeys
  rw [show Tryz.lKeys_ren.f 7 = 168 from rfl, show Tryz.lKeys_ren.f 10 = 245 from rfl] at h
  exact h
theorem c211 : ContractOk (TT m) Tryz.prog val 211 syK := by
  exact syK_ok zz_not (by kernel_rfl) Tryz.sync_walk Tryz.sync_fused
theorem c226 : ContractOk (TT m) Tryz.prog val 226 frK := by
  exact frK_ok zz_not (by kernel_rfl) Tryz.free_walk
theorem c227 : ContractOk (TT m) Tryz.prog val 227 mcK := by
  have h := mcK_ok (T := TT m) (val := val) zz_not Tryz.lClone
  rw [show Tryz.lClone_ren.f 5 = 227 from rfl] at h
  exact h
theorem c363 : ContractOk (TT m) Tryz.prog val 363 csK := by
  have h := csK_ok (T := TT m) (val := val) zz_not Tryz.lComp
  rw [show Tryz.lComp_ren.f 213 = 363 from rfl] at h
  exact h
end
noncomputable def KT00 : KTree := (.node 168 (mkK 245) (.node 147 hsK (.node 146 (blK 240) (.node 144 (wsK 240 5) .nil .nil) .nil) (.node 167 (srtK 245 true 3) (.node 148 (bsK 240 5) .nil .nil) .nil)) (.node 227 mcK (.node 226 frK (.node 211 syK .nil .nil) .nil) (.node 363 csK .nil .nil)))
theorem kt00Ok (m : Nat → Nat) (val : Nat → Int) : KT00.Ok (TT m) Tryz.prog val := ⟨c168 m val, ⟨c147 m val, ⟨c146 m val, ⟨c144 m val, trivial, trivial⟩, trivial⟩, ⟨c167 m val, ⟨c148 m val, trivial, trivial⟩, trivial⟩⟩, ⟨c227 m val, ⟨c226 m val, ⟨c211 m val, trivial, trivial⟩, trivial⟩, ⟨c363 m val, trivial, trivial⟩⟩⟩
theorem putP1 : (prepCode Tryz.prog (mutsOf ml false) Tryz.putRest).map (fun ac => okB 111 (flat ac .norm)) = some true := by kernel_rfl
theorem putP2 : (prepCode Tryz.prog (mutsOf ml false) Tryz.putRest).map (fun ac => comp putKept (flat ac .norm) none) = some putBody := by kernel_rfl
theorem c139 (m : Nat → Nat) (val : Nat → Int) : ContractOk (TT m) Tryz.prog val 139 (puK (noOrc zz) (hcall (noOrc zz) KT00.find FT.find 50) putBody putRes) :=
  puK_ok' (rl := [.tmp 0 4]) zz_not (hcall_sound zz_not (noOrc_ok zz_not _) mixed (KTree.ok (kt00Ok m val)) (HTree.ok ftOk) 50) (noOrc_ok zz_not _) mixed (by kernel_rfl) Tryz.put_walk putP1 putP2 (by kernel_rfl) (by decide) (by rfl) (by rfl) (by rfl) (by rfl) (by kernel_rfl)
noncomputable def KT0 : KTree := (.node 167 (srtK 245 true 3) (.node 146 (blK 240) (.node 144 (wsK 240 5) (.node 139 (puK (noOrc zz) (hcall (noOrc zz) KT00.find FT.find 50) putBody putRes) .nil .nil) .nil) (.node 148 (bsK 240 5) (.node 147 hsK .nil .nil) .nil)) (.node 226 frK (.node 211 syK (.node 168 (mkK 245) .nil .nil) .nil) (.node 363 csK (.node 227 mcK .nil .nil) .nil)))
theorem kt0Ok (m : Nat → Nat) (val : Nat → Int) : KT0.Ok (TT m) Tryz.prog val := ⟨c167 m val, ⟨c146 m val, ⟨c144 m val, ⟨c139 m val, trivial, trivial⟩, trivial⟩, ⟨c148 m val, ⟨c147 m val, trivial, trivial⟩, trivial⟩⟩, ⟨c226 m val, ⟨c211 m val, ⟨c168 m val, trivial, trivial⟩, trivial⟩, ⟨c363 m val, ⟨c227 m val, trivial, trivial⟩, trivial⟩⟩⟩
end Go.Proofs.YtkcccjihafhmdaaGreat.Ev
