/-
  The contracts: the contracts of the library's functions, and what every law begins with (awake).
-/
import Derived.Test.YtejilihddphnbaaGreatEvOk2
import Derived.Test.YtejilihddphnbaaGreatSync
import Derived.Test.YtejilihddphnbaaGreatEwM8
set_option maxRecDepth 1000000
namespace Go.Proofs.YtejilihddphnbaaGreat.Ev
open Go.Ev Go.Proofs

theorem mixed : Tryz.prog.follows .mixedOrders = true := by kernel_rfl
section
variable (m : Nat → Nat) (val : Nat → Int)
theorem c176 : ContractOk (TT m) Tryz.prog val 176 hsK := by
  exact hsK_ok zz_not (by kernel_rfl) Tryz.hash_walk
theorem c177 : ContractOk (TT m) Tryz.prog val 177 syK := by
  exact syK_ok zz_not (by kernel_rfl) Tryz.sync_walk Tryz.sync_fused
theorem c194 : ContractOk (TT m) Tryz.prog val 194 frK := by
  exact frK_ok zz_not (by kernel_rfl) Tryz.free_walk
theorem c195 : ContractOk (TT m) Tryz.prog val 195 mcK := by
  have h := mcK_ok (T := TT m) (val := val) zz_not Tryz.lClone
  rw [show Tryz.lClone_ren.f 5 = 195 from rfl] at h
  exact h
theorem c225 : ContractOk (TT m) Tryz.prog val 225 (wsK 306 5) := by
  have h := wsK_ok (T := TT m) (val := val) zz_not Tryz.lWrite Tryz.lWrite_x
  rw [show Tryz.lWrite_ren.f 166 = 225 from rfl, show Tryz.lWrite_ren.t 72 = 306 from rfl, show Tryz.lWrite_ren.t 5 = 5 from rfl] at h
  exact h
theorem c226 : ContractOk (TT m) Tryz.prog val 226 (blK 306) := by
  have h := blK_ok (T := TT m) (val := val) zz_not Tryz.lLen
  rw [show Tryz.lLen_ren.f 170 = 226 from rfl, show Tryz.lLen_ren.t 72 = 306 from rfl] at h
  exact h
theorem c227 : ContractOk (TT m) Tryz.prog val 227 (bsK 306 5) := by
  have h := bsK_ok (T := TT m) (val := val) zz_not Tryz.lString Tryz.lString_x
  rw [show Tryz.lString_ren.f 169 = 227 from rfl, show Tryz.lString_ren.t 72 = 306 from rfl, show Tryz.lString_ren.t 5 = 5 from rfl] at h
  exact h
theorem c237 : ContractOk (TT m) Tryz.prog val 237 (srtK 283 true 3) := by
  have h := srtK_ok (T := TT m) (val := val) zz_not Tryz.lSorted Tryz.lKeys1 Tryz.lSort rfl true 3
  rw [show Tryz.lSorted_ren.f 6 = 237 from rfl, show Tryz.lKeys1_ren.f 10 = 283 from rfl] at h
  exact h
theorem c238 : ContractOk (TT m) Tryz.prog val 238 (mkK 283) := by
  have h := mkK_ok (T := TT m) (val := val) zz_not Tryz.lKeys
  rw [show Tryz.lKeys_ren.f 7 = 238 from rfl, show Tryz.lKeys_ren.f 10 = 283 from rfl] at h
  exact h
theorem c346 : ContractOk (TT m) Tryz.prog val 346 csK := by
  have h := csK_ok (T := TT m) (val := val) zz_not Tryz.lComp
  rw [show Tryz.lComp_ren.f 213 = 346 from rfl] at h
  exact h
end
noncomputable def KT00 : KTree := (.node 226 (blK 306) (.node 194 frK (.node 177 syK (.node 176 hsK .nil .nil) .nil) (.node 225 (wsK 306 5) (.node 195 mcK .nil .nil) .nil)) (.node 238 (mkK 283) (.node 237 (srtK 283 true 3) (.node 227 (bsK 306 5) .nil .nil) .nil) (.node 346 csK .nil .nil)))
theorem kt00Ok (m : Nat → Nat) (val : Nat → Int) : KT00.Ok (TT m) Tryz.prog val := ⟨c226 m val, ⟨c194 m val, ⟨c177 m val, ⟨c176 m val, trivial, trivial⟩, trivial⟩, ⟨c225 m val, ⟨c195 m val, trivial, trivial⟩, trivial⟩⟩, ⟨c238 m val, ⟨c237 m val, ⟨c227 m val, trivial, trivial⟩, trivial⟩, ⟨c346 m val, trivial, trivial⟩⟩⟩
theorem putP1 : (prepCode Tryz.prog (mutsOf ml false) Tryz.putRest).map (fun ac => okB 111 (flat ac .norm)) = some true := by kernel_rfl
theorem putP2 : (prepCode Tryz.prog (mutsOf ml false) Tryz.putRest).map (fun ac => comp putKept (flat ac .norm) none) = some putBody := by kernel_rfl
theorem c107 (m : Nat → Nat) (val : Nat → Int) : ContractOk (TT m) Tryz.prog val 107 (puK (noOrc zz) (hcall (noOrc zz) KT00.find FT.find 50) putBody putRes) :=
  puK_ok' (rl := [.tmp 0 4]) zz_not (hcall_sound zz_not (noOrc_ok zz_not _) mixed (KTree.ok (kt00Ok m val)) (HTree.ok ftOk) 50) (noOrc_ok zz_not _) mixed (by kernel_rfl) Tryz.put_walk putP1 putP2 (by kernel_rfl) (by decide) (by rfl) (by rfl) (by rfl) (by rfl) (by kernel_rfl)
noncomputable def KT0 : KTree := (.node 225 (wsK 306 5) (.node 177 syK (.node 176 hsK (.node 107 (puK (noOrc zz) (hcall (noOrc zz) KT00.find FT.find 50) putBody putRes) .nil .nil) .nil) (.node 195 mcK (.node 194 frK .nil .nil) .nil)) (.node 237 (srtK 283 true 3) (.node 227 (bsK 306 5) (.node 226 (blK 306) .nil .nil) .nil) (.node 346 csK (.node 238 (mkK 283) .nil .nil) .nil)))
theorem kt0Ok (m : Nat → Nat) (val : Nat → Int) : KT0.Ok (TT m) Tryz.prog val := ⟨c225 m val, ⟨c177 m val, ⟨c176 m val, ⟨c107 m val, trivial, trivial⟩, trivial⟩, ⟨c195 m val, ⟨c194 m val, trivial, trivial⟩, trivial⟩⟩, ⟨c237 m val, ⟨c227 m val, ⟨c226 m val, trivial, trivial⟩, trivial⟩, ⟨c346 m val, ⟨c238 m val, trivial, trivial⟩, trivial⟩⟩⟩
end Go.Proofs.YtejilihddphnbaaGreat.Ev
