/-
  The contracts: the contracts of the library's functions, and what every law begins with (awake).
-/
import Derived.Test.YtkmopacddblfeaaGreatEvOk2
import Derived.Test.YtkmopacddblfeaaGreatSync
import Derived.Test.YtkmopacddblfeaaGreatLast
import Derived.Test.YtkmopacddblfeaaGreatEwM8
set_option linter.unusedVariables false
set_option linter.unusedSimpArgs false
noncomputable section
set_option maxRecDepth 1000000
namespace Go.Proofs.YtkmopacddblfeaaGreat.Ev
open Go.Ev Go.Proofs
theorem mixed : Tryz.prog.follows .mixedOrders = true:=by kernel_rfl
section
variable (m : Nat → Nat) (val : Nat → Int)
theorem c113 : ContractOk (TT m) Tryz.prog val 113 (srtK 177 true 3):=by
 have h:=srtK_ok (T:=TT m) (val:=val) zz_not Tryz.lSorted Tryz.lKeys1 Tryz.lSort rfl true 3
 rw [show Tryz.lSorted_ren.f 6 = 113 from rfl,show Tryz.lKeys1_ren.f 10 = 177 from rfl] at h
 exact h
theorem c114 : ContractOk (TT m) Tryz.prog val 114 (mkK 177):=by
 have h:=mkK_ok (T:=TT m) (val:=val) zz_not Tryz.lKeys
 rw [show Tryz.lKeys_ren.f 7 = 114 from rfl,show Tryz.lKeys_ren.f 10 = 177 from rfl] at h
 exact h
theorem c127 : ContractOk (TT m) Tryz.prog val 127 (wsK 208 5):=by
 have h:=wsK_ok (T:=TT m) (val:=val) zz_not Tryz.lWrite Tryz.lWrite_x
 rw [show Tryz.lWrite_ren.f 166 = 127 from rfl,show Tryz.lWrite_ren.t 72 = 208 from rfl,show Tryz.lWrite_ren.t 5 = 5 from rfl] at h
 exact h
theorem c129 : ContractOk (TT m) Tryz.prog val 129 (bsK 208 5):=by
 have h:=bsK_ok (T:=TT m) (val:=val) zz_not Tryz.lString Tryz.lString_x
 rw [show Tryz.lString_ren.f 169 = 129 from rfl,show Tryz.lString_ren.t 72 = 208 from rfl,show Tryz.lString_ren.t 5 = 5 from rfl] at h
 exact h
theorem c133 : ContractOk (TT m) Tryz.prog val 133 hsK:=by
 exact hsK_ok zz_not (by kernel_rfl) Tryz.hash_walk
theorem c134 : ContractOk (TT m) Tryz.prog val 134 syK:=by
 exact syK_ok zz_not (by kernel_rfl) Tryz.sync_walk Tryz.sync_fused
theorem c180 : ContractOk (TT m) Tryz.prog val 180 (blK 208):=by
 have h:=blK_ok (T:=TT m) (val:=val) zz_not Tryz.lLen
 rw [show Tryz.lLen_ren.f 170 = 180 from rfl,show Tryz.lLen_ren.t 72 = 208 from rfl] at h
 exact h
theorem c208 : ContractOk (TT m) Tryz.prog val 208 frK:=by
 exact frK_ok zz_not (by kernel_rfl) Tryz.free_walk
theorem c209 : ContractOk (TT m) Tryz.prog val 209 mcK:=by
 have h:=mcK_ok (T:=TT m) (val:=val) zz_not Tryz.lClone
 rw [show Tryz.lClone_ren.f 5 = 209 from rfl] at h
 exact h
theorem c324 : ContractOk (TT m) Tryz.prog val 324 csK:=by
 have h:=csK_ok (T:=TT m) (val:=val) zz_not Tryz.lComp
 rw [show Tryz.lComp_ren.f 213 = 324 from rfl] at h
 exact h
end
def KT00 : KTree:=(.node 134 syK (.node 127 (wsK 208 5) (.node 114 (mkK 177) (.node 113 (srtK 177 true 3) .nil .nil) .nil) (.node 133 hsK (.node 129 (bsK 208 5) .nil .nil) .nil)) (.node 209 mcK (.node 208 frK (.node 180 (blK 208) .nil .nil) .nil) (.node 324 csK .nil .nil)))
theorem kt00Ok (m : Nat → Nat) (val : Nat → Int) : KT00.Ok (TT m) Tryz.prog val:=⟨c134 m val,⟨c127 m val,⟨c114 m val,⟨c113 m val,trivial,trivial⟩,trivial⟩,⟨c133 m val,⟨c129 m val,trivial,trivial⟩,trivial⟩⟩,⟨c209 m val,⟨c208 m val,⟨c180 m val,trivial,trivial⟩,trivial⟩,⟨c324 m val,trivial,trivial⟩⟩⟩
theorem putP1 : (prepCode Tryz.prog (mutsOf ml false) Tryz.putRest).map (λac=>okB 111 (flat ac .norm)) = some true:=by kernel_rfl
theorem putP2 : (prepCode Tryz.prog (mutsOf ml false) Tryz.putRest).map (λac=>comp putKept (flat ac .norm) none) = some putBody:=by kernel_rfl
theorem c154 (m : Nat → Nat) (val : Nat → Int) : ContractOk (TT m) Tryz.prog val 154 (puK (noOrc zz) (hcall (noOrc zz) KT00.find FT.find 50) putBody putRes) :=
 puK_ok' (rl:=[.tmp 0 4]) zz_not (hcall_sound zz_not (noOrc_ok zz_not _) mixed (KTree.ok (kt00Ok m val)) (HTree.ok ftOk) 50) (noOrc_ok zz_not _) mixed (by kernel_rfl) Tryz.put_walk putP1 putP2 (by kernel_rfl) (by decide) (by rfl) (by rfl) (by rfl) (by rfl) (by kernel_rfl)
theorem c285 (m : Nat → Nat) (val : Nat → Int) : ContractOk (TT m) Tryz.prog val 285 (laK 286 (hcall (noOrc zz) KT00.find FT.find 50)) :=
 laK_ok zz_not (hcall_sound zz_not (noOrc_ok zz_not _) mixed (KTree.ok (kt00Ok m val)) (HTree.ok ftOk) 50) (by kernel_rfl) Tryz.last_walk
def KT0 : KTree:=(.node 154 (puK (noOrc zz) (hcall (noOrc zz) KT00.find FT.find 50) putBody putRes) (.node 129 (bsK 208 5) (.node 114 (mkK 177) (.node 113 (srtK 177 true 3) .nil .nil) (.node 127 (wsK 208 5) .nil .nil)) (.node 134 syK (.node 133 hsK .nil .nil) .nil)) (.node 209 mcK (.node 208 frK (.node 180 (blK 208) .nil .nil) .nil) (.node 324 csK (.node 285 (laK 286 (hcall (noOrc zz) KT00.find FT.find 50)) .nil .nil) .nil)))
theorem kt0Ok (m : Nat → Nat) (val : Nat → Int) : KT0.Ok (TT m) Tryz.prog val:=⟨c154 m val,⟨c129 m val,⟨c114 m val,⟨c113 m val,trivial,trivial⟩,⟨c127 m val,trivial,trivial⟩⟩,⟨c134 m val,⟨c133 m val,trivial,trivial⟩,trivial⟩⟩,⟨c209 m val,⟨c208 m val,⟨c180 m val,trivial,trivial⟩,trivial⟩,⟨c324 m val,⟨c285 m val,trivial,trivial⟩,trivial⟩⟩⟩
end Go.Proofs.YtkmopacddblfeaaGreat.Ev
