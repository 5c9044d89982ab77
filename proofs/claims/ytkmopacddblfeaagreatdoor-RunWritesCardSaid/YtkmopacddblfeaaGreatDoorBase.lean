/-
  The contracts of the library's functions, and of run.Run.
-/
import Derived.Test.YtkmopacddblfeaaGreatDoorEvOk2
import Derived.Test.YtkmopacddblfeaaGreatDoorSync
import Derived.Test.YtkmopacddblfeaaGreatDoorKxCtr
set_option linter.unusedVariables false
set_option linter.unusedSimpArgs false
noncomputable section
set_option maxRecDepth 1000000
namespace Go.Proofs.YtkmopacddblfeaaGreatDoor.Ev
open Go.Ev Go.Proofs
theorem mixed : Tryz.prog.follows .mixedOrders = true:=by kernel_rfl
section
variable (m : Nat → Nat) (val : Nat → Int)
theorem c12 : ContractOk (TT m) Tryz.prog val 12 (cutK 0):=by
 have h:=cutK_ok (T:=TT m) (val:=val) zz_not Go.Kx.lays145
 rw [show Go.Kx.lays145_ren.f 145 = 12 from rfl,show Go.Kx.lays145_ren.g 1 = 0 from rfl] at h
 exact h
theorem c13 : ContractOk (TT m) Tryz.prog val 13 nmK:=by
 exact nmK_ok zz_not
theorem c22 : ContractOk (TT m) Tryz.prog val 22 (wsK 68 5):=by
 have h:=wsK_ok (T:=TT m) (val:=val) zz_not Tryz.lWrite Tryz.lWrite_x
 rw [show Tryz.lWrite_ren.f 166 = 22 from rfl,show Tryz.lWrite_ren.t 72 = 68 from rfl,show Tryz.lWrite_ren.t 5 = 5 from rfl] at h
 exact h
theorem c23 : ContractOk (TT m) Tryz.prog val 23 (bsK 68 5):=by
 have h:=bsK_ok (T:=TT m) (val:=val) zz_not Tryz.lString Tryz.lString_x
 rw [show Tryz.lString_ren.f 169 = 23 from rfl,show Tryz.lString_ren.t 72 = 68 from rfl,show Tryz.lString_ren.t 5 = 5 from rfl] at h
 exact h
theorem c27 : ContractOk (TT m) Tryz.prog val 27 ctK:=by
 have h:=ctK_ok (T:=TT m) (val:=val) zz_not Go.Kx.lays144
 rw [show Go.Kx.lays144_ren.f 144 = 27 from rfl] at h
 exact h
theorem c28 : ContractOk (TT m) Tryz.prog val 28 (blK 68):=by
 have h:=blK_ok (T:=TT m) (val:=val) zz_not Tryz.lLen
 rw [show Tryz.lLen_ren.f 170 = 28 from rfl,show Tryz.lLen_ren.t 72 = 68 from rfl] at h
 exact h
theorem c31 : ContractOk (TT m) Tryz.prog val 31 (itK 3):=by
 exact itK_ok zz_not
theorem c32 : ContractOk (TT m) Tryz.prog val 32 (splitK 0):=by
 have h:=splitK_ok (T:=TT m) (val:=val) zz_not Go.Kx.lays146 (by kernel_rfl)
 rw [show Go.Kx.lays146_ren.f 146 = 32 from rfl,show Go.Kx.lays146_ren.g 1 = 0 from rfl] at h
 exact h
theorem c56 : ContractOk (TT m) Tryz.prog val 56 hxK:=by
 exact hxK_ok zz_not
theorem c63 : ContractOk (TT m) Tryz.prog val 63 ibK:=by
 have h:=ibK_ok (T:=TT m) (val:=val) zz_not Go.Kx.lays137
 rw [show Go.Kx.lays137_ren.f 137 = 63 from rfl] at h
 exact h
theorem c158 : ContractOk (TT m) Tryz.prog val 158 (srtK 231 true 3):=by
 have h:=srtK_ok (T:=TT m) (val:=val) zz_not Tryz.lSorted Tryz.lKeys1 Tryz.lSort rfl true 3
 rw [show Tryz.lSorted_ren.f 6 = 158 from rfl,show Tryz.lKeys1_ren.f 10 = 231 from rfl] at h
 exact h
theorem c159 : ContractOk (TT m) Tryz.prog val 159 (mkK 231):=by
 have h:=mkK_ok (T:=TT m) (val:=val) zz_not Tryz.lKeys
 rw [show Tryz.lKeys_ren.f 7 = 159 from rfl,show Tryz.lKeys_ren.f 10 = 231 from rfl] at h
 exact h
theorem c188 : ContractOk (TT m) Tryz.prog val 188 hsK:=by
 exact hsK_ok zz_not (by kernel_rfl) Tryz.hash_walk
theorem c189 : ContractOk (TT m) Tryz.prog val 189 syK:=by
 exact syK_ok zz_not (by kernel_rfl) Tryz.sync_walk Tryz.sync_fused
theorem c268 : ContractOk (TT m) Tryz.prog val 268 frK:=by
 exact frK_ok zz_not (by kernel_rfl) Tryz.free_walk
theorem c269 : ContractOk (TT m) Tryz.prog val 269 mcK:=by
 have h:=mcK_ok (T:=TT m) (val:=val) zz_not Tryz.lClone
 rw [show Tryz.lClone_ren.f 5 = 269 from rfl] at h
 exact h
theorem c384 : ContractOk (TT m) Tryz.prog val 384 csK:=by
 have h:=csK_ok (T:=TT m) (val:=val) zz_not Tryz.lComp
 rw [show Tryz.lComp_ren.f 213 = 384 from rfl] at h
 exact h
end
def KT00 : KTree:=(.node 56 hxK (.node 27 ctK (.node 22 (wsK 68 5) (.node 13 nmK (.node 12 (cutK 0) .nil .nil) .nil) (.node 23 (bsK 68 5) .nil .nil)) (.node 31 (itK 3) (.node 28 (blK 68) .nil .nil) (.node 32 (splitK 0) .nil .nil))) (.node 189 syK (.node 159 (mkK 231) (.node 158 (srtK 231 true 3) (.node 63 ibK .nil .nil) .nil) (.node 188 hsK .nil .nil)) (.node 269 mcK (.node 268 frK .nil .nil) (.node 384 csK .nil .nil))))
theorem kt00Ok (m : Nat → Nat) (val : Nat → Int) : KT00.Ok (TT m) Tryz.prog val:=⟨c56 m val,⟨c27 m val,⟨c22 m val,⟨c13 m val,⟨c12 m val,trivial,trivial⟩,trivial⟩,⟨c23 m val,trivial,trivial⟩⟩,⟨c31 m val,⟨c28 m val,trivial,trivial⟩,⟨c32 m val,trivial,trivial⟩⟩⟩,⟨c189 m val,⟨c159 m val,⟨c158 m val,⟨c63 m val,trivial,trivial⟩,trivial⟩,⟨c188 m val,trivial,trivial⟩⟩,⟨c269 m val,⟨c268 m val,trivial,trivial⟩,⟨c384 m val,trivial,trivial⟩⟩⟩⟩
theorem putP1 : (prepCode Tryz.prog (mutsOf ml false) Tryz.putRest).map (λac=>okB 111 (flat ac .norm)) = some true:=by kernel_rfl
theorem putP2 : (prepCode Tryz.prog (mutsOf ml false) Tryz.putRest).map (λac=>comp putKept (flat ac .norm) none) = some putBody:=by kernel_rfl
theorem c208 (m : Nat → Nat) (val : Nat → Int) : ContractOk (TT m) Tryz.prog val 208 (puK (noOrc zz) (hcall (noOrc zz) KT00.find FT.find 50) putBody putRes) :=
 puK_ok' (rl:=[.tmp 0 4]) zz_not (hcall_sound zz_not (noOrc_ok zz_not _) mixed (KTree.ok (kt00Ok m val)) (HTree.ok ftOk) 50) (noOrc_ok zz_not _) mixed (by kernel_rfl) Tryz.put_walk putP1 putP2 (by kernel_rfl) (by decide) (by rfl) (by rfl) (by rfl) (by rfl) (by kernel_rfl)
def KT01 : KTree:=(.node 63 ibK (.node 27 ctK (.node 22 (wsK 68 5) (.node 13 nmK (.node 12 (cutK 0) .nil .nil) .nil) (.node 23 (bsK 68 5) .nil .nil)) (.node 32 (splitK 0) (.node 31 (itK 3) (.node 28 (blK 68) .nil .nil) .nil) (.node 56 hxK .nil .nil))) (.node 208 (puK (noOrc zz) (hcall (noOrc zz) KT00.find FT.find 50) putBody putRes) (.node 188 hsK (.node 159 (mkK 231) (.node 158 (srtK 231 true 3) .nil .nil) .nil) (.node 189 syK .nil .nil)) (.node 269 mcK (.node 268 frK .nil .nil) (.node 384 csK .nil .nil))))
theorem kt01Ok (m : Nat → Nat) (val : Nat → Int) : KT01.Ok (TT m) Tryz.prog val:=⟨c63 m val,⟨c27 m val,⟨c22 m val,⟨c13 m val,⟨c12 m val,trivial,trivial⟩,trivial⟩,⟨c23 m val,trivial,trivial⟩⟩,⟨c32 m val,⟨c31 m val,⟨c28 m val,trivial,trivial⟩,trivial⟩,⟨c56 m val,trivial,trivial⟩⟩⟩,⟨c208 m val,⟨c188 m val,⟨c159 m val,⟨c158 m val,trivial,trivial⟩,trivial⟩,⟨c189 m val,trivial,trivial⟩⟩,⟨c269 m val,⟨c268 m val,trivial,trivial⟩,⟨c384 m val,trivial,trivial⟩⟩⟩⟩
theorem runP1 : (prepCode Tryz.prog (mutsOf ml false) (Go.Kx.runL.foldr Code.seq (.region 23 (Go.Kx.runF.take 8).toArray false))).map (λac=>okB 118 (flat ac .norm)) = some true:=by kernel_rfl
theorem runP2 : (prepCode Tryz.prog (mutsOf ml false) (Go.Kx.runL.foldr Code.seq (.region 23 (Go.Kx.runF.take 8).toArray false))).map (λac=>comp runKept (flat ac .norm) none) = some runBody:=by kernel_rfl
theorem runP3 : prepOpers Tryz.prog (mutsOf ml false) (Go.Kx.runF.take 8).toArray (Go.Kx.runF.take 8) = prepOpers Tryz.prog (mutsOf ml false) Go.Kx.runF.toArray (Go.Kx.runF.take 8):=by kernel_rfl
theorem c10 (m : Nat → Nat) (val : Nat → Int) : ContractOk (TT m) Tryz.prog val 10 (rnK (noOrc zz) (hcall (noOrc zz) KT01.find FT.find 50) runBody runRes):=by
 have h1:=runP1
 have h2:=runP2
 cases hp : prepCode Tryz.prog (mutsOf ml false) (Go.Kx.runL.foldr Code.seq (.region 23 (Go.Kx.runF.take 8).toArray false)) with
 | none=>rw [hp] at h1; cases h1
 | some ac =>
  rw [hp] at h1 h2
  simp only [Option.map_some,Option.some.injEq] at h1 h2
  exact rnK_ok (rl:=[.tmp 0 2,.tmp 0 3,.tmp 0 4]) zz_not (hcall_sound zz_not (noOrc_ok zz_not _) mixed (KTree.ok (kt01Ok m val)) (HTree.ok ftOk) 50) (noOrc_ok zz_not _) mixed hp runP3 (by kernel_rfl) (by kernel_rfl) (by decide) (by rfl) (by rfl) h1 (by rfl) h2 (by kernel_rfl)
def KT0 : KTree:=(.node 56 hxK (.node 23 (bsK 68 5) (.node 13 nmK (.node 12 (cutK 0) (.node 10 (rnK (noOrc zz) (hcall (noOrc zz) KT01.find FT.find 50) runBody runRes) .nil .nil) .nil) (.node 22 (wsK 68 5) .nil .nil)) (.node 31 (itK 3) (.node 28 (blK 68) (.node 27 ctK .nil .nil) .nil) (.node 32 (splitK 0) .nil .nil))) (.node 189 syK (.node 159 (mkK 231) (.node 158 (srtK 231 true 3) (.node 63 ibK .nil .nil) .nil) (.node 188 hsK .nil .nil)) (.node 269 mcK (.node 268 frK (.node 208 (puK (noOrc zz) (hcall (noOrc zz) KT00.find FT.find 50) putBody putRes) .nil .nil) .nil) (.node 384 csK .nil .nil))))
theorem kt0Ok (m : Nat → Nat) (val : Nat → Int) : KT0.Ok (TT m) Tryz.prog val:=⟨c56 m val,⟨c23 m val,⟨c13 m val,⟨c12 m val,⟨c10 m val,trivial,trivial⟩,trivial⟩,⟨c22 m val,trivial,trivial⟩⟩,⟨c31 m val,⟨c28 m val,⟨c27 m val,trivial,trivial⟩,trivial⟩,⟨c32 m val,trivial,trivial⟩⟩⟩,⟨c189 m val,⟨c159 m val,⟨c158 m val,⟨c63 m val,trivial,trivial⟩,trivial⟩,⟨c188 m val,trivial,trivial⟩⟩,⟨c269 m val,⟨c268 m val,⟨c208 m val,trivial,trivial⟩,trivial⟩,⟨c384 m val,trivial,trivial⟩⟩⟩⟩
end Go.Proofs.YtkmopacddblfeaaGreatDoor.Ev
