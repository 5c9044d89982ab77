/-
  The contracts of the library's functions, and of run.Run.
-/
import Derived.Test.YthklkhndoojmfaaGreatDoorEvOk2
import Derived.Test.YthklkhndoojmfaaGreatDoorSync
import Derived.Test.YthklkhndoojmfaaGreatDoorKxCtr
set_option linter.unusedVariables false
set_option linter.unusedSimpArgs false
noncomputable section
set_option maxRecDepth 1000000
namespace Go.Proofs.YthklkhndoojmfaaGreatDoor.Ev
open Go.Ev Go.Proofs
theorem mixed:Tryz.prog.follows .mixedOrders=true:=by kernel_rfl
section
variable (m:Nat→Nat) (val:Nat→Int)
theorem c17:ContractOk (TT m) Tryz.prog val 17 (wsK 62 5):=by
 have h:=wsK_ok (T:=TT m) (val:=val) zz_not Tryz.lWrite Tryz.lWrite_x
 rw[show Tryz.lWrite_ren.f 166=17 from rfl,show Tryz.lWrite_ren.t 72=62 from rfl,show Tryz.lWrite_ren.t 5=5 from rfl]at h
 exact h
theorem c18:ContractOk (TT m) Tryz.prog val 18 (bsK 62 5):=by
 have h:=bsK_ok (T:=TT m) (val:=val) zz_not Tryz.lString Tryz.lString_x
 rw[show Tryz.lString_ren.f 169=18 from rfl,show Tryz.lString_ren.t 72=62 from rfl,show Tryz.lString_ren.t 5=5 from rfl]at h
 exact h
theorem c19:ContractOk (TT m) Tryz.prog val 19 (cutK 0):=by
 have h:=cutK_ok (T:=TT m) (val:=val) zz_not Go.Kx.lays145
 rw[show Go.Kx.lays145_ren.f 145=19 from rfl,show Go.Kx.lays145_ren.g 1=0 from rfl]at h
 exact h
theorem c20:ContractOk (TT m) Tryz.prog val 20 nmK:=by
 exact nmK_ok zz_not
theorem c25:ContractOk (TT m) Tryz.prog val 25 ctK:=by
 have h:=ctK_ok (T:=TT m) (val:=val) zz_not Go.Kx.lays144
 rw[show Go.Kx.lays144_ren.f 144=25 from rfl]at h
 exact h
theorem c26:ContractOk (TT m) Tryz.prog val 26 (blK 62):=by
 have h:=blK_ok (T:=TT m) (val:=val) zz_not Tryz.lLen
 rw[show Tryz.lLen_ren.f 170=26 from rfl,show Tryz.lLen_ren.t 72=62 from rfl]at h
 exact h
theorem c43:ContractOk (TT m) Tryz.prog val 43 (itK 3):=by
 exact itK_ok zz_not
theorem c49:ContractOk (TT m) Tryz.prog val 49 (splitK 0):=by
 have h:=splitK_ok (T:=TT m) (val:=val) zz_not Go.Kx.lays146 (by kernel_rfl)
 rw[show Go.Kx.lays146_ren.f 146=49 from rfl,show Go.Kx.lays146_ren.g 1=0 from rfl]at h
 exact h
theorem c54:ContractOk (TT m) Tryz.prog val 54 hxK:=by
 exact hxK_ok zz_not
theorem c98:ContractOk (TT m) Tryz.prog val 98 ibK:=by
 have h:=ibK_ok (T:=TT m) (val:=val) zz_not Go.Kx.lays137
 rw[show Go.Kx.lays137_ren.f 137=98 from rfl]at h
 exact h
theorem c144:ContractOk (TT m) Tryz.prog val 144 (srtK 217 true 3):=by
 have h:=srtK_ok (T:=TT m) (val:=val) zz_not Tryz.lSorted Tryz.lKeys1 Tryz.lSort rfl true 3
 rw[show Tryz.lSorted_ren.f 6=144 from rfl,show Tryz.lKeys1_ren.f 10=217 from rfl]at h
 exact h
theorem c145:ContractOk (TT m) Tryz.prog val 145 (mkK 217):=by
 have h:=mkK_ok (T:=TT m) (val:=val) zz_not Tryz.lKeys
 rw[show Tryz.lKeys_ren.f 7=145 from rfl,show Tryz.lKeys_ren.f 10=217 from rfl]at h
 exact h
theorem c174:ContractOk (TT m) Tryz.prog val 174 hsK:=by
 exact hsK_ok zz_not (by kernel_rfl) Tryz.hash_walk
theorem c175:ContractOk (TT m) Tryz.prog val 175 syK:=by
 exact syK_ok zz_not (by kernel_rfl) Tryz.sync_walk Tryz.sync_fused
theorem c382:ContractOk (TT m) Tryz.prog val 382 csK:=by
 have h:=csK_ok (T:=TT m) (val:=val) zz_not Tryz.lComp
 rw[show Tryz.lComp_ren.f 213=382 from rfl]at h
 exact h
end
def KT00:KTree:=(.node 49 (splitK 0) (.node 20 nmK (.node 18 (bsK 62 5) (.node 17 (wsK 62 5) .nil .nil) (.node 19 (cutK 0) .nil .nil)) (.node 26 (blK 62) (.node 25 ctK .nil .nil) (.node 43 (itK 3) .nil .nil))) (.node 145 (mkK 217) (.node 98 ibK (.node 54 hxK .nil .nil) (.node 144 (srtK 217 true 3) .nil .nil)) (.node 175 syK (.node 174 hsK .nil .nil) (.node 382 csK .nil .nil))))
theorem kt00Ok (m:Nat→Nat) (val:Nat→Int):KT00.Ok (TT m) Tryz.prog val:=⟨c49 m val,⟨c20 m val,⟨c18 m val,⟨c17 m val,trivial,trivial⟩,⟨c19 m val,trivial,trivial⟩⟩,⟨c26 m val,⟨c25 m val,trivial,trivial⟩,⟨c43 m val,trivial,trivial⟩⟩⟩,⟨c145 m val,⟨c98 m val,⟨c54 m val,trivial,trivial⟩,⟨c144 m val,trivial,trivial⟩⟩,⟨c175 m val,⟨c174 m val,trivial,trivial⟩,⟨c382 m val,trivial,trivial⟩⟩⟩⟩
theorem runP1:(prepCode Tryz.prog (mutsOf ml false) (Go.Kx.runL.foldr Code.seq (.region 23 (Go.Kx.runF.take 8).toArray false))).map (λac=>okB 118 (flat ac .norm))=some true:=by kernel_rfl
theorem runP2:(prepCode Tryz.prog (mutsOf ml false) (Go.Kx.runL.foldr Code.seq (.region 23 (Go.Kx.runF.take 8).toArray false))).map (λac=>comp runKept (flat ac .norm) none)=some runBody:=by kernel_rfl
theorem runP3:prepOpers Tryz.prog (mutsOf ml false) (Go.Kx.runF.take 8).toArray (Go.Kx.runF.take 8)=prepOpers Tryz.prog (mutsOf ml false) Go.Kx.runF.toArray (Go.Kx.runF.take 8):=by kernel_rfl
theorem c6 (m:Nat→Nat) (val:Nat→Int):ContractOk (TT m) Tryz.prog val 6 (rnK (noOrc zz) (hcall (noOrc zz) KT00.find FT.find 50) runBody runRes):=by
 have h1:=runP1
 have h2:=runP2
 cases hp:prepCode Tryz.prog (mutsOf ml false) (Go.Kx.runL.foldr Code.seq (.region 23 (Go.Kx.runF.take 8).toArray false))with
 |none=>rw[hp]at h1;cases h1
 |some ac=>
  rw[hp]at h1 h2
  simp only[Option.map_some,Option.some.injEq]at h1 h2
  exact rnK_ok (rl:=[.tmp 0 2,.tmp 0 3,.tmp 0 4]) zz_not (hcall_sound zz_not (noOrc_ok zz_not _) mixed (KTree.ok (kt00Ok m val)) (HTree.ok ftOk) 50) (noOrc_ok zz_not _) mixed hp runP3 (by kernel_rfl) (by kernel_rfl) (by decide) (by rfl) (by rfl) h1 (by rfl) h2 (by kernel_rfl)
def KT0:KTree:=(.node 49 (splitK 0) (.node 20 nmK (.node 18 (bsK 62 5) (.node 17 (wsK 62 5) (.node 6 (rnK (noOrc zz) (hcall (noOrc zz) KT00.find FT.find 50) runBody runRes) .nil .nil) .nil) (.node 19 (cutK 0) .nil .nil)) (.node 26 (blK 62) (.node 25 ctK .nil .nil) (.node 43 (itK 3) .nil .nil))) (.node 145 (mkK 217) (.node 98 ibK (.node 54 hxK .nil .nil) (.node 144 (srtK 217 true 3) .nil .nil)) (.node 175 syK (.node 174 hsK .nil .nil) (.node 382 csK .nil .nil))))
theorem kt0Ok (m:Nat→Nat) (val:Nat→Int):KT0.Ok (TT m) Tryz.prog val:=⟨c49 m val,⟨c20 m val,⟨c18 m val,⟨c17 m val,⟨c6 m val,trivial,trivial⟩,trivial⟩,⟨c19 m val,trivial,trivial⟩⟩,⟨c26 m val,⟨c25 m val,trivial,trivial⟩,⟨c43 m val,trivial,trivial⟩⟩⟩,⟨c145 m val,⟨c98 m val,⟨c54 m val,trivial,trivial⟩,⟨c144 m val,trivial,trivial⟩⟩,⟨c175 m val,⟨c174 m val,trivial,trivial⟩,⟨c382 m val,trivial,trivial⟩⟩⟩⟩
end Go.Proofs.YthklkhndoojmfaaGreatDoor.Ev
