/-
  The law RunWrites at each input: by the evaluator.
-/
import Derived.Test.YtkmopacddblfeaaGreatDoorWrA
import Derived.Test.YtkmopacddblfeaaGreatDoorWrB
import Derived.Test.YtkmopacddblfeaaGreatDoorWrC
import Derived.Test.YtkmopacddblfeaaGreatDoorWrD
set_option linter.unusedVariables false
set_option linter.unusedSimpArgs false
noncomputable section
set_option maxRecDepth 1000000
namespace Go.Proofs.YtkmopacddblfeaaGreatDoor.Ev
open Go.Ev Go.Proofs
theorem writes_all (r : Nat) (h : r < 32) : writesRun r = true:=by
 have h3 : r = 0 ∨ r = 1 ∨ r = 2 ∨ r = 3 ∨ r = 4 ∨ r = 5 ∨ r = 6 ∨ r = 7 ∨ r = 8 ∨ r = 9 ∨ r = 10 ∨ r = 11 ∨ r = 12 ∨ r = 13 ∨ r = 14 ∨ r = 15 ∨ r = 16 ∨ r = 17 ∨ r = 18 ∨ r = 19 ∨ r = 20 ∨ r = 21 ∨ r = 22 ∨ r = 23 ∨ r = 24 ∨ r = 25 ∨ r = 26 ∨ r = 27 ∨ r = 28 ∨ r = 29 ∨ r = 30 ∨ r = 31:=by omega
 rcases h3 with rfl | rfl | rfl | rfl | rfl | rfl | rfl | rfl | rfl | rfl | rfl | rfl | rfl | rfl | rfl | rfl | rfl | rfl | rfl | rfl | rfl | rfl | rfl | rfl | rfl | rfl | rfl | rfl | rfl | rfl | rfl | rfl
 ·exact writes_0
 ·exact writes_1
 ·exact writes_2
 ·exact writes_3
 ·exact writes_4
 ·exact writes_5
 ·exact writes_6
 ·exact writes_7
 ·exact writes_8
 ·exact writes_9
 ·exact writes_10
 ·exact writes_11
 ·exact writes_12
 ·exact writes_13
 ·exact writes_14
 ·exact writes_15
 ·exact writes_16
 ·exact writes_17
 ·exact writes_18
 ·exact writes_19
 ·exact writes_20
 ·exact writes_21
 ·exact writes_22
 ·exact writes_23
 ·exact writes_24
 ·exact writes_25
 ·exact writes_26
 ·exact writes_27
 ·exact writes_28
 ·exact writes_29
 ·exact writes_30
 ·exact writes_31
theorem and31 (x : Int) : ∃ r : Nat,r < 32 ∧ numOp .and .i64 x 31 = some (.int .i64 (r : Int)):=by
 refine ⟨(x % 32).toNat,by omega,?_⟩
 have h127 : (BitVec.ofInt 64 31).toNat = 2 ^ 5 - 1:=by decide
 have key : (BitVec.ofInt 64 x &&& BitVec.ofInt 64 31).toNat = (x % ((2 ^ 64 : Nat) : Int)).toNat % 2 ^ 5:=by
  rw [BitVec.toNat_and,BitVec.toNat_ofInt,h127,Nat.and_two_pow_sub_one_eq_mod]
 show some (SV.int .i64 (IntKind.i64.wrap ((BitVec.ofInt 64 x &&& BitVec.ofInt 64 31).toNat : Nat))) = _
 rw [key,IntKind.wrap_i64]
 exact congrArg (λz=>some (SV.int .i64 z)) (by omega)
theorem writes_ok (x : Int) (w : World) (hw : GW 0 1 3 w) : Calls Tryz.prog 5 #[.int .i64 x] w λe w'=>e = .returned (.bool true) ∧ Fr (λ_=>none) [] w w':=by
 obtain ⟨r,h1,h2⟩:=and31 x
 have hr:=writes_all r h1
 unfold writesRun at hr
 refine lawG (T:=TT λ_=>0) (val:=Go.Ev.valOf (λ_=>x) λ_=>0) zz_not isR_elim (rngOrc_ok (λe he=>?_) (λe he=>(by cases he))) mixed (k1Ok _ _) ftOk ⟨[],(λj p h=>by simp at h),hr⟩ w hw [.int .i64 x] ⟨rfl,trivial⟩
 rw [List.mem_singleton] at he
 subst he
 exact ⟨_,h2,.inl rfl⟩
end Go.Proofs.YtkmopacddblfeaaGreatDoor.Ev
