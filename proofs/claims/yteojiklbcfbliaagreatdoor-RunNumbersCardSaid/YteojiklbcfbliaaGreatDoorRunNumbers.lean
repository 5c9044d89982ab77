/-
  Proved: the call of cachetlaw26.RunNumbers returns true at every input, and the input reads as it did. Its conditions: none beside the card's own (the listed tables lie as the program lays them).
-/
import Derived.Test.YteojiklbcfbliaaGreatDoorKxRow
import Derived.Test.YteojiklbcfbliaaGreatDoorRnV
import Derived.Test.YteojiklbcfbliaaGreatDoorKxGoes
import Derived.Test.YteojiklbcfbliaaGreatDoorRunNumbersF
import Derived.WalkKit
namespace Go.Proofs.YteojiklbcfbliaaGreatDoor.runNumbers
open Go Go.Kx Go.Proofs Go.ChangeShapes Go.WideShapes Go.RowKit Go.ChangeMaps Go.Ev Go.Proofs.YteojiklbcfbliaaGreatDoor.Ev YteojiklbcfbliaaGreatDoor
set_option linter.unusedVariables false
set_option maxRecDepth 100000 in
theorem lifted (os : Os) (started : os.Started) (H : Type) (enc : TypeId × Value → H) :
    ReturnsInHanded {} Tryz.checked os 3 .any (fun w args => (Rows.runNumbersSpec.pre enc Tryz.prog Tryz.f3 [] false w args ∧ laidMetH Tryz.prog Rows.runNumbersRow.laid w) ∧ sizedMet enc Tryz.prog Tryz.f3 (OpenSpec.ofChange Rows.runNumbersSpec) false w args)
      (Rows.runNumbersSpec.post enc Tryz.prog Tryz.f3 false true false false) := by
  refine returns_and_shaped (C := Tryz.checked) (X := fun w _ => laidMetH Tryz.prog Rows.runNumbersRow.laid w) (fun _ _ _ hh h => h.of_heap hh) kOwn started (by kernel_rfl) Tryz.func3
    (ChangeSpec.witness_at (enc := enc) (C := Tryz.checked) (os := os) (X := fun w _ => laidMetH Tryz.prog Rows.runNumbersRow.laid w) false (kWorld os) #[.int .i64 0] 8 rfl (by kernel_rfl) (by kernel_rfl) (by kernel_rfl) (by kernel_rfl) (by kernel_rfl) (k_met os _)) ?_
  intro W base args ds gs before hval0 hW hlaid hsh
  have hval : ∀ (j : Nat) t v, Tryz.f3.params[j]? = some t → args[j]? = some v → Value.okWide Tryz.prog W .any base t v := hval0
  have hW' := hW
  obtain ⟨p, q, hA0, hV, rfl, hfz, hnd⟩ := hW
  have hA : DataW.TrodAll enc Tryz.prog W 0 (fun _ => true) true Tryz.f3.params.toList args.toList ds p := hA0
  rw [Tryz.params3] at hA hval
  obtain ⟨v0, d0, rfl, rfl, h0⟩ := trodAll_one hA
  obtain ⟨rfl, rfl⟩ := trodVars_none hV
  obtain ⟨x, rfl, rfl, rfl, hx⟩ := open_int Tryz.underlying3 (hval 0 3 v0 rfl rfl) h0
  have hgw : GW 0 1 3 W := gw_of hsh hlaid
  obtain ⟨hx1, hx2⟩ : -9223372036854775808 ≤ x ∧ x ≤ 9223372036854775807 := by
    simp [Lit.wf, IntKind.min, IntKind.max, IntKind.signed, IntKind.bits] at hx
    omega
  refine (Go.Ry.law_ok x hx1 hx2 W (Go.Ry.gl_of hsh hlaid) (Go.Ry.awake_ok hgw)).mono fun e W' ⟨he, hf⟩ => ?_
  subst he
  exact ⟨_, rfl, _, _, _, [], [], [], hW', trodAll_mk1 (shut_bool Tryz.underlying4 true), trodAll_mk1 (shut_int Tryz.underlying3 hx), rfl, hf.frame _, fun h => by cases h⟩
theorem over : Rows.runNumbersRow.holds Tryz.pinned (OpenSpec.ofChange Rows.runNumbersSpec) :=
  OpenClaim.holds_of_wide 3 Tryz.f3 rfl rfl rfl rfl rfl rfl rfl ⟨rfl, rfl, rfl, rfl, rfl⟩ rfl rfl rfl rfl rfl (by kernel_rfl) Tryz.func3 runNumbersFacts.closed
    (of_decide_eq_true (by kernel_rfl)) (by unfold Func.isWrapper; first | (rw [if_pos (by decide +kernel)]; kernel_rfl) | (rw [if_neg (by decide +kernel)]; exact ⟨rfl, rfl⟩))
    (fun os started H enc _ => lifted os started H enc)
theorem w1 : Rows.runNumbersRow.wfByText (OpenSpec.ofChange Rows.runNumbersSpec) = true := by kernel_rfl
theorem w2 : Tryz.pinned.checked.prog.mainIs = some (true, "a0beb502296c48b69460a5f35698c636fc3a3ca1762ba586d617648f82f28952".toList) := by kernel_rfl
theorem w3 : true = Tryz.pinned.checked.prog.looks [] := by kernel_rfl
theorem w4 : false = Rows.runNumbersRow.goesBy Tryz.pinned.checked.prog := goesBy_no rfl none_goes
theorem w5 : Tryz.prog.funcNamed "cachet/cachetlaw26.RunNumbers" = some 3 := by kernel_rfl
theorem w6 : Tryz.prog.wantsStandIn 3 = false := by kernel_rfl
theorem w7 : Tryz.prog.wantsStandIn 4 = false := by kernel_rfl
theorem proved : Rows.RunNumbersCardSaid :=
  Claim7.holds_tied_plain_at .later [] [.data, .data, .data, .data, .sentinel, .sentinel, .pinned] true (true, "a0beb502296c48b69460a5f35698c636fc3a3ca1762ba586d617648f82f28952") true
    over (fun _ h => by cases h) w1 (fun _ h => by cases h) runNumbers_row_tie rfl ⟨rfl, rfl⟩ w2 rfl
    (fun f fn hf hfn => by
      obtain rfl : f = 3 := Option.some.inj (w5.symm.trans hf) |>.symm
      obtain rfl : fn = Tryz.f3 := (Option.some.inj (Tryz.func3.symm.trans hfn)).symm
      exact ⟨w3, fun j t ht => by
        rw [Tryz.params3] at ht
        rcases j with _ | j
        · obtain rfl : t = 3 := by simpa using ht.symm
          exact w6
        · simp at ht⟩)
    w4
#print axioms proved
end Go.Proofs.YteojiklbcfbliaaGreatDoor.runNumbers
