/-
  Proved: the call of cachetlaw26.RunWrites returns true at every input, and the input reads as it did. Its conditions: none beside the card's own (the listed tables lie as the program lays them).
-/
import Derived.Test.YtkmopacddblfeaaGreatDoorKxRow
import Derived.Test.YtkmopacddblfeaaGreatDoorWritesL
import Derived.Test.YtkmopacddblfeaaGreatDoorKxGoes
import Derived.Test.YtkmopacddblfeaaGreatDoorRunWritesF
import Derived.WalkKit
namespace Go.Proofs.YtkmopacddblfeaaGreatDoor.runWrites
open Go Go.Kx Go.Proofs Go.ChangeShapes Go.WideShapes Go.RowKit Go.ChangeMaps Go.Ev Go.Proofs.YtkmopacddblfeaaGreatDoor.Ev YtkmopacddblfeaaGreatDoor
theorem fr_kept {ρ : Rho} {w w' : World} (h : Fr ρ [] w w') (may : MemPlace → Prop) : w.keptBut w' may := by
  have hk : ∀ i, i < w.heap.size → w'.heap[i]? = w.heap[i]? := fun i hi => h.keep i hi fun id p hl => by cases hl
  refine World.keptBut_mono (fun _ (f : False) => f.elim) ⟨h.os, h.output, fun i hi => ?_⟩
  rw [hk i hi]
  cases e : w.heap[i]? with
  | none => trivial
  | some o => cases o <;> simp
set_option linter.unusedVariables false
set_option maxRecDepth 100000 in
theorem lifted (os : Os) (started : os.Started) (H : Type) (enc : TypeId × Value → H) :
    ReturnsInHanded {} Tryz.checked os 5 .any (fun w args => (Rows.runWritesSpec.pre enc Tryz.prog Tryz.f5 [] false w args ∧ laidMetH Tryz.prog Rows.runWritesRow.laid w) ∧ sizedMet enc Tryz.prog Tryz.f5 (OpenSpec.ofChange Rows.runWritesSpec) false w args)
      (Rows.runWritesSpec.post enc Tryz.prog Tryz.f5 false true false false) := by
  refine returns_and_shaped (C := Tryz.checked) (X := fun w _ => laidMetH Tryz.prog Rows.runWritesRow.laid w) (fun _ _ _ hh h => h.of_heap hh) kOwn started (by kernel_rfl) Tryz.func5
    (ChangeSpec.witness_at (enc := enc) (C := Tryz.checked) (os := os) (X := fun w _ => laidMetH Tryz.prog Rows.runWritesRow.laid w) false (kWorld os) #[.int .i64 0] 8 rfl (by kernel_rfl) (by kernel_rfl) (by kernel_rfl) (by kernel_rfl) (by kernel_rfl) (k_met os _)) ?_
  intro W base args ds gs before hval0 hW hlaid hsh
  have hval : ∀ (j : Nat) t v, Tryz.f5.params[j]? = some t → args[j]? = some v → Value.okWide Tryz.prog W .any base t v := hval0
  have hW' := hW
  obtain ⟨p, q, hA0, hV, rfl, hfz, hnd⟩ := hW
  have hA : DataW.TrodAll enc Tryz.prog W 0 (fun _ => true) true Tryz.f5.params.toList args.toList ds p := hA0
  rw [Tryz.params5] at hA hval
  obtain ⟨v0, d0, rfl, rfl, h0⟩ := trodAll_one hA
  obtain ⟨rfl, rfl⟩ := trodVars_none hV
  obtain ⟨x, rfl, rfl, rfl, hx⟩ := open_int Tryz.underlying3 (hval 0 3 v0 rfl rfl) h0
  have hgw : GW 0 1 3 W := gw_of hsh hlaid
  refine (writes_ok x W hgw).mono fun e W' ⟨he, hf⟩ => ?_
  subst he
  exact ⟨_, rfl, _, _, _, [], [], [], hW', trodAll_mk1 (shut_bool Tryz.underlying4 true), trodAll_mk1 (shut_int Tryz.underlying3 hx), rfl, fr_kept hf _, fun h => by cases h⟩
theorem over : Rows.runWritesRow.holds Tryz.pinned (OpenSpec.ofChange Rows.runWritesSpec) :=
  OpenClaim.holds_of_wide 5 Tryz.f5 rfl rfl rfl rfl rfl rfl rfl ⟨rfl, rfl, rfl, rfl, rfl⟩ rfl rfl rfl rfl rfl (by kernel_rfl) Tryz.func5 runWritesFacts.closed
    (of_decide_eq_true (by kernel_rfl)) (by unfold Func.isWrapper; first | (rw [if_pos (by decide +kernel)]; kernel_rfl) | (rw [if_neg (by decide +kernel)]; exact ⟨rfl, rfl⟩))
    (fun os started H enc _ => lifted os started H enc)
theorem w1 : Rows.runWritesRow.wfByText (OpenSpec.ofChange Rows.runWritesSpec) = true := by kernel_rfl
theorem w2 : Tryz.pinned.checked.prog.mainIs = some (true, "1d54be7bfd9d88cd89f18064617c789637c83811667ef482496424fb2dd46691".toList) := by kernel_rfl
theorem w3 : true = Tryz.pinned.checked.prog.looks [] := by kernel_rfl
theorem w4 : false = Rows.runWritesRow.goesBy Tryz.pinned.checked.prog := goesBy_no rfl none_goes
theorem w5 : Tryz.prog.funcNamed "cachet/cachetlaw26.RunWrites" = some 5 := by kernel_rfl
theorem w6 : Tryz.prog.wantsStandIn 3 = false := by kernel_rfl
theorem w7 : Tryz.prog.wantsStandIn 4 = false := by kernel_rfl
theorem proved : Rows.RunWritesCardSaid :=
  Claim7.holds_tied_plain_at .later [] [.data, .data, .data, .data, .sentinel, .sentinel, .pinned] true (true, "1d54be7bfd9d88cd89f18064617c789637c83811667ef482496424fb2dd46691") true
    over (fun _ h => by cases h) w1 (fun _ h => by cases h) runWrites_row_tie rfl ⟨rfl, rfl⟩ w2 rfl
    (fun f fn hf hfn => by
      obtain rfl : f = 5 := Option.some.inj (w5.symm.trans hf) |>.symm
      obtain rfl : fn = Tryz.f5 := (Option.some.inj (Tryz.func5.symm.trans hfn)).symm
      exact ⟨w3, fun j t ht => by
        rw [Tryz.params5] at ht
        rcases j with _ | j
        · obtain rfl : t = 3 := by simpa using ht.symm
          exact w6
        · simp at ht⟩)
    w4
#print axioms proved
end Go.Proofs.YtkmopacddblfeaaGreatDoor.runWrites
