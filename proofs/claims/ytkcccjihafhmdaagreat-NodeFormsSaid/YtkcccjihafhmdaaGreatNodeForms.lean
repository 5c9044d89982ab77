/-
  Proved: the call of cachetlaw22.NodeForms returns true at every input. No condition.
  The frame of the proof was written by the seat's proof-skeleton.mjs; the walk is filled in.
-/
import Derived.Test.YtkcccjihafhmdaaGreatRows
import Derived.Test.YtkcccjihafhmdaaGreatNodeFormsC1
import Derived.Test.YtkcccjihafhmdaaGreatNodeFormsC2
import Derived.Test.YtkcccjihafhmdaaGreatNodeFormsC3
import Derived.Test.YtkcccjihafhmdaaGreatNodeFormsC4
import Derived.Test.YtkcccjihafhmdaaGreatNodeFormsC5
import Derived.Test.YtkcccjihafhmdaaGreatNodeFormsC6
import Derived.Test.YtkcccjihafhmdaaGreatNodeFormsC7
import Derived.Test.YtkcccjihafhmdaaGreatNodeFormsC8
import Derived.Test.YtkcccjihafhmdaaGreatNodeFormsC9
import Derived.Test.YtkcccjihafhmdaaGreatNodeFormsF
import Derived.WalkKit
import Derived.ProofKit
import Derived.OpenShut
namespace Go.Proofs.YtkcccjihafhmdaaGreat.nodeForms
open Go.ChangeShapes Go.WideShapes Go.ChangeAt Go.RowKit
set_option linter.unusedVariables false

theorem own : ownKnob Tryz.prog.godebug = none := by kernel_rfl

/-! ### STEP 1: THE WALK -/
theorem walk (a0 : Int) (a1 : Int) (a2 : Int) (w0 : (Lit.int .i64 a0).wf = true) (w1 : (Lit.int .i64 a1).wf = true) (w2 : (Lit.int .i64 a2).wf = true) (w : World) :
    Calls Tryz.prog 6 #[.int .i64 a0, .int .i64 a1, .int .i64 a2] w fun e w' => e = .returned (.bool true) ∧ Go.Ev.GrownE w w' := by
  obtain ⟨k, hk, ek⟩ := Go.Ev.mask_cases a2 15 (by decide)
  rcases (show a1 < 1 ∨ a1 = 1 ∨ a1 = 2 ∨ a1 = 3 ∨ a1 = 4 ∨ a1 = 5 ∨ a1 = 6 ∨ a1 = 7 ∨ 7 < a1 by omega) with hb1 | hb1 | hb1 | hb1 | hb1 | hb1 | hb1 | hb1 | hb1
  · refine Ev.nodeFormsRuns _ _ _ _ a0 a1 a2 k ek (fun e he => ?_) (.inl rfl) (.inl rfl) (Go.Ev.pcCons (b := 15) (by omega) (by omega) Go.Ev.pcNil) Ev.cNodeForms0_0 w
    simp only [List.mem_cons, List.not_mem_nil, or_false] at he
    rcases he with rfl | rfl | rfl | rfl | rfl
    · exact Ev.ent_geq (by show decide ((1 : Int) ≤ a1) = false; exact decide_eq_false (by omega))
    · exact Ev.ent_eql (by show (a1 == 1) = false; simp; omega)
    · exact Ev.ent_eql (by show (a1 == 3) = false; simp; omega)
    · exact Ev.ent_eql (by show (a1 == 5) = false; simp; omega)
    · exact Ev.ent_eql (by show (a1 == 7) = false; simp; omega)
  · rcases (show a0 < 0 ∨ a0 = 0 ∨ 1 ≤ a0 by omega) with hb0 | hb0 | hb0
    · refine Ev.nodeFormsRuns _ _ _ _ a0 a1 a2 k ek (fun e he => ?_) (.inl rfl) (.inr (by rw [hb1])) (Go.Ev.pcCons (b := 15) (by omega) (by omega) Go.Ev.pcNil) Ev.cNodeForms1_0 w
      simp only [List.mem_cons, List.not_mem_nil, or_false] at he
      rcases he with rfl | rfl
      · exact Ev.ent_geq (by show decide ((0 : Int) ≤ a0) = false; exact decide_eq_false (by omega))
      · exact Ev.ent_lss (by show decide (a0 < (0 : Int)) = true; exact decide_eq_true (by omega))
    · rcases (show (0 ≤ k ∧ k ≤ 5) ∨ (6 ≤ k ∧ k ≤ 9) ∨ (10 ≤ k ∧ k ≤ 12) ∨ (13 ≤ k ∧ k ≤ 15) by omega) with g | g | g | g
      · refine Ev.nodeFormsRuns _ _ _ _ a0 a1 a2 k ek (fun e he => ?_) (.inr (by rw [hb0])) (.inr (by rw [hb1])) (Go.Ev.pcCons (b := 5) (by omega) (by omega) Go.Ev.pcNil) Ev.cNodeForms2_0 w
        cases he
      · refine Ev.nodeFormsRuns _ _ _ _ a0 a1 a2 k ek (fun e he => ?_) (.inr (by rw [hb0])) (.inr (by rw [hb1])) (Go.Ev.pcCons (b := 9) (by omega) (by omega) Go.Ev.pcNil) Ev.cNodeForms2_6 w
        cases he
      · refine Ev.nodeFormsRuns _ _ _ _ a0 a1 a2 k ek (fun e he => ?_) (.inr (by rw [hb0])) (.inr (by rw [hb1])) (Go.Ev.pcCons (b := 12) (by omega) (by omega) Go.Ev.pcNil) Ev.cNodeForms2_10 w
        cases he
      · refine Ev.nodeFormsRuns _ _ _ _ a0 a1 a2 k ek (fun e he => ?_) (.inr (by rw [hb0])) (.inr (by rw [hb1])) (Go.Ev.pcCons (b := 15) (by omega) (by omega) Go.Ev.pcNil) Ev.cNodeForms2_13 w
        cases he
    · refine Ev.nodeFormsRuns _ _ _ _ a0 a1 a2 k ek (fun e he => ?_) (.inl rfl) (.inr (by rw [hb1])) (Go.Ev.pcCons (b := 15) (by omega) (by omega) Go.Ev.pcNil) Ev.cNodeForms3_0 w
      simp only [List.mem_cons, List.not_mem_nil, or_false] at he
      rcases he with rfl | rfl | rfl | rfl
      · exact Ev.ent_geq (by show decide ((0 : Int) ≤ a0) = true; exact decide_eq_true (by omega))
      · exact Ev.ent_lss (by show decide (a0 < (0 : Int)) = false; exact decide_eq_false (by omega))
      · exact Ev.ent_lss (by show decide (a0 < (1 : Int)) = false; exact decide_eq_false (by omega))
      · exact Ev.ent_geq (by show decide ((1 : Int) ≤ a0) = true; exact decide_eq_true (by omega))
  · refine Ev.nodeFormsRuns _ _ _ _ a0 a1 a2 k ek (fun e he => ?_) (.inl rfl) (.inr (by rw [hb1])) (Go.Ev.pcCons (b := 15) (by omega) (by omega) Go.Ev.pcNil) Ev.cNodeForms4_0 w
    cases he
  · rcases (show a0 < 0 ∨ a0 = 0 ∨ a0 = 1 ∨ a0 = 2 ∨ 3 ≤ a0 by omega) with hb0 | hb0 | hb0 | hb0 | hb0
    · refine Ev.nodeFormsRuns _ _ _ _ a0 a1 a2 k ek (fun e he => ?_) (.inl rfl) (.inr (by rw [hb1])) (Go.Ev.pcCons (b := 15) (by omega) (by omega) Go.Ev.pcNil) Ev.cNodeForms5_0 w
      simp only [List.mem_cons, List.not_mem_nil, or_false] at he
      rcases he with rfl | rfl
      · exact Ev.ent_geq (by show decide ((0 : Int) ≤ a0) = false; exact decide_eq_false (by omega))
      · exact Ev.ent_lss (by show decide (a0 < (0 : Int)) = true; exact decide_eq_true (by omega))
    · rcases (show (0 ≤ k ∧ k ≤ 5) ∨ (6 ≤ k ∧ k ≤ 9) ∨ (10 ≤ k ∧ k ≤ 12) ∨ (13 ≤ k ∧ k ≤ 15) by omega) with g | g | g | g
      · refine Ev.nodeFormsRuns _ _ _ _ a0 a1 a2 k ek (fun e he => ?_) (.inr (by rw [hb0])) (.inr (by rw [hb1])) (Go.Ev.pcCons (b := 5) (by omega) (by omega) Go.Ev.pcNil) Ev.cNodeForms6_0 w
        cases he
      · refine Ev.nodeFormsRuns _ _ _ _ a0 a1 a2 k ek (fun e he => ?_) (.inr (by rw [hb0])) (.inr (by rw [hb1])) (Go.Ev.pcCons (b := 9) (by omega) (by omega) Go.Ev.pcNil) Ev.cNodeForms6_6 w
        cases he
      · refine Ev.nodeFormsRuns _ _ _ _ a0 a1 a2 k ek (fun e he => ?_) (.inr (by rw [hb0])) (.inr (by rw [hb1])) (Go.Ev.pcCons (b := 12) (by omega) (by omega) Go.Ev.pcNil) Ev.cNodeForms6_10 w
        cases he
      · refine Ev.nodeFormsRuns _ _ _ _ a0 a1 a2 k ek (fun e he => ?_) (.inr (by rw [hb0])) (.inr (by rw [hb1])) (Go.Ev.pcCons (b := 15) (by omega) (by omega) Go.Ev.pcNil) Ev.cNodeForms6_13 w
        cases he
    · rcases (show (0 ≤ k ∧ k ≤ 5) ∨ (6 ≤ k ∧ k ≤ 9) ∨ (10 ≤ k ∧ k ≤ 12) ∨ (13 ≤ k ∧ k ≤ 15) by omega) with g | g | g | g
      · refine Ev.nodeFormsRuns _ _ _ _ a0 a1 a2 k ek (fun e he => ?_) (.inr (by rw [hb0])) (.inr (by rw [hb1])) (Go.Ev.pcCons (b := 5) (by omega) (by omega) Go.Ev.pcNil) Ev.cNodeForms7_0 w
        cases he
      · refine Ev.nodeFormsRuns _ _ _ _ a0 a1 a2 k ek (fun e he => ?_) (.inr (by rw [hb0])) (.inr (by rw [hb1])) (Go.Ev.pcCons (b := 9) (by omega) (by omega) Go.Ev.pcNil) Ev.cNodeForms7_6 w
        cases he
      · refine Ev.nodeFormsRuns _ _ _ _ a0 a1 a2 k ek (fun e he => ?_) (.inr (by rw [hb0])) (.inr (by rw [hb1])) (Go.Ev.pcCons (b := 12) (by omega) (by omega) Go.Ev.pcNil) Ev.cNodeForms7_10 w
        cases he
      · refine Ev.nodeFormsRuns _ _ _ _ a0 a1 a2 k ek (fun e he => ?_) (.inr (by rw [hb0])) (.inr (by rw [hb1])) (Go.Ev.pcCons (b := 15) (by omega) (by omega) Go.Ev.pcNil) Ev.cNodeForms7_13 w
        cases he
    · rcases (show (0 ≤ k ∧ k ≤ 5) ∨ (6 ≤ k ∧ k ≤ 9) ∨ (10 ≤ k ∧ k ≤ 12) ∨ (13 ≤ k ∧ k ≤ 15) by omega) with g | g | g | g
      · refine Ev.nodeFormsRuns _ _ _ _ a0 a1 a2 k ek (fun e he => ?_) (.inr (by rw [hb0])) (.inr (by rw [hb1])) (Go.Ev.pcCons (b := 5) (by omega) (by omega) Go.Ev.pcNil) Ev.cNodeForms8_0 w
        cases he
      · refine Ev.nodeFormsRuns _ _ _ _ a0 a1 a2 k ek (fun e he => ?_) (.inr (by rw [hb0])) (.inr (by rw [hb1])) (Go.Ev.pcCons (b := 9) (by omega) (by omega) Go.Ev.pcNil) Ev.cNodeForms8_6 w
        cases he
      · refine Ev.nodeFormsRuns _ _ _ _ a0 a1 a2 k ek (fun e he => ?_) (.inr (by rw [hb0])) (.inr (by rw [hb1])) (Go.Ev.pcCons (b := 12) (by omega) (by omega) Go.Ev.pcNil) Ev.cNodeForms8_10 w
        cases he
      · refine Ev.nodeFormsRuns _ _ _ _ a0 a1 a2 k ek (fun e he => ?_) (.inr (by rw [hb0])) (.inr (by rw [hb1])) (Go.Ev.pcCons (b := 15) (by omega) (by omega) Go.Ev.pcNil) Ev.cNodeForms8_13 w
        cases he
    · refine Ev.nodeFormsRuns _ _ _ _ a0 a1 a2 k ek (fun e he => ?_) (.inl rfl) (.inr (by rw [hb1])) (Go.Ev.pcCons (b := 15) (by omega) (by omega) Go.Ev.pcNil) Ev.cNodeForms9_0 w
      simp only [List.mem_cons, List.not_mem_nil, or_false] at he
      rcases he with rfl | rfl | rfl | rfl
      · exact Ev.ent_geq (by show decide ((0 : Int) ≤ a0) = true; exact decide_eq_true (by omega))
      · exact Ev.ent_lss (by show decide (a0 < (0 : Int)) = false; exact decide_eq_false (by omega))
      · exact Ev.ent_lss (by show decide (a0 < (3 : Int)) = false; exact decide_eq_false (by omega))
      · exact Ev.ent_geq (by show decide ((3 : Int) ≤ a0) = true; exact decide_eq_true (by omega))
  · refine Ev.nodeFormsRuns _ _ _ _ a0 a1 a2 k ek (fun e he => ?_) (.inl rfl) (.inr (by rw [hb1])) (Go.Ev.pcCons (b := 15) (by omega) (by omega) Go.Ev.pcNil) Ev.cNodeForms10_0 w
    cases he
  · rcases (show a0 < 0 ∨ a0 = 0 ∨ a0 = 1 ∨ a0 = 2 ∨ a0 = 3 ∨ a0 = 4 ∨ 5 ≤ a0 by omega) with hb0 | hb0 | hb0 | hb0 | hb0 | hb0 | hb0
    · refine Ev.nodeFormsRuns _ _ _ _ a0 a1 a2 k ek (fun e he => ?_) (.inl rfl) (.inr (by rw [hb1])) (Go.Ev.pcCons (b := 15) (by omega) (by omega) Go.Ev.pcNil) Ev.cNodeForms11_0 w
      simp only [List.mem_cons, List.not_mem_nil, or_false] at he
      rcases he with rfl | rfl
      · exact Ev.ent_geq (by show decide ((0 : Int) ≤ a0) = false; exact decide_eq_false (by omega))
      · exact Ev.ent_lss (by show decide (a0 < (0 : Int)) = true; exact decide_eq_true (by omega))
    · rcases (show (0 ≤ k ∧ k ≤ 5) ∨ (6 ≤ k ∧ k ≤ 9) ∨ (10 ≤ k ∧ k ≤ 12) ∨ (13 ≤ k ∧ k ≤ 15) by omega) with g | g | g | g
      · refine Ev.nodeFormsRuns _ _ _ _ a0 a1 a2 k ek (fun e he => ?_) (.inr (by rw [hb0])) (.inr (by rw [hb1])) (Go.Ev.pcCons (b := 5) (by omega) (by omega) Go.Ev.pcNil) Ev.cNodeForms12_0 w
        cases he
      · refine Ev.nodeFormsRuns _ _ _ _ a0 a1 a2 k ek (fun e he => ?_) (.inr (by rw [hb0])) (.inr (by rw [hb1])) (Go.Ev.pcCons (b := 9) (by omega) (by omega) Go.Ev.pcNil) Ev.cNodeForms12_6 w
        cases he
      · refine Ev.nodeFormsRuns _ _ _ _ a0 a1 a2 k ek (fun e he => ?_) (.inr (by rw [hb0])) (.inr (by rw [hb1])) (Go.Ev.pcCons (b := 12) (by omega) (by omega) Go.Ev.pcNil) Ev.cNodeForms12_10 w
        cases he
      · refine Ev.nodeFormsRuns _ _ _ _ a0 a1 a2 k ek (fun e he => ?_) (.inr (by rw [hb0])) (.inr (by rw [hb1])) (Go.Ev.pcCons (b := 15) (by omega) (by omega) Go.Ev.pcNil) Ev.cNodeForms12_13 w
        cases he
    · rcases (show (0 ≤ k ∧ k ≤ 5) ∨ (6 ≤ k ∧ k ≤ 9) ∨ (10 ≤ k ∧ k ≤ 12) ∨ (13 ≤ k ∧ k ≤ 15) by omega) with g | g | g | g
      · refine Ev.nodeFormsRuns _ _ _ _ a0 a1 a2 k ek (fun e he => ?_) (.inr (by rw [hb0])) (.inr (by rw [hb1])) (Go.Ev.pcCons (b := 5) (by omega) (by omega) Go.Ev.pcNil) Ev.cNodeForms13_0 w
        cases he
      · refine Ev.nodeFormsRuns _ _ _ _ a0 a1 a2 k ek (fun e he => ?_) (.inr (by rw [hb0])) (.inr (by rw [hb1])) (Go.Ev.pcCons (b := 9) (by omega) (by omega) Go.Ev.pcNil) Ev.cNodeForms13_6 w
        cases he
      · refine Ev.nodeFormsRuns _ _ _ _ a0 a1 a2 k ek (fun e he => ?_) (.inr (by rw [hb0])) (.inr (by rw [hb1])) (Go.Ev.pcCons (b := 12) (by omega) (by omega) Go.Ev.pcNil) Ev.cNodeForms13_10 w
        cases he
      · refine Ev.nodeFormsRuns _ _ _ _ a0 a1 a2 k ek (fun e he => ?_) (.inr (by rw [hb0])) (.inr (by rw [hb1])) (Go.Ev.pcCons (b := 15) (by omega) (by omega) Go.Ev.pcNil) Ev.cNodeForms13_13 w
        cases he
    · rcases (show (0 ≤ k ∧ k ≤ 5) ∨ (6 ≤ k ∧ k ≤ 9) ∨ (10 ≤ k ∧ k ≤ 12) ∨ (13 ≤ k ∧ k ≤ 15) by omega) with g | g | g | g
      · refine Ev.nodeFormsRuns _ _ _ _ a0 a1 a2 k ek (fun e he => ?_) (.inr (by rw [hb0])) (.inr (by rw [hb1])) (Go.Ev.pcCons (b := 5) (by omega) (by omega) Go.Ev.pcNil) Ev.cNodeForms14_0 w
        cases he
      · refine Ev.nodeFormsRuns _ _ _ _ a0 a1 a2 k ek (fun e he => ?_) (.inr (by rw [hb0])) (.inr (by rw [hb1])) (Go.Ev.pcCons (b := 9) (by omega) (by omega) Go.Ev.pcNil) Ev.cNodeForms14_6 w
        cases he
      · refine Ev.nodeFormsRuns _ _ _ _ a0 a1 a2 k ek (fun e he => ?_) (.inr (by rw [hb0])) (.inr (by rw [hb1])) (Go.Ev.pcCons (b := 12) (by omega) (by omega) Go.Ev.pcNil) Ev.cNodeForms14_10 w
        cases he
      · refine Ev.nodeFormsRuns _ _ _ _ a0 a1 a2 k ek (fun e he => ?_) (.inr (by rw [hb0])) (.inr (by rw [hb1])) (Go.Ev.pcCons (b := 15) (by omega) (by omega) Go.Ev.pcNil) Ev.cNodeForms14_13 w
        cases he
    · rcases (show (0 ≤ k ∧ k ≤ 5) ∨ (6 ≤ k ∧ k ≤ 9) ∨ (10 ≤ k ∧ k ≤ 12) ∨ (13 ≤ k ∧ k ≤ 15) by omega) with g | g | g | g
      · refine Ev.nodeFormsRuns _ _ _ _ a0 a1 a2 k ek (fun e he => ?_) (.inr (by rw [hb0])) (.inr (by rw [hb1])) (Go.Ev.pcCons (b := 5) (by omega) (by omega) Go.Ev.pcNil) Ev.cNodeForms15_0 w
        cases he
      · refine Ev.nodeFormsRuns _ _ _ _ a0 a1 a2 k ek (fun e he => ?_) (.inr (by rw [hb0])) (.inr (by rw [hb1])) (Go.Ev.pcCons (b := 9) (by omega) (by omega) Go.Ev.pcNil) Ev.cNodeForms15_6 w
        cases he
      · refine Ev.nodeFormsRuns _ _ _ _ a0 a1 a2 k ek (fun e he => ?_) (.inr (by rw [hb0])) (.inr (by rw [hb1])) (Go.Ev.pcCons (b := 12) (by omega) (by omega) Go.Ev.pcNil) Ev.cNodeForms15_10 w
        cases he
      · refine Ev.nodeFormsRuns _ _ _ _ a0 a1 a2 k ek (fun e he => ?_) (.inr (by rw [hb0])) (.inr (by rw [hb1])) (Go.Ev.pcCons (b := 15) (by omega) (by omega) Go.Ev.pcNil) Ev.cNodeForms15_13 w
        cases he
    · rcases (show (0 ≤ k ∧ k ≤ 5) ∨ (6 ≤ k ∧ k ≤ 9) ∨ (10 ≤ k ∧ k ≤ 12) ∨ (13 ≤ k ∧ k ≤ 15) by omega) with g | g | g | g
      · refine Ev.nodeFormsRuns _ _ _ _ a0 a1 a2 k ek (fun e he => ?_) (.inr (by rw [hb0])) (.inr (by rw [hb1])) (Go.Ev.pcCons (b := 5) (by omega) (by omega) Go.Ev.pcNil) Ev.cNodeForms16_0 w
        cases he
      · refine Ev.nodeFormsRuns _ _ _ _ a0 a1 a2 k ek (fun e he => ?_) (.inr (by rw [hb0])) (.inr (by rw [hb1])) (Go.Ev.pcCons (b := 9) (by omega) (by omega) Go.Ev.pcNil) Ev.cNodeForms16_6 w
        cases he
      · refine Ev.nodeFormsRuns _ _ _ _ a0 a1 a2 k ek (fun e he => ?_) (.inr (by rw [hb0])) (.inr (by rw [hb1])) (Go.Ev.pcCons (b := 12) (by omega) (by omega) Go.Ev.pcNil) Ev.cNodeForms16_10 w
        cases he
      · refine Ev.nodeFormsRuns _ _ _ _ a0 a1 a2 k ek (fun e he => ?_) (.inr (by rw [hb0])) (.inr (by rw [hb1])) (Go.Ev.pcCons (b := 15) (by omega) (by omega) Go.Ev.pcNil) Ev.cNodeForms16_13 w
        cases he
    · refine Ev.nodeFormsRuns _ _ _ _ a0 a1 a2 k ek (fun e he => ?_) (.inl rfl) (.inr (by rw [hb1])) (Go.Ev.pcCons (b := 15) (by omega) (by omega) Go.Ev.pcNil) Ev.cNodeForms17_0 w
      simp only [List.mem_cons, List.not_mem_nil, or_false] at he
      rcases he with rfl | rfl | rfl | rfl
      · exact Ev.ent_geq (by show decide ((0 : Int) ≤ a0) = true; exact decide_eq_true (by omega))
      · exact Ev.ent_lss (by show decide (a0 < (0 : Int)) = false; exact decide_eq_false (by omega))
      · exact Ev.ent_lss (by show decide (a0 < (5 : Int)) = false; exact decide_eq_false (by omega))
      · exact Ev.ent_geq (by show decide ((5 : Int) ≤ a0) = true; exact decide_eq_true (by omega))
  · refine Ev.nodeFormsRuns _ _ _ _ a0 a1 a2 k ek (fun e he => ?_) (.inl rfl) (.inr (by rw [hb1])) (Go.Ev.pcCons (b := 15) (by omega) (by omega) Go.Ev.pcNil) Ev.cNodeForms18_0 w
    cases he
  · rcases (show a0 < 0 ∨ a0 = 0 ∨ a0 = 1 ∨ a0 = 2 ∨ a0 = 3 ∨ a0 = 4 ∨ a0 = 5 ∨ a0 = 6 ∨ 7 ≤ a0 by omega) with hb0 | hb0 | hb0 | hb0 | hb0 | hb0 | hb0 | hb0 | hb0
    · refine Ev.nodeFormsRuns _ _ _ _ a0 a1 a2 k ek (fun e he => ?_) (.inl rfl) (.inr (by rw [hb1])) (Go.Ev.pcCons (b := 15) (by omega) (by omega) Go.Ev.pcNil) Ev.cNodeForms19_0 w
      simp only [List.mem_cons, List.not_mem_nil, or_false] at he
      rcases he with rfl | rfl
      · exact Ev.ent_geq (by show decide ((0 : Int) ≤ a0) = false; exact decide_eq_false (by omega))
      · exact Ev.ent_lss (by show decide (a0 < (0 : Int)) = true; exact decide_eq_true (by omega))
    · rcases (show (0 ≤ k ∧ k ≤ 5) ∨ (6 ≤ k ∧ k ≤ 9) ∨ (10 ≤ k ∧ k ≤ 12) ∨ (13 ≤ k ∧ k ≤ 15) by omega) with g | g | g | g
      · refine Ev.nodeFormsRuns _ _ _ _ a0 a1 a2 k ek (fun e he => ?_) (.inr (by rw [hb0])) (.inr (by rw [hb1])) (Go.Ev.pcCons (b := 5) (by omega) (by omega) Go.Ev.pcNil) Ev.cNodeForms20_0 w
        cases he
      · refine Ev.nodeFormsRuns _ _ _ _ a0 a1 a2 k ek (fun e he => ?_) (.inr (by rw [hb0])) (.inr (by rw [hb1])) (Go.Ev.pcCons (b := 9) (by omega) (by omega) Go.Ev.pcNil) Ev.cNodeForms20_6 w
        cases he
      · refine Ev.nodeFormsRuns _ _ _ _ a0 a1 a2 k ek (fun e he => ?_) (.inr (by rw [hb0])) (.inr (by rw [hb1])) (Go.Ev.pcCons (b := 12) (by omega) (by omega) Go.Ev.pcNil) Ev.cNodeForms20_10 w
        cases he
      · refine Ev.nodeFormsRuns _ _ _ _ a0 a1 a2 k ek (fun e he => ?_) (.inr (by rw [hb0])) (.inr (by rw [hb1])) (Go.Ev.pcCons (b := 15) (by omega) (by omega) Go.Ev.pcNil) Ev.cNodeForms20_13 w
        cases he
    · rcases (show (0 ≤ k ∧ k ≤ 5) ∨ (6 ≤ k ∧ k ≤ 9) ∨ (10 ≤ k ∧ k ≤ 12) ∨ (13 ≤ k ∧ k ≤ 15) by omega) with g | g | g | g
      · refine Ev.nodeFormsRuns _ _ _ _ a0 a1 a2 k ek (fun e he => ?_) (.inr (by rw [hb0])) (.inr (by rw [hb1])) (Go.Ev.pcCons (b := 5) (by omega) (by omega) Go.Ev.pcNil) Ev.cNodeForms21_0 w
        cases he
      · refine Ev.nodeFormsRuns _ _ _ _ a0 a1 a2 k ek (fun e he => ?_) (.inr (by rw [hb0])) (.inr (by rw [hb1])) (Go.Ev.pcCons (b := 9) (by omega) (by omega) Go.Ev.pcNil) Ev.cNodeForms21_6 w
        cases he
      · refine Ev.nodeFormsRuns _ _ _ _ a0 a1 a2 k ek (fun e he => ?_) (.inr (by rw [hb0])) (.inr (by rw [hb1])) (Go.Ev.pcCons (b := 12) (by omega) (by omega) Go.Ev.pcNil) Ev.cNodeForms21_10 w
        cases he
      · refine Ev.nodeFormsRuns _ _ _ _ a0 a1 a2 k ek (fun e he => ?_) (.inr (by rw [hb0])) (.inr (by rw [hb1])) (Go.Ev.pcCons (b := 15) (by omega) (by omega) Go.Ev.pcNil) Ev.cNodeForms21_13 w
        cases he
    · rcases (show (0 ≤ k ∧ k ≤ 5) ∨ (6 ≤ k ∧ k ≤ 9) ∨ (10 ≤ k ∧ k ≤ 12) ∨ (13 ≤ k ∧ k ≤ 15) by omega) with g | g | g | g
      · refine Ev.nodeFormsRuns _ _ _ _ a0 a1 a2 k ek (fun e he => ?_) (.inr (by rw [hb0])) (.inr (by rw [hb1])) (Go.Ev.pcCons (b := 5) (by omega) (by omega) Go.Ev.pcNil) Ev.cNodeForms22_0 w
        cases he
      · refine Ev.nodeFormsRuns _ _ _ _ a0 a1 a2 k ek (fun e he => ?_) (.inr (by rw [hb0])) (.inr (by rw [hb1])) (Go.Ev.pcCons (b := 9) (by omega) (by omega) Go.Ev.pcNil) Ev.cNodeForms22_6 w
        cases he
      · refine Ev.nodeFormsRuns _ _ _ _ a0 a1 a2 k ek (fun e he => ?_) (.inr (by rw [hb0])) (.inr (by rw [hb1])) (Go.Ev.pcCons (b := 12) (by omega) (by omega) Go.Ev.pcNil) Ev.cNodeForms22_10 w
        cases he
      · refine Ev.nodeFormsRuns _ _ _ _ a0 a1 a2 k ek (fun e he => ?_) (.inr (by rw [hb0])) (.inr (by rw [hb1])) (Go.Ev.pcCons (b := 15) (by omega) (by omega) Go.Ev.pcNil) Ev.cNodeForms22_13 w
        cases he
    · rcases (show (0 ≤ k ∧ k ≤ 5) ∨ (6 ≤ k ∧ k ≤ 9) ∨ (10 ≤ k ∧ k ≤ 12) ∨ (13 ≤ k ∧ k ≤ 15) by omega) with g | g | g | g
      · refine Ev.nodeFormsRuns _ _ _ _ a0 a1 a2 k ek (fun e he => ?_) (.inr (by rw [hb0])) (.inr (by rw [hb1])) (Go.Ev.pcCons (b := 5) (by omega) (by omega) Go.Ev.pcNil) Ev.cNodeForms23_0 w
        cases he
      · refine Ev.nodeFormsRuns _ _ _ _ a0 a1 a2 k ek (fun e he => ?_) (.inr (by rw [hb0])) (.inr (by rw [hb1])) (Go.Ev.pcCons (b := 9) (by omega) (by omega) Go.Ev.pcNil) Ev.cNodeForms23_6 w
        cases he
      · refine Ev.nodeFormsRuns _ _ _ _ a0 a1 a2 k ek (fun e he => ?_) (.inr (by rw [hb0])) (.inr (by rw [hb1])) (Go.Ev.pcCons (b := 12) (by omega) (by omega) Go.Ev.pcNil) Ev.cNodeForms23_10 w
        cases he
      · refine Ev.nodeFormsRuns _ _ _ _ a0 a1 a2 k ek (fun e he => ?_) (.inr (by rw [hb0])) (.inr (by rw [hb1])) (Go.Ev.pcCons (b := 15) (by omega) (by omega) Go.Ev.pcNil) Ev.cNodeForms23_13 w
        cases he
    · rcases (show (0 ≤ k ∧ k ≤ 5) ∨ (6 ≤ k ∧ k ≤ 9) ∨ (10 ≤ k ∧ k ≤ 12) ∨ (13 ≤ k ∧ k ≤ 15) by omega) with g | g | g | g
      · refine Ev.nodeFormsRuns _ _ _ _ a0 a1 a2 k ek (fun e he => ?_) (.inr (by rw [hb0])) (.inr (by rw [hb1])) (Go.Ev.pcCons (b := 5) (by omega) (by omega) Go.Ev.pcNil) Ev.cNodeForms24_0 w
        cases he
      · refine Ev.nodeFormsRuns _ _ _ _ a0 a1 a2 k ek (fun e he => ?_) (.inr (by rw [hb0])) (.inr (by rw [hb1])) (Go.Ev.pcCons (b := 9) (by omega) (by omega) Go.Ev.pcNil) Ev.cNodeForms24_6 w
        cases he
      · refine Ev.nodeFormsRuns _ _ _ _ a0 a1 a2 k ek (fun e he => ?_) (.inr (by rw [hb0])) (.inr (by rw [hb1])) (Go.Ev.pcCons (b := 12) (by omega) (by omega) Go.Ev.pcNil) Ev.cNodeForms24_10 w
        cases he
      · refine Ev.nodeFormsRuns _ _ _ _ a0 a1 a2 k ek (fun e he => ?_) (.inr (by rw [hb0])) (.inr (by rw [hb1])) (Go.Ev.pcCons (b := 15) (by omega) (by omega) Go.Ev.pcNil) Ev.cNodeForms24_13 w
        cases he
    · rcases (show (0 ≤ k ∧ k ≤ 5) ∨ (6 ≤ k ∧ k ≤ 9) ∨ (10 ≤ k ∧ k ≤ 12) ∨ (13 ≤ k ∧ k ≤ 15) by omega) with g | g | g | g
      · refine Ev.nodeFormsRuns _ _ _ _ a0 a1 a2 k ek (fun e he => ?_) (.inr (by rw [hb0])) (.inr (by rw [hb1])) (Go.Ev.pcCons (b := 5) (by omega) (by omega) Go.Ev.pcNil) Ev.cNodeForms25_0 w
        cases he
      · refine Ev.nodeFormsRuns _ _ _ _ a0 a1 a2 k ek (fun e he => ?_) (.inr (by rw [hb0])) (.inr (by rw [hb1])) (Go.Ev.pcCons (b := 9) (by omega) (by omega) Go.Ev.pcNil) Ev.cNodeForms25_6 w
        cases he
      · refine Ev.nodeFormsRuns _ _ _ _ a0 a1 a2 k ek (fun e he => ?_) (.inr (by rw [hb0])) (.inr (by rw [hb1])) (Go.Ev.pcCons (b := 12) (by omega) (by omega) Go.Ev.pcNil) Ev.cNodeForms25_10 w
        cases he
      · refine Ev.nodeFormsRuns _ _ _ _ a0 a1 a2 k ek (fun e he => ?_) (.inr (by rw [hb0])) (.inr (by rw [hb1])) (Go.Ev.pcCons (b := 15) (by omega) (by omega) Go.Ev.pcNil) Ev.cNodeForms25_13 w
        cases he
    · rcases (show (0 ≤ k ∧ k ≤ 5) ∨ (6 ≤ k ∧ k ≤ 9) ∨ (10 ≤ k ∧ k ≤ 12) ∨ (13 ≤ k ∧ k ≤ 15) by omega) with g | g | g | g
      · refine Ev.nodeFormsRuns _ _ _ _ a0 a1 a2 k ek (fun e he => ?_) (.inr (by rw [hb0])) (.inr (by rw [hb1])) (Go.Ev.pcCons (b := 5) (by omega) (by omega) Go.Ev.pcNil) Ev.cNodeForms26_0 w
        cases he
      · refine Ev.nodeFormsRuns _ _ _ _ a0 a1 a2 k ek (fun e he => ?_) (.inr (by rw [hb0])) (.inr (by rw [hb1])) (Go.Ev.pcCons (b := 9) (by omega) (by omega) Go.Ev.pcNil) Ev.cNodeForms26_6 w
        cases he
      · refine Ev.nodeFormsRuns _ _ _ _ a0 a1 a2 k ek (fun e he => ?_) (.inr (by rw [hb0])) (.inr (by rw [hb1])) (Go.Ev.pcCons (b := 12) (by omega) (by omega) Go.Ev.pcNil) Ev.cNodeForms26_10 w
        cases he
      · refine Ev.nodeFormsRuns _ _ _ _ a0 a1 a2 k ek (fun e he => ?_) (.inr (by rw [hb0])) (.inr (by rw [hb1])) (Go.Ev.pcCons (b := 15) (by omega) (by omega) Go.Ev.pcNil) Ev.cNodeForms26_13 w
        cases he
    · refine Ev.nodeFormsRuns _ _ _ _ a0 a1 a2 k ek (fun e he => ?_) (.inl rfl) (.inr (by rw [hb1])) (Go.Ev.pcCons (b := 15) (by omega) (by omega) Go.Ev.pcNil) Ev.cNodeForms27_0 w
      simp only [List.mem_cons, List.not_mem_nil, or_false] at he
      rcases he with rfl | rfl | rfl | rfl
      · exact Ev.ent_geq (by show decide ((0 : Int) ≤ a0) = true; exact decide_eq_true (by omega))
      · exact Ev.ent_lss (by show decide (a0 < (0 : Int)) = false; exact decide_eq_false (by omega))
      · exact Ev.ent_lss (by show decide (a0 < (7 : Int)) = false; exact decide_eq_false (by omega))
      · exact Ev.ent_geq (by show decide ((7 : Int) ≤ a0) = true; exact decide_eq_true (by omega))
  · refine Ev.nodeFormsRuns _ _ _ _ a0 a1 a2 k ek (fun e he => ?_) (.inl rfl) (.inl rfl) (Go.Ev.pcCons (b := 15) (by omega) (by omega) Go.Ev.pcNil) Ev.cNodeForms28_0 w
    simp only [List.mem_cons, List.not_mem_nil, or_false] at he
    rcases he with rfl | rfl | rfl | rfl | rfl | rfl
    · exact Ev.ent_geq (by show decide ((1 : Int) ≤ a1) = true; exact decide_eq_true (by omega))
    · exact Ev.ent_leq (by show decide (a1 ≤ (7 : Int)) = false; exact decide_eq_false (by omega))
    · exact Ev.ent_eql (by show (a1 == 1) = false; simp; omega)
    · exact Ev.ent_eql (by show (a1 == 3) = false; simp; omega)
    · exact Ev.ent_eql (by show (a1 == 5) = false; simp; omega)
    · exact Ev.ent_eql (by show (a1 == 7) = false; simp; omega)

/-! ### THE ROW's STEP: WRITTEN OUT: LEAVE IT -/
set_option maxRecDepth 100000 in
theorem lifted (os : Os) (started : os.Started) (H : Type) (enc : TypeId × Value → H) :
    ReturnsInHanded {} Tryz.checked os 6 .any (Rows.nodeFormsSpec.pre6 enc Tryz.prog Tryz.f6 Rows.nodeFormsRow.domain false) (Rows.nodeFormsSpec.post enc Tryz.prog Tryz.f6 false true false false) := by
  refine returnsInHanded_of_change (C := Tryz.checked) own started (by kernel_rfl) Tryz.func6
    (ChangeSpec.witness6 (enc := enc) (C := Tryz.checked) false ⟨#[], #[.int .i64 0, .int .i64 0, .int .i64 0], []⟩ 8 (by kernel_rfl) (by kernel_rfl) (by kernel_rfl) (by kernel_rfl)) ?_
  intro W base args ds gs before hval0 hW hcnd _
  have hval : ∀ (j : Nat) t v, Tryz.f6.params[j]? = some t → args[j]? = some v → Value.okWide Tryz.prog W .any base t v := hval0
  have hW' := hW
  obtain ⟨p, q, hA0, hV, rfl, hfz, hnd⟩ := hW
  have hA : DataW.TrodAll enc Tryz.prog W 0 (fun _ => true) true Tryz.f6.params.toList args.toList ds p := hA0
  rw [Tryz.params6] at hA hval
  obtain ⟨v0, vs0, d0, ds0, p0, q0, hargs, rfl, rfl, h0, r0⟩ := trodAll_cons hA
  obtain ⟨v1, vs1, d1, ds1, p1, q1, rfl, rfl, rfl, h1, r1⟩ := trodAll_cons r0
  obtain ⟨v2, vs2, d2, ds2, p2, q2, rfl, rfl, rfl, h2, r2⟩ := trodAll_cons r1
  obtain ⟨rfl, rfl, rfl⟩ := trodAll_nil r2
  obtain rfl : args = #[v0, v1, v2] := by cases args; simp_all
  obtain ⟨rfl, rfl⟩ := trodVars_none hV
  obtain ⟨a0, rfl, rfl, rfl, w0⟩ := open_int Tryz.underlying3 (hval 0 3 v0 rfl rfl) h0
  obtain ⟨a1, rfl, rfl, rfl, w1⟩ := open_int Tryz.underlying3 (hval 1 3 v1 rfl rfl) h1
  obtain ⟨a2, rfl, rfl, rfl, w2⟩ := open_int Tryz.underlying3 (hval 2 3 v2 rfl rfl) h2
  clear hA0 hval0
  simp only [List.append_nil] at hW'
  refine (walk a0 a1 a2 w0 w1 w2 W).mono fun e W' ⟨he, hg⟩ => ?_
  subst he
  exact ⟨_, rfl, Go.Ev.post_of_grown (pa := []) (pv := []) hW' (fun _ _ _ => (trodAll_cons_mk (shut_bool Tryz.underlying4 _) trodAll_mk0)) (fun sp _ => (trodAll_cons_mk (shut_int Tryz.underlying3 w0) (trodAll_cons_mk (shut_int Tryz.underlying3 w1) (trodAll_cons_mk (shut_int Tryz.underlying3 w2) trodAll_mk0)))) (fun _ _ => rfl) rfl
    (hg.frame _) hg.2.1 (ok_one (by kernel_rfl) rfl (okWide_bool_mk Tryz.underlying4 _))⟩

theorem over : Rows.nodeFormsRow.holds Tryz.pinned (OpenSpec.ofChange Rows.nodeFormsSpec) :=
  OpenClaim.holds_of_wide 6 Tryz.f6 rfl rfl rfl rfl rfl rfl rfl ⟨rfl, rfl, rfl, rfl, rfl⟩ rfl rfl rfl rfl rfl (by kernel_rfl) Tryz.func6 nodeFormsFacts.closed
    (of_decide_eq_true (by kernel_rfl)) (by unfold Func.isWrapper; first | (rw [if_pos (by decide +kernel)]; kernel_rfl) | (rw [if_neg (by decide +kernel)]; exact ⟨rfl, rfl⟩))
    (fun os started H enc _ => lifted os started H enc)

/-- ████ THE STATEMENT ████ -/
theorem proved : Rows.NodeFormsSaid :=
  over
#print axioms proved
end Go.Proofs.YtkcccjihafhmdaaGreat.nodeForms
