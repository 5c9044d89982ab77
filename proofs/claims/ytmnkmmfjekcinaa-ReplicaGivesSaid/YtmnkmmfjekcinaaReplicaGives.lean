/-
  Proved: the call of cachetlaw17.ReplicaGives returns true at every input. No condition.
  The frame of the proof was written by the seat's proof-skeleton.mjs; the walk is filled in.
-/
import Derived.Test.YtmnkmmfjekcinaaRows
import Derived.Test.YtmnkmmfjekcinaaReplicaGivesC1
import Derived.Test.YtmnkmmfjekcinaaReplicaGivesC2
import Derived.Test.YtmnkmmfjekcinaaReplicaGivesC3
import Derived.Test.YtmnkmmfjekcinaaReplicaGivesC4
import Derived.Test.YtmnkmmfjekcinaaReplicaGivesC5
import Derived.Test.YtmnkmmfjekcinaaReplicaGivesC6
import Derived.Test.YtmnkmmfjekcinaaReplicaGivesC7
import Derived.Test.YtmnkmmfjekcinaaReplicaGivesC8
import Derived.WalkKit
import Derived.ProofKit
import Derived.OpenShut
namespace Go.Proofs.Ytmnkmmfjekcinaa.replicaGives
open Go.ChangeShapes Go.WideShapes Go.ChangeAt Go.RowKit
set_option linter.unusedVariables false

theorem own : ownKnob Try.prog.godebug = none := by kernel_rfl

/-! ### STEP 1: THE WALK -/
theorem walk (a0 : Int) (a1 : Int) (a2 : Int) (a3 : Int) (w0 : (Lit.int .i64 a0).wf = true) (w1 : (Lit.int .i64 a1).wf = true) (w2 : (Lit.int .i64 a2).wf = true) (w3 : (Lit.int .i64 a3).wf = true) (w : World) :
    Calls Try.prog 13 #[.int .i64 a0, .int .i64 a1, .int .i64 a2, .int .i64 a3] w fun e w' => e = .returned (.bool true) ∧ Grown w w' := by
  obtain ⟨k0, h0, e0⟩ := Go.Ev.mask_cases a0 7 (by decide)
  obtain ⟨k1, h1, e1⟩ := Go.Ev.mask_cases a1 15 (by decide)
  obtain ⟨k2, h2, e2⟩ := Go.Ev.mask_cases a2 15 (by decide)
  obtain ⟨k3, h3, e3⟩ := Go.Ev.mask_cases a3 7 (by decide)
  have hrun : ∃ pc, Go.Ev.PcOk (Go.Ev.mOf [k0, k1, k2, k3]) pc ∧ Ev.runReplicaGives pc = true := by
    rcases (show (0 ≤ k0 ∧ k0 ≤ 0) ∨ (1 ≤ k0 ∧ k0 ≤ 1) ∨ (2 ≤ k0 ∧ k0 ≤ 2) ∨ (3 ≤ k0 ∧ k0 ≤ 3) ∨ (4 ≤ k0 ∧ k0 ≤ 4) ∨ (5 ≤ k0 ∧ k0 ≤ 5) ∨ (6 ≤ k0 ∧ k0 ≤ 6) ∨ (7 ≤ k0 ∧ k0 ≤ 7) by omega) with g0 | g0 | g0 | g0 | g0 | g0 | g0 | g0
    · rcases (show (0 ≤ k1 ∧ k1 ≤ 0) ∨ (1 ≤ k1 ∧ k1 ≤ 1) ∨ (2 ≤ k1 ∧ k1 ≤ 2) ∨ (3 ≤ k1 ∧ k1 ≤ 3) ∨ (4 ≤ k1 ∧ k1 ≤ 4) ∨ (5 ≤ k1 ∧ k1 ≤ 5) ∨ (6 ≤ k1 ∧ k1 ≤ 6) ∨ (7 ≤ k1 ∧ k1 ≤ 7) ∨ (8 ≤ k1 ∧ k1 ≤ 8) ∨ (9 ≤ k1 ∧ k1 ≤ 9) ∨ (10 ≤ k1 ∧ k1 ≤ 10) ∨ (11 ≤ k1 ∧ k1 ≤ 11) ∨ (12 ≤ k1 ∧ k1 ≤ 12) ∨ (13 ≤ k1 ∧ k1 ≤ 13) ∨ (14 ≤ k1 ∧ k1 ≤ 14) ∨ (15 ≤ k1 ∧ k1 ≤ 15) by omega) with g1 | g1 | g1 | g1 | g1 | g1 | g1 | g1 | g1 | g1 | g1 | g1 | g1 | g1 | g1 | g1
      · exact ⟨_, (Go.Ev.pcCons (by omega) (by omega) (Go.Ev.pcCons (by omega) (by omega) (Go.Ev.pcCons (by omega) (by omega) (Go.Ev.pcCons (by omega) (by omega) Go.Ev.pcNil)))), Ev.cReplicaGives0⟩
      · exact ⟨_, (Go.Ev.pcCons (by omega) (by omega) (Go.Ev.pcCons (by omega) (by omega) (Go.Ev.pcCons (by omega) (by omega) (Go.Ev.pcCons (by omega) (by omega) Go.Ev.pcNil)))), Ev.cReplicaGives1⟩
      · exact ⟨_, (Go.Ev.pcCons (by omega) (by omega) (Go.Ev.pcCons (by omega) (by omega) (Go.Ev.pcCons (by omega) (by omega) (Go.Ev.pcCons (by omega) (by omega) Go.Ev.pcNil)))), Ev.cReplicaGives2⟩
      · exact ⟨_, (Go.Ev.pcCons (by omega) (by omega) (Go.Ev.pcCons (by omega) (by omega) (Go.Ev.pcCons (by omega) (by omega) (Go.Ev.pcCons (by omega) (by omega) Go.Ev.pcNil)))), Ev.cReplicaGives3⟩
      · exact ⟨_, (Go.Ev.pcCons (by omega) (by omega) (Go.Ev.pcCons (by omega) (by omega) (Go.Ev.pcCons (by omega) (by omega) (Go.Ev.pcCons (by omega) (by omega) Go.Ev.pcNil)))), Ev.cReplicaGives4⟩
      · exact ⟨_, (Go.Ev.pcCons (by omega) (by omega) (Go.Ev.pcCons (by omega) (by omega) (Go.Ev.pcCons (by omega) (by omega) (Go.Ev.pcCons (by omega) (by omega) Go.Ev.pcNil)))), Ev.cReplicaGives5⟩
      · exact ⟨_, (Go.Ev.pcCons (by omega) (by omega) (Go.Ev.pcCons (by omega) (by omega) (Go.Ev.pcCons (by omega) (by omega) (Go.Ev.pcCons (by omega) (by omega) Go.Ev.pcNil)))), Ev.cReplicaGives6⟩
      · exact ⟨_, (Go.Ev.pcCons (by omega) (by omega) (Go.Ev.pcCons (by omega) (by omega) (Go.Ev.pcCons (by omega) (by omega) (Go.Ev.pcCons (by omega) (by omega) Go.Ev.pcNil)))), Ev.cReplicaGives7⟩
      · exact ⟨_, (Go.Ev.pcCons (by omega) (by omega) (Go.Ev.pcCons (by omega) (by omega) (Go.Ev.pcCons (by omega) (by omega) (Go.Ev.pcCons (by omega) (by omega) Go.Ev.pcNil)))), Ev.cReplicaGives8⟩
      · exact ⟨_, (Go.Ev.pcCons (by omega) (by omega) (Go.Ev.pcCons (by omega) (by omega) (Go.Ev.pcCons (by omega) (by omega) (Go.Ev.pcCons (by omega) (by omega) Go.Ev.pcNil)))), Ev.cReplicaGives9⟩
      · exact ⟨_, (Go.Ev.pcCons (by omega) (by omega) (Go.Ev.pcCons (by omega) (by omega) (Go.Ev.pcCons (by omega) (by omega) (Go.Ev.pcCons (by omega) (by omega) Go.Ev.pcNil)))), Ev.cReplicaGives10⟩
      · exact ⟨_, (Go.Ev.pcCons (by omega) (by omega) (Go.Ev.pcCons (by omega) (by omega) (Go.Ev.pcCons (by omega) (by omega) (Go.Ev.pcCons (by omega) (by omega) Go.Ev.pcNil)))), Ev.cReplicaGives11⟩
      · exact ⟨_, (Go.Ev.pcCons (by omega) (by omega) (Go.Ev.pcCons (by omega) (by omega) (Go.Ev.pcCons (by omega) (by omega) (Go.Ev.pcCons (by omega) (by omega) Go.Ev.pcNil)))), Ev.cReplicaGives12⟩
      · exact ⟨_, (Go.Ev.pcCons (by omega) (by omega) (Go.Ev.pcCons (by omega) (by omega) (Go.Ev.pcCons (by omega) (by omega) (Go.Ev.pcCons (by omega) (by omega) Go.Ev.pcNil)))), Ev.cReplicaGives13⟩
      · exact ⟨_, (Go.Ev.pcCons (by omega) (by omega) (Go.Ev.pcCons (by omega) (by omega) (Go.Ev.pcCons (by omega) (by omega) (Go.Ev.pcCons (by omega) (by omega) Go.Ev.pcNil)))), Ev.cReplicaGives14⟩
      · exact ⟨_, (Go.Ev.pcCons (by omega) (by omega) (Go.Ev.pcCons (by omega) (by omega) (Go.Ev.pcCons (by omega) (by omega) (Go.Ev.pcCons (by omega) (by omega) Go.Ev.pcNil)))), Ev.cReplicaGives15⟩
    · rcases (show (0 ≤ k1 ∧ k1 ≤ 0) ∨ (1 ≤ k1 ∧ k1 ≤ 1) ∨ (2 ≤ k1 ∧ k1 ≤ 2) ∨ (3 ≤ k1 ∧ k1 ≤ 3) ∨ (4 ≤ k1 ∧ k1 ≤ 4) ∨ (5 ≤ k1 ∧ k1 ≤ 5) ∨ (6 ≤ k1 ∧ k1 ≤ 6) ∨ (7 ≤ k1 ∧ k1 ≤ 7) ∨ (8 ≤ k1 ∧ k1 ≤ 8) ∨ (9 ≤ k1 ∧ k1 ≤ 9) ∨ (10 ≤ k1 ∧ k1 ≤ 10) ∨ (11 ≤ k1 ∧ k1 ≤ 11) ∨ (12 ≤ k1 ∧ k1 ≤ 12) ∨ (13 ≤ k1 ∧ k1 ≤ 13) ∨ (14 ≤ k1 ∧ k1 ≤ 14) ∨ (15 ≤ k1 ∧ k1 ≤ 15) by omega) with g1 | g1 | g1 | g1 | g1 | g1 | g1 | g1 | g1 | g1 | g1 | g1 | g1 | g1 | g1 | g1
      · exact ⟨_, (Go.Ev.pcCons (by omega) (by omega) (Go.Ev.pcCons (by omega) (by omega) (Go.Ev.pcCons (by omega) (by omega) (Go.Ev.pcCons (by omega) (by omega) Go.Ev.pcNil)))), Ev.cReplicaGives16⟩
      · exact ⟨_, (Go.Ev.pcCons (by omega) (by omega) (Go.Ev.pcCons (by omega) (by omega) (Go.Ev.pcCons (by omega) (by omega) (Go.Ev.pcCons (by omega) (by omega) Go.Ev.pcNil)))), Ev.cReplicaGives17⟩
      · exact ⟨_, (Go.Ev.pcCons (by omega) (by omega) (Go.Ev.pcCons (by omega) (by omega) (Go.Ev.pcCons (by omega) (by omega) (Go.Ev.pcCons (by omega) (by omega) Go.Ev.pcNil)))), Ev.cReplicaGives18⟩
      · exact ⟨_, (Go.Ev.pcCons (by omega) (by omega) (Go.Ev.pcCons (by omega) (by omega) (Go.Ev.pcCons (by omega) (by omega) (Go.Ev.pcCons (by omega) (by omega) Go.Ev.pcNil)))), Ev.cReplicaGives19⟩
      · exact ⟨_, (Go.Ev.pcCons (by omega) (by omega) (Go.Ev.pcCons (by omega) (by omega) (Go.Ev.pcCons (by omega) (by omega) (Go.Ev.pcCons (by omega) (by omega) Go.Ev.pcNil)))), Ev.cReplicaGives20⟩
      · exact ⟨_, (Go.Ev.pcCons (by omega) (by omega) (Go.Ev.pcCons (by omega) (by omega) (Go.Ev.pcCons (by omega) (by omega) (Go.Ev.pcCons (by omega) (by omega) Go.Ev.pcNil)))), Ev.cReplicaGives21⟩
      · exact ⟨_, (Go.Ev.pcCons (by omega) (by omega) (Go.Ev.pcCons (by omega) (by omega) (Go.Ev.pcCons (by omega) (by omega) (Go.Ev.pcCons (by omega) (by omega) Go.Ev.pcNil)))), Ev.cReplicaGives22⟩
      · exact ⟨_, (Go.Ev.pcCons (by omega) (by omega) (Go.Ev.pcCons (by omega) (by omega) (Go.Ev.pcCons (by omega) (by omega) (Go.Ev.pcCons (by omega) (by omega) Go.Ev.pcNil)))), Ev.cReplicaGives23⟩
      · exact ⟨_, (Go.Ev.pcCons (by omega) (by omega) (Go.Ev.pcCons (by omega) (by omega) (Go.Ev.pcCons (by omega) (by omega) (Go.Ev.pcCons (by omega) (by omega) Go.Ev.pcNil)))), Ev.cReplicaGives24⟩
      · exact ⟨_, (Go.Ev.pcCons (by omega) (by omega) (Go.Ev.pcCons (by omega) (by omega) (Go.Ev.pcCons (by omega) (by omega) (Go.Ev.pcCons (by omega) (by omega) Go.Ev.pcNil)))), Ev.cReplicaGives25⟩
      · exact ⟨_, (Go.Ev.pcCons (by omega) (by omega) (Go.Ev.pcCons (by omega) (by omega) (Go.Ev.pcCons (by omega) (by omega) (Go.Ev.pcCons (by omega) (by omega) Go.Ev.pcNil)))), Ev.cReplicaGives26⟩
      · exact ⟨_, (Go.Ev.pcCons (by omega) (by omega) (Go.Ev.pcCons (by omega) (by omega) (Go.Ev.pcCons (by omega) (by omega) (Go.Ev.pcCons (by omega) (by omega) Go.Ev.pcNil)))), Ev.cReplicaGives27⟩
      · exact ⟨_, (Go.Ev.pcCons (by omega) (by omega) (Go.Ev.pcCons (by omega) (by omega) (Go.Ev.pcCons (by omega) (by omega) (Go.Ev.pcCons (by omega) (by omega) Go.Ev.pcNil)))), Ev.cReplicaGives28⟩
      · exact ⟨_, (Go.Ev.pcCons (by omega) (by omega) (Go.Ev.pcCons (by omega) (by omega) (Go.Ev.pcCons (by omega) (by omega) (Go.Ev.pcCons (by omega) (by omega) Go.Ev.pcNil)))), Ev.cReplicaGives29⟩
      · exact ⟨_, (Go.Ev.pcCons (by omega) (by omega) (Go.Ev.pcCons (by omega) (by omega) (Go.Ev.pcCons (by omega) (by omega) (Go.Ev.pcCons (by omega) (by omega) Go.Ev.pcNil)))), Ev.cReplicaGives30⟩
      · exact ⟨_, (Go.Ev.pcCons (by omega) (by omega) (Go.Ev.pcCons (by omega) (by omega) (Go.Ev.pcCons (by omega) (by omega) (Go.Ev.pcCons (by omega) (by omega) Go.Ev.pcNil)))), Ev.cReplicaGives31⟩
    · rcases (show (0 ≤ k1 ∧ k1 ≤ 0) ∨ (1 ≤ k1 ∧ k1 ≤ 1) ∨ (2 ≤ k1 ∧ k1 ≤ 2) ∨ (3 ≤ k1 ∧ k1 ≤ 3) ∨ (4 ≤ k1 ∧ k1 ≤ 4) ∨ (5 ≤ k1 ∧ k1 ≤ 5) ∨ (6 ≤ k1 ∧ k1 ≤ 6) ∨ (7 ≤ k1 ∧ k1 ≤ 7) ∨ (8 ≤ k1 ∧ k1 ≤ 8) ∨ (9 ≤ k1 ∧ k1 ≤ 9) ∨ (10 ≤ k1 ∧ k1 ≤ 10) ∨ (11 ≤ k1 ∧ k1 ≤ 11) ∨ (12 ≤ k1 ∧ k1 ≤ 12) ∨ (13 ≤ k1 ∧ k1 ≤ 13) ∨ (14 ≤ k1 ∧ k1 ≤ 14) ∨ (15 ≤ k1 ∧ k1 ≤ 15) by omega) with g1 | g1 | g1 | g1 | g1 | g1 | g1 | g1 | g1 | g1 | g1 | g1 | g1 | g1 | g1 | g1
      · exact ⟨_, (Go.Ev.pcCons (by omega) (by omega) (Go.Ev.pcCons (by omega) (by omega) (Go.Ev.pcCons (by omega) (by omega) (Go.Ev.pcCons (by omega) (by omega) Go.Ev.pcNil)))), Ev.cReplicaGives32⟩
      · exact ⟨_, (Go.Ev.pcCons (by omega) (by omega) (Go.Ev.pcCons (by omega) (by omega) (Go.Ev.pcCons (by omega) (by omega) (Go.Ev.pcCons (by omega) (by omega) Go.Ev.pcNil)))), Ev.cReplicaGives33⟩
      · exact ⟨_, (Go.Ev.pcCons (by omega) (by omega) (Go.Ev.pcCons (by omega) (by omega) (Go.Ev.pcCons (by omega) (by omega) (Go.Ev.pcCons (by omega) (by omega) Go.Ev.pcNil)))), Ev.cReplicaGives34⟩
      · exact ⟨_, (Go.Ev.pcCons (by omega) (by omega) (Go.Ev.pcCons (by omega) (by omega) (Go.Ev.pcCons (by omega) (by omega) (Go.Ev.pcCons (by omega) (by omega) Go.Ev.pcNil)))), Ev.cReplicaGives35⟩
      · exact ⟨_, (Go.Ev.pcCons (by omega) (by omega) (Go.Ev.pcCons (by omega) (by omega) (Go.Ev.pcCons (by omega) (by omega) (Go.Ev.pcCons (by omega) (by omega) Go.Ev.pcNil)))), Ev.cReplicaGives36⟩
      · exact ⟨_, (Go.Ev.pcCons (by omega) (by omega) (Go.Ev.pcCons (by omega) (by omega) (Go.Ev.pcCons (by omega) (by omega) (Go.Ev.pcCons (by omega) (by omega) Go.Ev.pcNil)))), Ev.cReplicaGives37⟩
      · exact ⟨_, (Go.Ev.pcCons (by omega) (by omega) (Go.Ev.pcCons (by omega) (by omega) (Go.Ev.pcCons (by omega) (by omega) (Go.Ev.pcCons (by omega) (by omega) Go.Ev.pcNil)))), Ev.cReplicaGives38⟩
      · exact ⟨_, (Go.Ev.pcCons (by omega) (by omega) (Go.Ev.pcCons (by omega) (by omega) (Go.Ev.pcCons (by omega) (by omega) (Go.Ev.pcCons (by omega) (by omega) Go.Ev.pcNil)))), Ev.cReplicaGives39⟩
      · exact ⟨_, (Go.Ev.pcCons (by omega) (by omega) (Go.Ev.pcCons (by omega) (by omega) (Go.Ev.pcCons (by omega) (by omega) (Go.Ev.pcCons (by omega) (by omega) Go.Ev.pcNil)))), Ev.cReplicaGives40⟩
      · exact ⟨_, (Go.Ev.pcCons (by omega) (by omega) (Go.Ev.pcCons (by omega) (by omega) (Go.Ev.pcCons (by omega) (by omega) (Go.Ev.pcCons (by omega) (by omega) Go.Ev.pcNil)))), Ev.cReplicaGives41⟩
      · exact ⟨_, (Go.Ev.pcCons (by omega) (by omega) (Go.Ev.pcCons (by omega) (by omega) (Go.Ev.pcCons (by omega) (by omega) (Go.Ev.pcCons (by omega) (by omega) Go.Ev.pcNil)))), Ev.cReplicaGives42⟩
      · exact ⟨_, (Go.Ev.pcCons (by omega) (by omega) (Go.Ev.pcCons (by omega) (by omega) (Go.Ev.pcCons (by omega) (by omega) (Go.Ev.pcCons (by omega) (by omega) Go.Ev.pcNil)))), Ev.cReplicaGives43⟩
      · exact ⟨_, (Go.Ev.pcCons (by omega) (by omega) (Go.Ev.pcCons (by omega) (by omega) (Go.Ev.pcCons (by omega) (by omega) (Go.Ev.pcCons (by omega) (by omega) Go.Ev.pcNil)))), Ev.cReplicaGives44⟩
      · exact ⟨_, (Go.Ev.pcCons (by omega) (by omega) (Go.Ev.pcCons (by omega) (by omega) (Go.Ev.pcCons (by omega) (by omega) (Go.Ev.pcCons (by omega) (by omega) Go.Ev.pcNil)))), Ev.cReplicaGives45⟩
      · exact ⟨_, (Go.Ev.pcCons (by omega) (by omega) (Go.Ev.pcCons (by omega) (by omega) (Go.Ev.pcCons (by omega) (by omega) (Go.Ev.pcCons (by omega) (by omega) Go.Ev.pcNil)))), Ev.cReplicaGives46⟩
      · exact ⟨_, (Go.Ev.pcCons (by omega) (by omega) (Go.Ev.pcCons (by omega) (by omega) (Go.Ev.pcCons (by omega) (by omega) (Go.Ev.pcCons (by omega) (by omega) Go.Ev.pcNil)))), Ev.cReplicaGives47⟩
    · rcases (show (0 ≤ k1 ∧ k1 ≤ 0) ∨ (1 ≤ k1 ∧ k1 ≤ 1) ∨ (2 ≤ k1 ∧ k1 ≤ 2) ∨ (3 ≤ k1 ∧ k1 ≤ 3) ∨ (4 ≤ k1 ∧ k1 ≤ 4) ∨ (5 ≤ k1 ∧ k1 ≤ 5) ∨ (6 ≤ k1 ∧ k1 ≤ 6) ∨ (7 ≤ k1 ∧ k1 ≤ 7) ∨ (8 ≤ k1 ∧ k1 ≤ 8) ∨ (9 ≤ k1 ∧ k1 ≤ 9) ∨ (10 ≤ k1 ∧ k1 ≤ 10) ∨ (11 ≤ k1 ∧ k1 ≤ 11) ∨ (12 ≤ k1 ∧ k1 ≤ 12) ∨ (13 ≤ k1 ∧ k1 ≤ 13) ∨ (14 ≤ k1 ∧ k1 ≤ 14) ∨ (15 ≤ k1 ∧ k1 ≤ 15) by omega) with g1 | g1 | g1 | g1 | g1 | g1 | g1 | g1 | g1 | g1 | g1 | g1 | g1 | g1 | g1 | g1
      · exact ⟨_, (Go.Ev.pcCons (by omega) (by omega) (Go.Ev.pcCons (by omega) (by omega) (Go.Ev.pcCons (by omega) (by omega) (Go.Ev.pcCons (by omega) (by omega) Go.Ev.pcNil)))), Ev.cReplicaGives48⟩
      · exact ⟨_, (Go.Ev.pcCons (by omega) (by omega) (Go.Ev.pcCons (by omega) (by omega) (Go.Ev.pcCons (by omega) (by omega) (Go.Ev.pcCons (by omega) (by omega) Go.Ev.pcNil)))), Ev.cReplicaGives49⟩
      · exact ⟨_, (Go.Ev.pcCons (by omega) (by omega) (Go.Ev.pcCons (by omega) (by omega) (Go.Ev.pcCons (by omega) (by omega) (Go.Ev.pcCons (by omega) (by omega) Go.Ev.pcNil)))), Ev.cReplicaGives50⟩
      · exact ⟨_, (Go.Ev.pcCons (by omega) (by omega) (Go.Ev.pcCons (by omega) (by omega) (Go.Ev.pcCons (by omega) (by omega) (Go.Ev.pcCons (by omega) (by omega) Go.Ev.pcNil)))), Ev.cReplicaGives51⟩
      · exact ⟨_, (Go.Ev.pcCons (by omega) (by omega) (Go.Ev.pcCons (by omega) (by omega) (Go.Ev.pcCons (by omega) (by omega) (Go.Ev.pcCons (by omega) (by omega) Go.Ev.pcNil)))), Ev.cReplicaGives52⟩
      · exact ⟨_, (Go.Ev.pcCons (by omega) (by omega) (Go.Ev.pcCons (by omega) (by omega) (Go.Ev.pcCons (by omega) (by omega) (Go.Ev.pcCons (by omega) (by omega) Go.Ev.pcNil)))), Ev.cReplicaGives53⟩
      · exact ⟨_, (Go.Ev.pcCons (by omega) (by omega) (Go.Ev.pcCons (by omega) (by omega) (Go.Ev.pcCons (by omega) (by omega) (Go.Ev.pcCons (by omega) (by omega) Go.Ev.pcNil)))), Ev.cReplicaGives54⟩
      · exact ⟨_, (Go.Ev.pcCons (by omega) (by omega) (Go.Ev.pcCons (by omega) (by omega) (Go.Ev.pcCons (by omega) (by omega) (Go.Ev.pcCons (by omega) (by omega) Go.Ev.pcNil)))), Ev.cReplicaGives55⟩
      · exact ⟨_, (Go.Ev.pcCons (by omega) (by omega) (Go.Ev.pcCons (by omega) (by omega) (Go.Ev.pcCons (by omega) (by omega) (Go.Ev.pcCons (by omega) (by omega) Go.Ev.pcNil)))), Ev.cReplicaGives56⟩
      · exact ⟨_, (Go.Ev.pcCons (by omega) (by omega) (Go.Ev.pcCons (by omega) (by omega) (Go.Ev.pcCons (by omega) (by omega) (Go.Ev.pcCons (by omega) (by omega) Go.Ev.pcNil)))), Ev.cReplicaGives57⟩
      · exact ⟨_, (Go.Ev.pcCons (by omega) (by omega) (Go.Ev.pcCons (by omega) (by omega) (Go.Ev.pcCons (by omega) (by omega) (Go.Ev.pcCons (by omega) (by omega) Go.Ev.pcNil)))), Ev.cReplicaGives58⟩
      · exact ⟨_, (Go.Ev.pcCons (by omega) (by omega) (Go.Ev.pcCons (by omega) (by omega) (Go.Ev.pcCons (by omega) (by omega) (Go.Ev.pcCons (by omega) (by omega) Go.Ev.pcNil)))), Ev.cReplicaGives59⟩
      · exact ⟨_, (Go.Ev.pcCons (by omega) (by omega) (Go.Ev.pcCons (by omega) (by omega) (Go.Ev.pcCons (by omega) (by omega) (Go.Ev.pcCons (by omega) (by omega) Go.Ev.pcNil)))), Ev.cReplicaGives60⟩
      · exact ⟨_, (Go.Ev.pcCons (by omega) (by omega) (Go.Ev.pcCons (by omega) (by omega) (Go.Ev.pcCons (by omega) (by omega) (Go.Ev.pcCons (by omega) (by omega) Go.Ev.pcNil)))), Ev.cReplicaGives61⟩
      · exact ⟨_, (Go.Ev.pcCons (by omega) (by omega) (Go.Ev.pcCons (by omega) (by omega) (Go.Ev.pcCons (by omega) (by omega) (Go.Ev.pcCons (by omega) (by omega) Go.Ev.pcNil)))), Ev.cReplicaGives62⟩
      · exact ⟨_, (Go.Ev.pcCons (by omega) (by omega) (Go.Ev.pcCons (by omega) (by omega) (Go.Ev.pcCons (by omega) (by omega) (Go.Ev.pcCons (by omega) (by omega) Go.Ev.pcNil)))), Ev.cReplicaGives63⟩
    · rcases (show (0 ≤ k1 ∧ k1 ≤ 0) ∨ (1 ≤ k1 ∧ k1 ≤ 1) ∨ (2 ≤ k1 ∧ k1 ≤ 2) ∨ (3 ≤ k1 ∧ k1 ≤ 3) ∨ (4 ≤ k1 ∧ k1 ≤ 4) ∨ (5 ≤ k1 ∧ k1 ≤ 5) ∨ (6 ≤ k1 ∧ k1 ≤ 6) ∨ (7 ≤ k1 ∧ k1 ≤ 7) ∨ (8 ≤ k1 ∧ k1 ≤ 8) ∨ (9 ≤ k1 ∧ k1 ≤ 9) ∨ (10 ≤ k1 ∧ k1 ≤ 10) ∨ (11 ≤ k1 ∧ k1 ≤ 11) ∨ (12 ≤ k1 ∧ k1 ≤ 12) ∨ (13 ≤ k1 ∧ k1 ≤ 13) ∨ (14 ≤ k1 ∧ k1 ≤ 14) ∨ (15 ≤ k1 ∧ k1 ≤ 15) by omega) with g1 | g1 | g1 | g1 | g1 | g1 | g1 | g1 | g1 | g1 | g1 | g1 | g1 | g1 | g1 | g1
      · exact ⟨_, (Go.Ev.pcCons (by omega) (by omega) (Go.Ev.pcCons (by omega) (by omega) (Go.Ev.pcCons (by omega) (by omega) (Go.Ev.pcCons (by omega) (by omega) Go.Ev.pcNil)))), Ev.cReplicaGives64⟩
      · exact ⟨_, (Go.Ev.pcCons (by omega) (by omega) (Go.Ev.pcCons (by omega) (by omega) (Go.Ev.pcCons (by omega) (by omega) (Go.Ev.pcCons (by omega) (by omega) Go.Ev.pcNil)))), Ev.cReplicaGives65⟩
      · exact ⟨_, (Go.Ev.pcCons (by omega) (by omega) (Go.Ev.pcCons (by omega) (by omega) (Go.Ev.pcCons (by omega) (by omega) (Go.Ev.pcCons (by omega) (by omega) Go.Ev.pcNil)))), Ev.cReplicaGives66⟩
      · exact ⟨_, (Go.Ev.pcCons (by omega) (by omega) (Go.Ev.pcCons (by omega) (by omega) (Go.Ev.pcCons (by omega) (by omega) (Go.Ev.pcCons (by omega) (by omega) Go.Ev.pcNil)))), Ev.cReplicaGives67⟩
      · exact ⟨_, (Go.Ev.pcCons (by omega) (by omega) (Go.Ev.pcCons (by omega) (by omega) (Go.Ev.pcCons (by omega) (by omega) (Go.Ev.pcCons (by omega) (by omega) Go.Ev.pcNil)))), Ev.cReplicaGives68⟩
      · exact ⟨_, (Go.Ev.pcCons (by omega) (by omega) (Go.Ev.pcCons (by omega) (by omega) (Go.Ev.pcCons (by omega) (by omega) (Go.Ev.pcCons (by omega) (by omega) Go.Ev.pcNil)))), Ev.cReplicaGives69⟩
      · exact ⟨_, (Go.Ev.pcCons (by omega) (by omega) (Go.Ev.pcCons (by omega) (by omega) (Go.Ev.pcCons (by omega) (by omega) (Go.Ev.pcCons (by omega) (by omega) Go.Ev.pcNil)))), Ev.cReplicaGives70⟩
      · exact ⟨_, (Go.Ev.pcCons (by omega) (by omega) (Go.Ev.pcCons (by omega) (by omega) (Go.Ev.pcCons (by omega) (by omega) (Go.Ev.pcCons (by omega) (by omega) Go.Ev.pcNil)))), Ev.cReplicaGives71⟩
      · exact ⟨_, (Go.Ev.pcCons (by omega) (by omega) (Go.Ev.pcCons (by omega) (by omega) (Go.Ev.pcCons (by omega) (by omega) (Go.Ev.pcCons (by omega) (by omega) Go.Ev.pcNil)))), Ev.cReplicaGives72⟩
      · exact ⟨_, (Go.Ev.pcCons (by omega) (by omega) (Go.Ev.pcCons (by omega) (by omega) (Go.Ev.pcCons (by omega) (by omega) (Go.Ev.pcCons (by omega) (by omega) Go.Ev.pcNil)))), Ev.cReplicaGives73⟩
      · exact ⟨_, (Go.Ev.pcCons (by omega) (by omega) (Go.Ev.pcCons (by omega) (by omega) (Go.Ev.pcCons (by omega) (by omega) (Go.Ev.pcCons (by omega) (by omega) Go.Ev.pcNil)))), Ev.cReplicaGives74⟩
      · exact ⟨_, (Go.Ev.pcCons (by omega) (by omega) (Go.Ev.pcCons (by omega) (by omega) (Go.Ev.pcCons (by omega) (by omega) (Go.Ev.pcCons (by omega) (by omega) Go.Ev.pcNil)))), Ev.cReplicaGives75⟩
      · exact ⟨_, (Go.Ev.pcCons (by omega) (by omega) (Go.Ev.pcCons (by omega) (by omega) (Go.Ev.pcCons (by omega) (by omega) (Go.Ev.pcCons (by omega) (by omega) Go.Ev.pcNil)))), Ev.cReplicaGives76⟩
      · exact ⟨_, (Go.Ev.pcCons (by omega) (by omega) (Go.Ev.pcCons (by omega) (by omega) (Go.Ev.pcCons (by omega) (by omega) (Go.Ev.pcCons (by omega) (by omega) Go.Ev.pcNil)))), Ev.cReplicaGives77⟩
      · exact ⟨_, (Go.Ev.pcCons (by omega) (by omega) (Go.Ev.pcCons (by omega) (by omega) (Go.Ev.pcCons (by omega) (by omega) (Go.Ev.pcCons (by omega) (by omega) Go.Ev.pcNil)))), Ev.cReplicaGives78⟩
      · exact ⟨_, (Go.Ev.pcCons (by omega) (by omega) (Go.Ev.pcCons (by omega) (by omega) (Go.Ev.pcCons (by omega) (by omega) (Go.Ev.pcCons (by omega) (by omega) Go.Ev.pcNil)))), Ev.cReplicaGives79⟩
    · rcases (show (0 ≤ k1 ∧ k1 ≤ 0) ∨ (1 ≤ k1 ∧ k1 ≤ 1) ∨ (2 ≤ k1 ∧ k1 ≤ 2) ∨ (3 ≤ k1 ∧ k1 ≤ 3) ∨ (4 ≤ k1 ∧ k1 ≤ 4) ∨ (5 ≤ k1 ∧ k1 ≤ 5) ∨ (6 ≤ k1 ∧ k1 ≤ 6) ∨ (7 ≤ k1 ∧ k1 ≤ 7) ∨ (8 ≤ k1 ∧ k1 ≤ 8) ∨ (9 ≤ k1 ∧ k1 ≤ 9) ∨ (10 ≤ k1 ∧ k1 ≤ 10) ∨ (11 ≤ k1 ∧ k1 ≤ 11) ∨ (12 ≤ k1 ∧ k1 ≤ 12) ∨ (13 ≤ k1 ∧ k1 ≤ 13) ∨ (14 ≤ k1 ∧ k1 ≤ 14) ∨ (15 ≤ k1 ∧ k1 ≤ 15) by omega) with g1 | g1 | g1 | g1 | g1 | g1 | g1 | g1 | g1 | g1 | g1 | g1 | g1 | g1 | g1 | g1
      · exact ⟨_, (Go.Ev.pcCons (by omega) (by omega) (Go.Ev.pcCons (by omega) (by omega) (Go.Ev.pcCons (by omega) (by omega) (Go.Ev.pcCons (by omega) (by omega) Go.Ev.pcNil)))), Ev.cReplicaGives80⟩
      · exact ⟨_, (Go.Ev.pcCons (by omega) (by omega) (Go.Ev.pcCons (by omega) (by omega) (Go.Ev.pcCons (by omega) (by omega) (Go.Ev.pcCons (by omega) (by omega) Go.Ev.pcNil)))), Ev.cReplicaGives81⟩
      · exact ⟨_, (Go.Ev.pcCons (by omega) (by omega) (Go.Ev.pcCons (by omega) (by omega) (Go.Ev.pcCons (by omega) (by omega) (Go.Ev.pcCons (by omega) (by omega) Go.Ev.pcNil)))), Ev.cReplicaGives82⟩
      · exact ⟨_, (Go.Ev.pcCons (by omega) (by omega) (Go.Ev.pcCons (by omega) (by omega) (Go.Ev.pcCons (by omega) (by omega) (Go.Ev.pcCons (by omega) (by omega) Go.Ev.pcNil)))), Ev.cReplicaGives83⟩
      · exact ⟨_, (Go.Ev.pcCons (by omega) (by omega) (Go.Ev.pcCons (by omega) (by omega) (Go.Ev.pcCons (by omega) (by omega) (Go.Ev.pcCons (by omega) (by omega) Go.Ev.pcNil)))), Ev.cReplicaGives84⟩
      · exact ⟨_, (Go.Ev.pcCons (by omega) (by omega) (Go.Ev.pcCons (by omega) (by omega) (Go.Ev.pcCons (by omega) (by omega) (Go.Ev.pcCons (by omega) (by omega) Go.Ev.pcNil)))), Ev.cReplicaGives85⟩
      · exact ⟨_, (Go.Ev.pcCons (by omega) (by omega) (Go.Ev.pcCons (by omega) (by omega) (Go.Ev.pcCons (by omega) (by omega) (Go.Ev.pcCons (by omega) (by omega) Go.Ev.pcNil)))), Ev.cReplicaGives86⟩
      · exact ⟨_, (Go.Ev.pcCons (by omega) (by omega) (Go.Ev.pcCons (by omega) (by omega) (Go.Ev.pcCons (by omega) (by omega) (Go.Ev.pcCons (by omega) (by omega) Go.Ev.pcNil)))), Ev.cReplicaGives87⟩
      · exact ⟨_, (Go.Ev.pcCons (by omega) (by omega) (Go.Ev.pcCons (by omega) (by omega) (Go.Ev.pcCons (by omega) (by omega) (Go.Ev.pcCons (by omega) (by omega) Go.Ev.pcNil)))), Ev.cReplicaGives88⟩
      · exact ⟨_, (Go.Ev.pcCons (by omega) (by omega) (Go.Ev.pcCons (by omega) (by omega) (Go.Ev.pcCons (by omega) (by omega) (Go.Ev.pcCons (by omega) (by omega) Go.Ev.pcNil)))), Ev.cReplicaGives89⟩
      · exact ⟨_, (Go.Ev.pcCons (by omega) (by omega) (Go.Ev.pcCons (by omega) (by omega) (Go.Ev.pcCons (by omega) (by omega) (Go.Ev.pcCons (by omega) (by omega) Go.Ev.pcNil)))), Ev.cReplicaGives90⟩
      · exact ⟨_, (Go.Ev.pcCons (by omega) (by omega) (Go.Ev.pcCons (by omega) (by omega) (Go.Ev.pcCons (by omega) (by omega) (Go.Ev.pcCons (by omega) (by omega) Go.Ev.pcNil)))), Ev.cReplicaGives91⟩
      · exact ⟨_, (Go.Ev.pcCons (by omega) (by omega) (Go.Ev.pcCons (by omega) (by omega) (Go.Ev.pcCons (by omega) (by omega) (Go.Ev.pcCons (by omega) (by omega) Go.Ev.pcNil)))), Ev.cReplicaGives92⟩
      · exact ⟨_, (Go.Ev.pcCons (by omega) (by omega) (Go.Ev.pcCons (by omega) (by omega) (Go.Ev.pcCons (by omega) (by omega) (Go.Ev.pcCons (by omega) (by omega) Go.Ev.pcNil)))), Ev.cReplicaGives93⟩
      · exact ⟨_, (Go.Ev.pcCons (by omega) (by omega) (Go.Ev.pcCons (by omega) (by omega) (Go.Ev.pcCons (by omega) (by omega) (Go.Ev.pcCons (by omega) (by omega) Go.Ev.pcNil)))), Ev.cReplicaGives94⟩
      · exact ⟨_, (Go.Ev.pcCons (by omega) (by omega) (Go.Ev.pcCons (by omega) (by omega) (Go.Ev.pcCons (by omega) (by omega) (Go.Ev.pcCons (by omega) (by omega) Go.Ev.pcNil)))), Ev.cReplicaGives95⟩
    · rcases (show (0 ≤ k1 ∧ k1 ≤ 0) ∨ (1 ≤ k1 ∧ k1 ≤ 1) ∨ (2 ≤ k1 ∧ k1 ≤ 2) ∨ (3 ≤ k1 ∧ k1 ≤ 3) ∨ (4 ≤ k1 ∧ k1 ≤ 4) ∨ (5 ≤ k1 ∧ k1 ≤ 5) ∨ (6 ≤ k1 ∧ k1 ≤ 6) ∨ (7 ≤ k1 ∧ k1 ≤ 7) ∨ (8 ≤ k1 ∧ k1 ≤ 8) ∨ (9 ≤ k1 ∧ k1 ≤ 9) ∨ (10 ≤ k1 ∧ k1 ≤ 10) ∨ (11 ≤ k1 ∧ k1 ≤ 11) ∨ (12 ≤ k1 ∧ k1 ≤ 12) ∨ (13 ≤ k1 ∧ k1 ≤ 13) ∨ (14 ≤ k1 ∧ k1 ≤ 14) ∨ (15 ≤ k1 ∧ k1 ≤ 15) by omega) with g1 | g1 | g1 | g1 | g1 | g1 | g1 | g1 | g1 | g1 | g1 | g1 | g1 | g1 | g1 | g1
      · exact ⟨_, (Go.Ev.pcCons (by omega) (by omega) (Go.Ev.pcCons (by omega) (by omega) (Go.Ev.pcCons (by omega) (by omega) (Go.Ev.pcCons (by omega) (by omega) Go.Ev.pcNil)))), Ev.cReplicaGives96⟩
      · exact ⟨_, (Go.Ev.pcCons (by omega) (by omega) (Go.Ev.pcCons (by omega) (by omega) (Go.Ev.pcCons (by omega) (by omega) (Go.Ev.pcCons (by omega) (by omega) Go.Ev.pcNil)))), Ev.cReplicaGives97⟩
      · exact ⟨_, (Go.Ev.pcCons (by omega) (by omega) (Go.Ev.pcCons (by omega) (by omega) (Go.Ev.pcCons (by omega) (by omega) (Go.Ev.pcCons (by omega) (by omega) Go.Ev.pcNil)))), Ev.cReplicaGives98⟩
      · exact ⟨_, (Go.Ev.pcCons (by omega) (by omega) (Go.Ev.pcCons (by omega) (by omega) (Go.Ev.pcCons (by omega) (by omega) (Go.Ev.pcCons (by omega) (by omega) Go.Ev.pcNil)))), Ev.cReplicaGives99⟩
      · exact ⟨_, (Go.Ev.pcCons (by omega) (by omega) (Go.Ev.pcCons (by omega) (by omega) (Go.Ev.pcCons (by omega) (by omega) (Go.Ev.pcCons (by omega) (by omega) Go.Ev.pcNil)))), Ev.cReplicaGives100⟩
      · exact ⟨_, (Go.Ev.pcCons (by omega) (by omega) (Go.Ev.pcCons (by omega) (by omega) (Go.Ev.pcCons (by omega) (by omega) (Go.Ev.pcCons (by omega) (by omega) Go.Ev.pcNil)))), Ev.cReplicaGives101⟩
      · exact ⟨_, (Go.Ev.pcCons (by omega) (by omega) (Go.Ev.pcCons (by omega) (by omega) (Go.Ev.pcCons (by omega) (by omega) (Go.Ev.pcCons (by omega) (by omega) Go.Ev.pcNil)))), Ev.cReplicaGives102⟩
      · exact ⟨_, (Go.Ev.pcCons (by omega) (by omega) (Go.Ev.pcCons (by omega) (by omega) (Go.Ev.pcCons (by omega) (by omega) (Go.Ev.pcCons (by omega) (by omega) Go.Ev.pcNil)))), Ev.cReplicaGives103⟩
      · exact ⟨_, (Go.Ev.pcCons (by omega) (by omega) (Go.Ev.pcCons (by omega) (by omega) (Go.Ev.pcCons (by omega) (by omega) (Go.Ev.pcCons (by omega) (by omega) Go.Ev.pcNil)))), Ev.cReplicaGives104⟩
      · exact ⟨_, (Go.Ev.pcCons (by omega) (by omega) (Go.Ev.pcCons (by omega) (by omega) (Go.Ev.pcCons (by omega) (by omega) (Go.Ev.pcCons (by omega) (by omega) Go.Ev.pcNil)))), Ev.cReplicaGives105⟩
      · exact ⟨_, (Go.Ev.pcCons (by omega) (by omega) (Go.Ev.pcCons (by omega) (by omega) (Go.Ev.pcCons (by omega) (by omega) (Go.Ev.pcCons (by omega) (by omega) Go.Ev.pcNil)))), Ev.cReplicaGives106⟩
      · exact ⟨_, (Go.Ev.pcCons (by omega) (by omega) (Go.Ev.pcCons (by omega) (by omega) (Go.Ev.pcCons (by omega) (by omega) (Go.Ev.pcCons (by omega) (by omega) Go.Ev.pcNil)))), Ev.cReplicaGives107⟩
      · exact ⟨_, (Go.Ev.pcCons (by omega) (by omega) (Go.Ev.pcCons (by omega) (by omega) (Go.Ev.pcCons (by omega) (by omega) (Go.Ev.pcCons (by omega) (by omega) Go.Ev.pcNil)))), Ev.cReplicaGives108⟩
      · exact ⟨_, (Go.Ev.pcCons (by omega) (by omega) (Go.Ev.pcCons (by omega) (by omega) (Go.Ev.pcCons (by omega) (by omega) (Go.Ev.pcCons (by omega) (by omega) Go.Ev.pcNil)))), Ev.cReplicaGives109⟩
      · exact ⟨_, (Go.Ev.pcCons (by omega) (by omega) (Go.Ev.pcCons (by omega) (by omega) (Go.Ev.pcCons (by omega) (by omega) (Go.Ev.pcCons (by omega) (by omega) Go.Ev.pcNil)))), Ev.cReplicaGives110⟩
      · exact ⟨_, (Go.Ev.pcCons (by omega) (by omega) (Go.Ev.pcCons (by omega) (by omega) (Go.Ev.pcCons (by omega) (by omega) (Go.Ev.pcCons (by omega) (by omega) Go.Ev.pcNil)))), Ev.cReplicaGives111⟩
    · rcases (show (0 ≤ k1 ∧ k1 ≤ 0) ∨ (1 ≤ k1 ∧ k1 ≤ 1) ∨ (2 ≤ k1 ∧ k1 ≤ 2) ∨ (3 ≤ k1 ∧ k1 ≤ 3) ∨ (4 ≤ k1 ∧ k1 ≤ 4) ∨ (5 ≤ k1 ∧ k1 ≤ 5) ∨ (6 ≤ k1 ∧ k1 ≤ 6) ∨ (7 ≤ k1 ∧ k1 ≤ 7) ∨ (8 ≤ k1 ∧ k1 ≤ 8) ∨ (9 ≤ k1 ∧ k1 ≤ 9) ∨ (10 ≤ k1 ∧ k1 ≤ 10) ∨ (11 ≤ k1 ∧ k1 ≤ 11) ∨ (12 ≤ k1 ∧ k1 ≤ 12) ∨ (13 ≤ k1 ∧ k1 ≤ 13) ∨ (14 ≤ k1 ∧ k1 ≤ 14) ∨ (15 ≤ k1 ∧ k1 ≤ 15) by omega) with g1 | g1 | g1 | g1 | g1 | g1 | g1 | g1 | g1 | g1 | g1 | g1 | g1 | g1 | g1 | g1
      · exact ⟨_, (Go.Ev.pcCons (by omega) (by omega) (Go.Ev.pcCons (by omega) (by omega) (Go.Ev.pcCons (by omega) (by omega) (Go.Ev.pcCons (by omega) (by omega) Go.Ev.pcNil)))), Ev.cReplicaGives112⟩
      · exact ⟨_, (Go.Ev.pcCons (by omega) (by omega) (Go.Ev.pcCons (by omega) (by omega) (Go.Ev.pcCons (by omega) (by omega) (Go.Ev.pcCons (by omega) (by omega) Go.Ev.pcNil)))), Ev.cReplicaGives113⟩
      · exact ⟨_, (Go.Ev.pcCons (by omega) (by omega) (Go.Ev.pcCons (by omega) (by omega) (Go.Ev.pcCons (by omega) (by omega) (Go.Ev.pcCons (by omega) (by omega) Go.Ev.pcNil)))), Ev.cReplicaGives114⟩
      · exact ⟨_, (Go.Ev.pcCons (by omega) (by omega) (Go.Ev.pcCons (by omega) (by omega) (Go.Ev.pcCons (by omega) (by omega) (Go.Ev.pcCons (by omega) (by omega) Go.Ev.pcNil)))), Ev.cReplicaGives115⟩
      · exact ⟨_, (Go.Ev.pcCons (by omega) (by omega) (Go.Ev.pcCons (by omega) (by omega) (Go.Ev.pcCons (by omega) (by omega) (Go.Ev.pcCons (by omega) (by omega) Go.Ev.pcNil)))), Ev.cReplicaGives116⟩
      · exact ⟨_, (Go.Ev.pcCons (by omega) (by omega) (Go.Ev.pcCons (by omega) (by omega) (Go.Ev.pcCons (by omega) (by omega) (Go.Ev.pcCons (by omega) (by omega) Go.Ev.pcNil)))), Ev.cReplicaGives117⟩
      · exact ⟨_, (Go.Ev.pcCons (by omega) (by omega) (Go.Ev.pcCons (by omega) (by omega) (Go.Ev.pcCons (by omega) (by omega) (Go.Ev.pcCons (by omega) (by omega) Go.Ev.pcNil)))), Ev.cReplicaGives118⟩
      · exact ⟨_, (Go.Ev.pcCons (by omega) (by omega) (Go.Ev.pcCons (by omega) (by omega) (Go.Ev.pcCons (by omega) (by omega) (Go.Ev.pcCons (by omega) (by omega) Go.Ev.pcNil)))), Ev.cReplicaGives119⟩
      · exact ⟨_, (Go.Ev.pcCons (by omega) (by omega) (Go.Ev.pcCons (by omega) (by omega) (Go.Ev.pcCons (by omega) (by omega) (Go.Ev.pcCons (by omega) (by omega) Go.Ev.pcNil)))), Ev.cReplicaGives120⟩
      · exact ⟨_, (Go.Ev.pcCons (by omega) (by omega) (Go.Ev.pcCons (by omega) (by omega) (Go.Ev.pcCons (by omega) (by omega) (Go.Ev.pcCons (by omega) (by omega) Go.Ev.pcNil)))), Ev.cReplicaGives121⟩
      · exact ⟨_, (Go.Ev.pcCons (by omega) (by omega) (Go.Ev.pcCons (by omega) (by omega) (Go.Ev.pcCons (by omega) (by omega) (Go.Ev.pcCons (by omega) (by omega) Go.Ev.pcNil)))), Ev.cReplicaGives122⟩
      · exact ⟨_, (Go.Ev.pcCons (by omega) (by omega) (Go.Ev.pcCons (by omega) (by omega) (Go.Ev.pcCons (by omega) (by omega) (Go.Ev.pcCons (by omega) (by omega) Go.Ev.pcNil)))), Ev.cReplicaGives123⟩
      · exact ⟨_, (Go.Ev.pcCons (by omega) (by omega) (Go.Ev.pcCons (by omega) (by omega) (Go.Ev.pcCons (by omega) (by omega) (Go.Ev.pcCons (by omega) (by omega) Go.Ev.pcNil)))), Ev.cReplicaGives124⟩
      · exact ⟨_, (Go.Ev.pcCons (by omega) (by omega) (Go.Ev.pcCons (by omega) (by omega) (Go.Ev.pcCons (by omega) (by omega) (Go.Ev.pcCons (by omega) (by omega) Go.Ev.pcNil)))), Ev.cReplicaGives125⟩
      · exact ⟨_, (Go.Ev.pcCons (by omega) (by omega) (Go.Ev.pcCons (by omega) (by omega) (Go.Ev.pcCons (by omega) (by omega) (Go.Ev.pcCons (by omega) (by omega) Go.Ev.pcNil)))), Ev.cReplicaGives126⟩
      · exact ⟨_, (Go.Ev.pcCons (by omega) (by omega) (Go.Ev.pcCons (by omega) (by omega) (Go.Ev.pcCons (by omega) (by omega) (Go.Ev.pcCons (by omega) (by omega) Go.Ev.pcNil)))), Ev.cReplicaGives127⟩
  obtain ⟨pc, hpc, hr⟩ := hrun
  refine (Go.Ev.lawH (T := Go.Ev.TT (Go.Ev.mOf [k0, k1, k2, k3])) Go.Ev.zz_not (val := Go.Ev.valOf (Go.Ev.rawOf [a0, a1, a2, a3]) (Go.Ev.mOf [k0, k1, k2, k3])) Go.Ev.isR_elim (Go.Ev.rngOrc2_ok (fun e he => ?_) (fun c hc => ?_)) Ev.mixed (Ev.k1Ok _ _) Ev.ftOk ⟨pc, hpc, hr⟩ w [.int .i64 a0, .int .i64 a1, .int .i64 a2, .int .i64 a3] ⟨rfl, rfl, rfl, rfl, trivial⟩).mono fun e w1 ⟨g1, g2⟩ => ⟨g1, g2.grown⟩
  · simp only [List.mem_cons, List.not_mem_nil, or_false] at he
    rcases he with rfl | rfl | rfl | rfl
    · exact Go.Ev.ent_ok (i := 0) (j := 0) (by decide) (by decide) e0
    · exact Go.Ev.ent_ok (i := 1) (j := 1) (by decide) (by decide) e1
    · exact Go.Ev.ent_ok (i := 2) (j := 2) (by decide) (by decide) e2
    · exact Go.Ev.ent_ok (i := 3) (j := 3) (by decide) (by decide) e3
  · cases hc

/-! ### THE ROW's STEP: WRITTEN OUT: LEAVE IT -/
set_option maxRecDepth 100000 in
theorem lifted (os : Os) (started : os.Started) (H : Type) (enc : TypeId × Value → H) :
    ReturnsInHanded {} Try.checked os 13 .any (Rows.replicaGivesSpec.pre6 enc Try.prog Try.f13 Rows.replicaGivesRow.domain false) (Rows.replicaGivesSpec.post enc Try.prog Try.f13 false true false false) := by
  refine returnsInHanded_of_change (C := Try.checked) own started (by kernel_rfl) Try.func13
    (ChangeSpec.witness6 (enc := enc) (C := Try.checked) false ⟨#[], #[.int .i64 0, .int .i64 0, .int .i64 0, .int .i64 0], []⟩ 8 (by kernel_rfl) (by kernel_rfl) (by kernel_rfl) (by kernel_rfl)) ?_
  intro W base args ds gs before hval0 hW hcnd _
  have hval : ∀ (j : Nat) t v, Try.f13.params[j]? = some t → args[j]? = some v → Value.okWide Try.prog W .any base t v := hval0
  have hW' := hW
  obtain ⟨p, q, hA0, hV, rfl, hfz, hnd⟩ := hW
  have hA : DataW.TrodAll enc Try.prog W 0 (fun _ => true) true Try.f13.params.toList args.toList ds p := hA0
  rw [Try.params13] at hA hval
  obtain ⟨v0, vs0, d0, ds0, p0, q0, hargs, rfl, rfl, h0, r0⟩ := trodAll_cons hA
  obtain ⟨v1, vs1, d1, ds1, p1, q1, rfl, rfl, rfl, h1, r1⟩ := trodAll_cons r0
  obtain ⟨v2, vs2, d2, ds2, p2, q2, rfl, rfl, rfl, h2, r2⟩ := trodAll_cons r1
  obtain ⟨v3, vs3, d3, ds3, p3, q3, rfl, rfl, rfl, h3, r3⟩ := trodAll_cons r2
  obtain ⟨rfl, rfl, rfl⟩ := trodAll_nil r3
  obtain rfl : args = #[v0, v1, v2, v3] := by cases args; simp_all
  obtain ⟨rfl, rfl⟩ := trodVars_none hV
  obtain ⟨a0, rfl, rfl, rfl, w0⟩ := open_int Try.underlying3 (hval 0 3 v0 rfl rfl) h0
  obtain ⟨a1, rfl, rfl, rfl, w1⟩ := open_int Try.underlying3 (hval 1 3 v1 rfl rfl) h1
  obtain ⟨a2, rfl, rfl, rfl, w2⟩ := open_int Try.underlying3 (hval 2 3 v2 rfl rfl) h2
  obtain ⟨a3, rfl, rfl, rfl, w3⟩ := open_int Try.underlying3 (hval 3 3 v3 rfl rfl) h3
  clear hA0 hval0
  simp only [List.append_nil] at hW'
  refine (walk a0 a1 a2 a3 w0 w1 w2 w3 W).mono fun e W' ⟨he, hg⟩ => ?_
  subst he
  exact ⟨_, rfl, post_of_same (pa := []) (pv := []) hW' (fun _ _ _ => (trodAll_cons_mk (shut_bool Try.underlying4 _) trodAll_mk0)) (fun sp _ => (trodAll_cons_mk (shut_int Try.underlying3 w0) (trodAll_cons_mk (shut_int Try.underlying3 w1) (trodAll_cons_mk (shut_int Try.underlying3 w2) (trodAll_cons_mk (shut_int Try.underlying3 w3) trodAll_mk0))))) (fun _ _ => rfl) rfl
    (hg.frame _) hg.2.1 (ok_one (by kernel_rfl) rfl (okWide_bool_mk Try.underlying4 _))⟩

theorem over : Rows.replicaGivesRow.holds Try.pinned (OpenSpec.ofChange Rows.replicaGivesSpec) :=
  OpenClaim.holds_of_wide 13 Try.f13 rfl rfl rfl rfl rfl rfl rfl ⟨rfl, rfl, rfl, rfl, rfl⟩ rfl rfl rfl rfl rfl (by kernel_rfl) Try.func13 (by kernel_rfl)
    (of_decide_eq_true (by kernel_rfl)) (by unfold Func.isWrapper; first | (rw [if_pos (by decide +kernel)]; kernel_rfl) | (rw [if_neg (by decide +kernel)]; exact ⟨rfl, rfl⟩))
    (fun os started H enc _ => lifted os started H enc)

/-- ████ THE STATEMENT ████ -/
theorem proved : Rows.ReplicaGivesSaid :=
  over
#print axioms proved
end Go.Proofs.Ytmnkmmfjekcinaa.replicaGives
