/-
  Proved: the call of cachetlaw18.QuorumProbes returns true at every input. No condition.
  The frame of the proof was written by the seat's proof-skeleton.mjs; the walk is filled in.
-/
import Derived.Test.YtlmffooffbjdkaaRows
import Derived.Test.YtlmffooffbjdkaaQuorumProbesC1
import Derived.Test.YtlmffooffbjdkaaQuorumProbesC2
import Derived.WalkKit
import Derived.ProofKit
import Derived.OpenShut
namespace Go.Proofs.Ytlmffooffbjdkaa.quorumProbes
open Go.ChangeShapes Go.WideShapes Go.ChangeAt Go.RowKit
set_option linter.unusedVariables false

theorem own : ownKnob Try.prog.godebug = none := by kernel_rfl

/-! ### STEP 1: THE WALK -/
theorem walk (a0 : Int) (a1 : Int) (a2 : Int) (a3 : Int) (w0 : (Lit.int .i64 a0).wf = true) (w1 : (Lit.int .i64 a1).wf = true) (w2 : (Lit.int .i64 a2).wf = true) (w3 : (Lit.int .i64 a3).wf = true) (w : World) :
    Calls Try.prog 6 #[.int .i64 a0, .int .i64 a1, .int .i64 a2, .int .i64 a3] w fun e w' => e = .returned (.bool true) ∧ Grown w w' := by
  obtain ⟨k0, h0, e0⟩ := Go.Ev.mask_cases a0 3 (by decide)
  obtain ⟨k1, h1, e1⟩ := Go.Ev.mask_cases a1 15 (by decide)
  obtain ⟨k2, h2, e2⟩ := Go.Ev.mask_cases a2 3 (by decide)
  obtain ⟨k3, h3, e3⟩ := Go.Ev.mask_cases a3 7 (by decide)
  have hrun : ∃ pc, Go.Ev.PcOk (Go.Ev.mOf [k0, k1, k2, k3]) pc ∧ Ev.runQuorumProbes pc = true := by
    rcases (show (0 ≤ k0 ∧ k0 ≤ 0) ∨ (1 ≤ k0 ∧ k0 ≤ 1) ∨ (2 ≤ k0 ∧ k0 ≤ 2) ∨ (3 ≤ k0 ∧ k0 ≤ 3) by omega) with g0 | g0 | g0 | g0
    · rcases (show (0 ≤ k2 ∧ k2 ≤ 0) ∨ (1 ≤ k2 ∧ k2 ≤ 1) ∨ (2 ≤ k2 ∧ k2 ≤ 2) ∨ (3 ≤ k2 ∧ k2 ≤ 3) by omega) with g2 | g2 | g2 | g2
      · exact ⟨_, (Go.Ev.pcCons (by omega) (by omega) (Go.Ev.pcCons (by omega) (by omega) (Go.Ev.pcCons (by omega) (by omega) (Go.Ev.pcCons (by omega) (by omega) Go.Ev.pcNil)))), Ev.cQuorumProbes0⟩
      · exact ⟨_, (Go.Ev.pcCons (by omega) (by omega) (Go.Ev.pcCons (by omega) (by omega) (Go.Ev.pcCons (by omega) (by omega) (Go.Ev.pcCons (by omega) (by omega) Go.Ev.pcNil)))), Ev.cQuorumProbes1⟩
      · exact ⟨_, (Go.Ev.pcCons (by omega) (by omega) (Go.Ev.pcCons (by omega) (by omega) (Go.Ev.pcCons (by omega) (by omega) (Go.Ev.pcCons (by omega) (by omega) Go.Ev.pcNil)))), Ev.cQuorumProbes2⟩
      · exact ⟨_, (Go.Ev.pcCons (by omega) (by omega) (Go.Ev.pcCons (by omega) (by omega) (Go.Ev.pcCons (by omega) (by omega) (Go.Ev.pcCons (by omega) (by omega) Go.Ev.pcNil)))), Ev.cQuorumProbes3⟩
    · rcases (show (0 ≤ k2 ∧ k2 ≤ 0) ∨ (1 ≤ k2 ∧ k2 ≤ 1) ∨ (2 ≤ k2 ∧ k2 ≤ 2) ∨ (3 ≤ k2 ∧ k2 ≤ 3) by omega) with g2 | g2 | g2 | g2
      · exact ⟨_, (Go.Ev.pcCons (by omega) (by omega) (Go.Ev.pcCons (by omega) (by omega) (Go.Ev.pcCons (by omega) (by omega) (Go.Ev.pcCons (by omega) (by omega) Go.Ev.pcNil)))), Ev.cQuorumProbes4⟩
      · exact ⟨_, (Go.Ev.pcCons (by omega) (by omega) (Go.Ev.pcCons (by omega) (by omega) (Go.Ev.pcCons (by omega) (by omega) (Go.Ev.pcCons (by omega) (by omega) Go.Ev.pcNil)))), Ev.cQuorumProbes5⟩
      · exact ⟨_, (Go.Ev.pcCons (by omega) (by omega) (Go.Ev.pcCons (by omega) (by omega) (Go.Ev.pcCons (by omega) (by omega) (Go.Ev.pcCons (by omega) (by omega) Go.Ev.pcNil)))), Ev.cQuorumProbes6⟩
      · exact ⟨_, (Go.Ev.pcCons (by omega) (by omega) (Go.Ev.pcCons (by omega) (by omega) (Go.Ev.pcCons (by omega) (by omega) (Go.Ev.pcCons (by omega) (by omega) Go.Ev.pcNil)))), Ev.cQuorumProbes7⟩
    · rcases (show (0 ≤ k2 ∧ k2 ≤ 0) ∨ (1 ≤ k2 ∧ k2 ≤ 1) ∨ (2 ≤ k2 ∧ k2 ≤ 2) ∨ (3 ≤ k2 ∧ k2 ≤ 3) by omega) with g2 | g2 | g2 | g2
      · exact ⟨_, (Go.Ev.pcCons (by omega) (by omega) (Go.Ev.pcCons (by omega) (by omega) (Go.Ev.pcCons (by omega) (by omega) (Go.Ev.pcCons (by omega) (by omega) Go.Ev.pcNil)))), Ev.cQuorumProbes8⟩
      · exact ⟨_, (Go.Ev.pcCons (by omega) (by omega) (Go.Ev.pcCons (by omega) (by omega) (Go.Ev.pcCons (by omega) (by omega) (Go.Ev.pcCons (by omega) (by omega) Go.Ev.pcNil)))), Ev.cQuorumProbes9⟩
      · exact ⟨_, (Go.Ev.pcCons (by omega) (by omega) (Go.Ev.pcCons (by omega) (by omega) (Go.Ev.pcCons (by omega) (by omega) (Go.Ev.pcCons (by omega) (by omega) Go.Ev.pcNil)))), Ev.cQuorumProbes10⟩
      · exact ⟨_, (Go.Ev.pcCons (by omega) (by omega) (Go.Ev.pcCons (by omega) (by omega) (Go.Ev.pcCons (by omega) (by omega) (Go.Ev.pcCons (by omega) (by omega) Go.Ev.pcNil)))), Ev.cQuorumProbes11⟩
    · rcases (show (0 ≤ k2 ∧ k2 ≤ 0) ∨ (1 ≤ k2 ∧ k2 ≤ 1) ∨ (2 ≤ k2 ∧ k2 ≤ 2) ∨ (3 ≤ k2 ∧ k2 ≤ 3) by omega) with g2 | g2 | g2 | g2
      · exact ⟨_, (Go.Ev.pcCons (by omega) (by omega) (Go.Ev.pcCons (by omega) (by omega) (Go.Ev.pcCons (by omega) (by omega) (Go.Ev.pcCons (by omega) (by omega) Go.Ev.pcNil)))), Ev.cQuorumProbes12⟩
      · exact ⟨_, (Go.Ev.pcCons (by omega) (by omega) (Go.Ev.pcCons (by omega) (by omega) (Go.Ev.pcCons (by omega) (by omega) (Go.Ev.pcCons (by omega) (by omega) Go.Ev.pcNil)))), Ev.cQuorumProbes13⟩
      · exact ⟨_, (Go.Ev.pcCons (by omega) (by omega) (Go.Ev.pcCons (by omega) (by omega) (Go.Ev.pcCons (by omega) (by omega) (Go.Ev.pcCons (by omega) (by omega) Go.Ev.pcNil)))), Ev.cQuorumProbes14⟩
      · exact ⟨_, (Go.Ev.pcCons (by omega) (by omega) (Go.Ev.pcCons (by omega) (by omega) (Go.Ev.pcCons (by omega) (by omega) (Go.Ev.pcCons (by omega) (by omega) Go.Ev.pcNil)))), Ev.cQuorumProbes15⟩
  obtain ⟨pc, hpc, hr⟩ := hrun
  refine (Go.Ev.lawH (T := Go.Ev.TT (Go.Ev.mOf [k0, k1, k2, k3])) Go.Ev.zz_not (val := Go.Ev.valOf (Go.Ev.rawOf [a0, a1, a2, a3]) (Go.Ev.mOf [k0, k1, k2, k3])) Go.Ev.isR_elim (Go.Ev.rngOrc2_ok (fun e he => ?_) (fun c hc => ?_)) Ev.mixed (Ev.k1Ok _ _) Ev.ftOk ⟨pc, hpc, hr⟩ w [.int .i64 a0, .int .i64 a1, .int .i64 a2, .int .i64 a3] ⟨rfl, rfl, rfl, rfl, trivial⟩).mono fun e w1 ⟨g1, g2⟩ => ⟨g1, g2.grown⟩
  · simp only [List.mem_cons, List.not_mem_nil, or_false] at he
    rcases he with rfl | rfl | rfl | rfl
    · exact Go.Ev.ent_ok (i := 0) (j := 0) (by decide) (by decide) e0
    · exact Go.Ev.ent_ok (i := 1) (j := 1) (by decide) (by decide) e1
    · exact Go.Ev.ent_ok (i := 2) (j := 2) (by decide) (by decide) e2
    · exact Go.Ev.ent_ok (i := 3) (j := 3) (by decide) (by decide) e3
  · cases hc

/-! ### THE ROW's STEP: WRITTEN OUT: LEAVE IT -/
set_option maxRecDepth 100000 in
theorem lifted (os : Os) (started : os.Started) (H : Type) (enc : TypeId × Value → H) :
    ReturnsInHanded {} Try.checked os 6 .any (Rows.quorumProbesSpec.pre6 enc Try.prog Try.f6 Rows.quorumProbesRow.domain false) (Rows.quorumProbesSpec.post enc Try.prog Try.f6 false true false false) := by
  refine returnsInHanded_of_change (C := Try.checked) own started (by kernel_rfl) Try.func6
    (ChangeSpec.witness6 (enc := enc) (C := Try.checked) false ⟨#[], #[.int .i64 0, .int .i64 0, .int .i64 0, .int .i64 0], []⟩ 8 (by kernel_rfl) (by kernel_rfl) (by kernel_rfl) (by kernel_rfl)) ?_
  intro W base args ds gs before hval0 hW hcnd _
  have hval : ∀ (j : Nat) t v, Try.f6.params[j]? = some t → args[j]? = some v → Value.okWide Try.prog W .any base t v := hval0
  have hW' := hW
  obtain ⟨p, q, hA0, hV, rfl, hfz, hnd⟩ := hW
  have hA : DataW.TrodAll enc Try.prog W 0 (fun _ => true) true Try.f6.params.toList args.toList ds p := hA0
  rw [Try.params6] at hA hval
  obtain ⟨v0, vs0, d0, ds0, p0, q0, hargs, rfl, rfl, h0, r0⟩ := trodAll_cons hA
  obtain ⟨v1, vs1, d1, ds1, p1, q1, rfl, rfl, rfl, h1, r1⟩ := trodAll_cons r0
  obtain ⟨v2, vs2, d2, ds2, p2, q2, rfl, rfl, rfl, h2, r2⟩ := trodAll_cons r1
  obtain ⟨v3, vs3, d3, ds3, p3, q3, rfl, rfl, rfl, h3, r3⟩ := trodAll_cons r2
  obtain ⟨rfl, rfl, rfl⟩ := trodAll_nil r3
  obtain rfl : args = #[v0, v1, v2, v3] := by cases args; simp_all
  obtain ⟨rfl, rfl⟩ := trodVars_none hV
  obtain ⟨a0, rfl, rfl, rfl, w0⟩ := open_int Try.underlying3 (hval 0 3 v0 rfl rfl) h0
  obtain ⟨a1, rfl, rfl, rfl, w1⟩ := open_int Try.underlying3 (hval 1 3 v1 rfl rfl) h1
  obtain ⟨a2, rfl, rfl, rfl, w2⟩ := open_int Try.underlying3 (hval 2 3 v2 rfl rfl) h2
  obtain ⟨a3, rfl, rfl, rfl, w3⟩ := open_int Try.underlying3 (hval 3 3 v3 rfl rfl) h3
  clear hA0 hval0
  simp only [List.append_nil] at hW'
  refine (walk a0 a1 a2 a3 w0 w1 w2 w3 W).mono fun e W' ⟨he, hg⟩ => ?_
  subst he
  exact ⟨_, rfl, post_of_same (pa := []) (pv := []) hW' (fun _ _ _ => (trodAll_cons_mk (shut_bool Try.underlying4 _) trodAll_mk0)) (fun sp _ => (trodAll_cons_mk (shut_int Try.underlying3 w0) (trodAll_cons_mk (shut_int Try.underlying3 w1) (trodAll_cons_mk (shut_int Try.underlying3 w2) (trodAll_cons_mk (shut_int Try.underlying3 w3) trodAll_mk0))))) (fun _ _ => rfl) rfl
    (hg.frame _) hg.2.1 (ok_one (by kernel_rfl) rfl (okWide_bool_mk Try.underlying4 _))⟩

theorem over : Rows.quorumProbesRow.holds Try.pinned (OpenSpec.ofChange Rows.quorumProbesSpec) :=
  OpenClaim.holds_of_wide 6 Try.f6 rfl rfl rfl rfl rfl rfl rfl ⟨rfl, rfl, rfl, rfl, rfl⟩ rfl rfl rfl rfl rfl (by kernel_rfl) Try.func6 (by kernel_rfl)
    (of_decide_eq_true (by kernel_rfl)) (by unfold Func.isWrapper; first | (rw [if_pos (by decide +kernel)]; kernel_rfl) | (rw [if_neg (by decide +kernel)]; exact ⟨rfl, rfl⟩))
    (fun os started H enc _ => lifted os started H enc)

/-- ████ THE STATEMENT ████ -/
theorem proved : Rows.QuorumProbesSaid :=
  over
#print axioms proved
end Go.Proofs.Ytlmffooffbjdkaa.quorumProbes
