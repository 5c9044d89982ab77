/-
  Proved: the call of cachetlaw23.WorldOps returns true at every input. No condition.
  The frame of the proof was written by the seat's proof-skeleton.mjs; the walk is filled in.
-/
import Derived.Test.YtkmopacddblfeaaGreatRows
import Derived.Test.YtkmopacddblfeaaGreatWorldOpsC1
import Derived.Test.YtkmopacddblfeaaGreatWorldOpsC2
import Derived.Test.YtkmopacddblfeaaGreatWorldOpsC3
import Derived.Test.YtkmopacddblfeaaGreatWorldOpsC4
import Derived.Test.YtkmopacddblfeaaGreatWorldOpsF
import Derived.WalkKit
import Derived.ProofKit
import Derived.OpenShut
namespace Go.Proofs.YtkmopacddblfeaaGreat.worldOps
open Go.ChangeShapes Go.WideShapes Go.ChangeAt Go.RowKit
set_option linter.unusedVariables false

theorem own : ownKnob Tryz.prog.godebug = none := by kernel_rfl

/-! ### STEP 1: THE WALK -/
theorem walk (a0 : Int) (w0 : (Lit.int .i64 a0).wf = true) (w : World) :
    Calls Tryz.prog 3 #[.int .i64 a0] w fun e w' => e = .returned (.bool true) ∧ Go.Ev.GrownE w w' := by
  obtain ⟨k0, h0, e0⟩ := Go.Ev.mask_cases a0 7 (by decide)
  have hrun : ∃ pc, Go.Ev.PcOk (Go.Ev.mOf [k0]) pc ∧ Ev.runWorldOps pc = true := by
    rcases (show (0 ≤ k0 ∧ k0 ≤ 0) ∨ (1 ≤ k0 ∧ k0 ≤ 1) ∨ (2 ≤ k0 ∧ k0 ≤ 2) ∨ (3 ≤ k0 ∧ k0 ≤ 3) ∨ (4 ≤ k0 ∧ k0 ≤ 4) ∨ (5 ≤ k0 ∧ k0 ≤ 5) ∨ (6 ≤ k0 ∧ k0 ≤ 6) ∨ (7 ≤ k0 ∧ k0 ≤ 7) by omega) with g0 | g0 | g0 | g0 | g0 | g0 | g0 | g0
    · exact ⟨_, (Go.Ev.pcCons (by omega) (by omega) Go.Ev.pcNil), Ev.cWorldOps0⟩
    · exact ⟨_, (Go.Ev.pcCons (by omega) (by omega) Go.Ev.pcNil), Ev.cWorldOps1⟩
    · exact ⟨_, (Go.Ev.pcCons (by omega) (by omega) Go.Ev.pcNil), Ev.cWorldOps2⟩
    · exact ⟨_, (Go.Ev.pcCons (by omega) (by omega) Go.Ev.pcNil), Ev.cWorldOps3⟩
    · exact ⟨_, (Go.Ev.pcCons (by omega) (by omega) Go.Ev.pcNil), Ev.cWorldOps4⟩
    · exact ⟨_, (Go.Ev.pcCons (by omega) (by omega) Go.Ev.pcNil), Ev.cWorldOps5⟩
    · exact ⟨_, (Go.Ev.pcCons (by omega) (by omega) Go.Ev.pcNil), Ev.cWorldOps6⟩
    · exact ⟨_, (Go.Ev.pcCons (by omega) (by omega) Go.Ev.pcNil), Ev.cWorldOps7⟩
  obtain ⟨pc, hpc, hr⟩ := hrun
  refine (Go.Ev.lawH (T := Go.Ev.TT (Go.Ev.mOf [k0])) Go.Ev.zz_not (val := Go.Ev.valOf (Go.Ev.rawOf [a0]) (Go.Ev.mOf [k0])) Go.Ev.isR_elim (Go.Ev.rngOrc2_ok (fun e he => ?_) (fun c hc => ?_)) Ev.mixed (Ev.k1OkW _ _) Ev.ftOk ⟨pc, hpc, hr⟩ w [.int .i64 a0] ⟨rfl, trivial⟩).mono fun e w1 ⟨g1, g2⟩ => ⟨g1, g2.grown⟩
  · simp only [List.mem_cons, List.not_mem_nil, or_false] at he
    subst he
    exact Go.Ev.ent_ok (i := 0) (j := 0) (by decide) (by decide) e0
  · cases hc

/-! ### THE ROW's STEP: WRITTEN OUT: LEAVE IT -/
set_option maxRecDepth 100000 in
theorem lifted (os : Os) (started : os.Started) (H : Type) (enc : TypeId × Value → H) :
    ReturnsInHanded {} Tryz.checked os 3 .any (Rows.worldOpsSpec.pre6 enc Tryz.prog Tryz.f3 Rows.worldOpsRow.domain false) (Rows.worldOpsSpec.post enc Tryz.prog Tryz.f3 false true false false) := by
  refine returnsInHanded_of_change (C := Tryz.checked) own started (by kernel_rfl) Tryz.func3
    (ChangeSpec.witness6 (enc := enc) (C := Tryz.checked) false ⟨#[], #[.int .i64 0], []⟩ 8 (by kernel_rfl) (by kernel_rfl) (by kernel_rfl) (by kernel_rfl)) ?_
  intro W base args ds gs before hval0 hW hcnd _
  have hval : ∀ (j : Nat) t v, Tryz.f3.params[j]? = some t → args[j]? = some v → Value.okWide Tryz.prog W .any base t v := hval0
  have hW' := hW
  obtain ⟨p, q, hA0, hV, rfl, hfz, hnd⟩ := hW
  have hA : DataW.TrodAll enc Tryz.prog W 0 (fun _ => true) true Tryz.f3.params.toList args.toList ds p := hA0
  rw [Tryz.params3] at hA hval
  obtain ⟨v0, vs0, d0, ds0, p0, q0, hargs, rfl, rfl, h0, r0⟩ := trodAll_cons hA
  obtain ⟨rfl, rfl, rfl⟩ := trodAll_nil r0
  obtain rfl : args = #[v0] := by cases args; simp_all
  obtain ⟨rfl, rfl⟩ := trodVars_none hV
  obtain ⟨a0, rfl, rfl, rfl, w0⟩ := open_int Tryz.underlying3 (hval 0 3 v0 rfl rfl) h0
  clear hA0 hval0
  simp only [List.append_nil] at hW'
  refine (walk a0 w0 W).mono fun e W' ⟨he, hg⟩ => ?_
  subst he
  exact ⟨_, rfl, Go.Ev.post_of_grown (pa := []) (pv := []) hW' (fun _ _ _ => (trodAll_cons_mk (shut_bool Tryz.underlying4 _) trodAll_mk0)) (fun sp _ => (trodAll_cons_mk (shut_int Tryz.underlying3 w0) trodAll_mk0)) (fun _ _ => rfl) rfl
    (hg.frame _) hg.2.1 (ok_one (by kernel_rfl) rfl (okWide_bool_mk Tryz.underlying4 _))⟩

theorem over : Rows.worldOpsRow.holds Tryz.pinned (OpenSpec.ofChange Rows.worldOpsSpec) :=
  OpenClaim.holds_of_wide 3 Tryz.f3 rfl rfl rfl rfl rfl rfl rfl ⟨rfl, rfl, rfl, rfl, rfl⟩ rfl rfl rfl rfl rfl (by kernel_rfl) Tryz.func3 worldOpsFacts.closed
    (of_decide_eq_true (by kernel_rfl)) (by unfold Func.isWrapper; first | (rw [if_pos (by decide +kernel)]; kernel_rfl) | (rw [if_neg (by decide +kernel)]; exact ⟨rfl, rfl⟩))
    (fun os started H enc _ => lifted os started H enc)

/-- ████ THE STATEMENT ████ -/
theorem proved : Rows.WorldOpsSaid :=
  over
#print axioms proved
end Go.Proofs.YtkmopacddblfeaaGreat.worldOps
