/-
  Proved: the call of cachetlaw22.NodeTries returns true at every input. No condition.
  The frame of the proof was written by the seat's proof-skeleton.mjs; the walk is filled in.
-/
import Derived.Test.YtbhmncahmdidiaaGreatRows
import Derived.Test.YtbhmncahmdidiaaGreatNodeTriesC1
import Derived.Test.YtbhmncahmdidiaaGreatNodeTriesC2
import Derived.Test.YtbhmncahmdidiaaGreatNodeTriesC3
import Derived.Test.YtbhmncahmdidiaaGreatNodeTriesC4
import Derived.Test.YtbhmncahmdidiaaGreatNodeTriesC5
import Derived.Test.YtbhmncahmdidiaaGreatNodeTriesC6
import Derived.Test.YtbhmncahmdidiaaGreatNodeTriesC7
import Derived.Test.YtbhmncahmdidiaaGreatNodeTriesC8
import Derived.Test.YtbhmncahmdidiaaGreatNodeTriesF
import Derived.WalkKit
import Derived.ProofKit
import Derived.OpenShut
namespace Go.Proofs.YtbhmncahmdidiaaGreat.nodeTries
open Go.ChangeShapes Go.WideShapes Go.ChangeAt Go.RowKit
set_option linter.unusedVariables false

theorem own : ownKnob Tryz.prog.godebug = none := by kernel_rfl

/-! ### STEP 1: THE WALK -/
theorem walk (a0 : Int) (a1 : Int) (a2 : Int) (w0 : (Lit.int .i64 a0).wf = true) (w1 : (Lit.int .i64 a1).wf = true) (w2 : (Lit.int .i64 a2).wf = true) (w : World) :
    Calls Tryz.prog 4 #[.int .i64 a0, .int .i64 a1, .int .i64 a2] w fun e w' => e = .returned (.bool true) ∧ Go.Ev.GrownE w w' := by
  obtain ⟨k0, h0, e0⟩ := Go.Ev.mask_cases a0 7 (by decide)
  obtain ⟨k1, h1, e1⟩ := Go.Ev.mask_cases a1 15 (by decide)
  obtain ⟨k2, h2, e2⟩ := Go.Ev.mask_cases a2 15 (by decide)
  have hrun : ∃ pc, Go.Ev.PcOk (Go.Ev.mOf [k0, k1, k2]) pc ∧ Ev.runNodeTries pc = true := by
    rcases (show (0 ≤ k0 ∧ k0 ≤ 0) ∨ (1 ≤ k0 ∧ k0 ≤ 1) ∨ (2 ≤ k0 ∧ k0 ≤ 2) ∨ (3 ≤ k0 ∧ k0 ≤ 3) ∨ (4 ≤ k0 ∧ k0 ≤ 4) ∨ (5 ≤ k0 ∧ k0 ≤ 5) ∨ (6 ≤ k0 ∧ k0 ≤ 6) ∨ (7 ≤ k0 ∧ k0 ≤ 7) by omega) with g0 | g0 | g0 | g0 | g0 | g0 | g0 | g0
    · rcases (show (0 ≤ k1 ∧ k1 ≤ 3) ∨ (4 ≤ k1 ∧ k1 ≤ 7) ∨ (8 ≤ k1 ∧ k1 ≤ 11) ∨ (12 ≤ k1 ∧ k1 ≤ 15) by omega) with g1 | g1 | g1 | g1
      · exact ⟨_, (Go.Ev.pcCons (by omega) (by omega) (Go.Ev.pcCons (by omega) (by omega) (Go.Ev.pcCons (by omega) (by omega) Go.Ev.pcNil))), Ev.cNodeTries0⟩
      · exact ⟨_, (Go.Ev.pcCons (by omega) (by omega) (Go.Ev.pcCons (by omega) (by omega) (Go.Ev.pcCons (by omega) (by omega) Go.Ev.pcNil))), Ev.cNodeTries1⟩
      · exact ⟨_, (Go.Ev.pcCons (by omega) (by omega) (Go.Ev.pcCons (by omega) (by omega) (Go.Ev.pcCons (by omega) (by omega) Go.Ev.pcNil))), Ev.cNodeTries2⟩
      · exact ⟨_, (Go.Ev.pcCons (by omega) (by omega) (Go.Ev.pcCons (by omega) (by omega) (Go.Ev.pcCons (by omega) (by omega) Go.Ev.pcNil))), Ev.cNodeTries3⟩
    · rcases (show (0 ≤ k1 ∧ k1 ≤ 3) ∨ (4 ≤ k1 ∧ k1 ≤ 7) ∨ (8 ≤ k1 ∧ k1 ≤ 11) ∨ (12 ≤ k1 ∧ k1 ≤ 15) by omega) with g1 | g1 | g1 | g1
      · exact ⟨_, (Go.Ev.pcCons (by omega) (by omega) (Go.Ev.pcCons (by omega) (by omega) (Go.Ev.pcCons (by omega) (by omega) Go.Ev.pcNil))), Ev.cNodeTries4⟩
      · exact ⟨_, (Go.Ev.pcCons (by omega) (by omega) (Go.Ev.pcCons (by omega) (by omega) (Go.Ev.pcCons (by omega) (by omega) Go.Ev.pcNil))), Ev.cNodeTries5⟩
      · exact ⟨_, (Go.Ev.pcCons (by omega) (by omega) (Go.Ev.pcCons (by omega) (by omega) (Go.Ev.pcCons (by omega) (by omega) Go.Ev.pcNil))), Ev.cNodeTries6⟩
      · exact ⟨_, (Go.Ev.pcCons (by omega) (by omega) (Go.Ev.pcCons (by omega) (by omega) (Go.Ev.pcCons (by omega) (by omega) Go.Ev.pcNil))), Ev.cNodeTries7⟩
    · rcases (show (0 ≤ k1 ∧ k1 ≤ 3) ∨ (4 ≤ k1 ∧ k1 ≤ 7) ∨ (8 ≤ k1 ∧ k1 ≤ 11) ∨ (12 ≤ k1 ∧ k1 ≤ 15) by omega) with g1 | g1 | g1 | g1
      · exact ⟨_, (Go.Ev.pcCons (by omega) (by omega) (Go.Ev.pcCons (by omega) (by omega) (Go.Ev.pcCons (by omega) (by omega) Go.Ev.pcNil))), Ev.cNodeTries8⟩
      · exact ⟨_, (Go.Ev.pcCons (by omega) (by omega) (Go.Ev.pcCons (by omega) (by omega) (Go.Ev.pcCons (by omega) (by omega) Go.Ev.pcNil))), Ev.cNodeTries9⟩
      · exact ⟨_, (Go.Ev.pcCons (by omega) (by omega) (Go.Ev.pcCons (by omega) (by omega) (Go.Ev.pcCons (by omega) (by omega) Go.Ev.pcNil))), Ev.cNodeTries10⟩
      · exact ⟨_, (Go.Ev.pcCons (by omega) (by omega) (Go.Ev.pcCons (by omega) (by omega) (Go.Ev.pcCons (by omega) (by omega) Go.Ev.pcNil))), Ev.cNodeTries11⟩
    · rcases (show (0 ≤ k1 ∧ k1 ≤ 3) ∨ (4 ≤ k1 ∧ k1 ≤ 7) ∨ (8 ≤ k1 ∧ k1 ≤ 11) ∨ (12 ≤ k1 ∧ k1 ≤ 15) by omega) with g1 | g1 | g1 | g1
      · exact ⟨_, (Go.Ev.pcCons (by omega) (by omega) (Go.Ev.pcCons (by omega) (by omega) (Go.Ev.pcCons (by omega) (by omega) Go.Ev.pcNil))), Ev.cNodeTries12⟩
      · exact ⟨_, (Go.Ev.pcCons (by omega) (by omega) (Go.Ev.pcCons (by omega) (by omega) (Go.Ev.pcCons (by omega) (by omega) Go.Ev.pcNil))), Ev.cNodeTries13⟩
      · exact ⟨_, (Go.Ev.pcCons (by omega) (by omega) (Go.Ev.pcCons (by omega) (by omega) (Go.Ev.pcCons (by omega) (by omega) Go.Ev.pcNil))), Ev.cNodeTries14⟩
      · exact ⟨_, (Go.Ev.pcCons (by omega) (by omega) (Go.Ev.pcCons (by omega) (by omega) (Go.Ev.pcCons (by omega) (by omega) Go.Ev.pcNil))), Ev.cNodeTries15⟩
    · rcases (show (0 ≤ k1 ∧ k1 ≤ 3) ∨ (4 ≤ k1 ∧ k1 ≤ 7) ∨ (8 ≤ k1 ∧ k1 ≤ 11) ∨ (12 ≤ k1 ∧ k1 ≤ 15) by omega) with g1 | g1 | g1 | g1
      · exact ⟨_, (Go.Ev.pcCons (by omega) (by omega) (Go.Ev.pcCons (by omega) (by omega) (Go.Ev.pcCons (by omega) (by omega) Go.Ev.pcNil))), Ev.cNodeTries16⟩
      · exact ⟨_, (Go.Ev.pcCons (by omega) (by omega) (Go.Ev.pcCons (by omega) (by omega) (Go.Ev.pcCons (by omega) (by omega) Go.Ev.pcNil))), Ev.cNodeTries17⟩
      · exact ⟨_, (Go.Ev.pcCons (by omega) (by omega) (Go.Ev.pcCons (by omega) (by omega) (Go.Ev.pcCons (by omega) (by omega) Go.Ev.pcNil))), Ev.cNodeTries18⟩
      · exact ⟨_, (Go.Ev.pcCons (by omega) (by omega) (Go.Ev.pcCons (by omega) (by omega) (Go.Ev.pcCons (by omega) (by omega) Go.Ev.pcNil))), Ev.cNodeTries19⟩
    · rcases (show (0 ≤ k1 ∧ k1 ≤ 3) ∨ (4 ≤ k1 ∧ k1 ≤ 7) ∨ (8 ≤ k1 ∧ k1 ≤ 11) ∨ (12 ≤ k1 ∧ k1 ≤ 15) by omega) with g1 | g1 | g1 | g1
      · exact ⟨_, (Go.Ev.pcCons (by omega) (by omega) (Go.Ev.pcCons (by omega) (by omega) (Go.Ev.pcCons (by omega) (by omega) Go.Ev.pcNil))), Ev.cNodeTries20⟩
      · exact ⟨_, (Go.Ev.pcCons (by omega) (by omega) (Go.Ev.pcCons (by omega) (by omega) (Go.Ev.pcCons (by omega) (by omega) Go.Ev.pcNil))), Ev.cNodeTries21⟩
      · exact ⟨_, (Go.Ev.pcCons (by omega) (by omega) (Go.Ev.pcCons (by omega) (by omega) (Go.Ev.pcCons (by omega) (by omega) Go.Ev.pcNil))), Ev.cNodeTries22⟩
      · exact ⟨_, (Go.Ev.pcCons (by omega) (by omega) (Go.Ev.pcCons (by omega) (by omega) (Go.Ev.pcCons (by omega) (by omega) Go.Ev.pcNil))), Ev.cNodeTries23⟩
    · rcases (show (0 ≤ k1 ∧ k1 ≤ 3) ∨ (4 ≤ k1 ∧ k1 ≤ 7) ∨ (8 ≤ k1 ∧ k1 ≤ 11) ∨ (12 ≤ k1 ∧ k1 ≤ 15) by omega) with g1 | g1 | g1 | g1
      · exact ⟨_, (Go.Ev.pcCons (by omega) (by omega) (Go.Ev.pcCons (by omega) (by omega) (Go.Ev.pcCons (by omega) (by omega) Go.Ev.pcNil))), Ev.cNodeTries24⟩
      · exact ⟨_, (Go.Ev.pcCons (by omega) (by omega) (Go.Ev.pcCons (by omega) (by omega) (Go.Ev.pcCons (by omega) (by omega) Go.Ev.pcNil))), Ev.cNodeTries25⟩
      · exact ⟨_, (Go.Ev.pcCons (by omega) (by omega) (Go.Ev.pcCons (by omega) (by omega) (Go.Ev.pcCons (by omega) (by omega) Go.Ev.pcNil))), Ev.cNodeTries26⟩
      · exact ⟨_, (Go.Ev.pcCons (by omega) (by omega) (Go.Ev.pcCons (by omega) (by omega) (Go.Ev.pcCons (by omega) (by omega) Go.Ev.pcNil))), Ev.cNodeTries27⟩
    · rcases (show (0 ≤ k1 ∧ k1 ≤ 3) ∨ (4 ≤ k1 ∧ k1 ≤ 7) ∨ (8 ≤ k1 ∧ k1 ≤ 11) ∨ (12 ≤ k1 ∧ k1 ≤ 15) by omega) with g1 | g1 | g1 | g1
      · exact ⟨_, (Go.Ev.pcCons (by omega) (by omega) (Go.Ev.pcCons (by omega) (by omega) (Go.Ev.pcCons (by omega) (by omega) Go.Ev.pcNil))), Ev.cNodeTries28⟩
      · exact ⟨_, (Go.Ev.pcCons (by omega) (by omega) (Go.Ev.pcCons (by omega) (by omega) (Go.Ev.pcCons (by omega) (by omega) Go.Ev.pcNil))), Ev.cNodeTries29⟩
      · exact ⟨_, (Go.Ev.pcCons (by omega) (by omega) (Go.Ev.pcCons (by omega) (by omega) (Go.Ev.pcCons (by omega) (by omega) Go.Ev.pcNil))), Ev.cNodeTries30⟩
      · exact ⟨_, (Go.Ev.pcCons (by omega) (by omega) (Go.Ev.pcCons (by omega) (by omega) (Go.Ev.pcCons (by omega) (by omega) Go.Ev.pcNil))), Ev.cNodeTries31⟩
  obtain ⟨pc, hpc, hr⟩ := hrun
  refine (Go.Ev.lawH (T := Go.Ev.TT (Go.Ev.mOf [k0, k1, k2])) Go.Ev.zz_not (val := Go.Ev.valOf (Go.Ev.rawOf [a0, a1, a2]) (Go.Ev.mOf [k0, k1, k2])) Go.Ev.isR_elim (Go.Ev.rngOrc2_ok (fun e he => ?_) (fun c hc => ?_)) Ev.mixed (Ev.k1Ok _ _) Ev.ftOk ⟨pc, hpc, hr⟩ w [.int .i64 a0, .int .i64 a1, .int .i64 a2] ⟨rfl, rfl, rfl, trivial⟩).mono fun e w1 ⟨g1, g2⟩ => ⟨g1, g2.grown⟩
  · simp only [List.mem_cons, List.not_mem_nil, or_false] at he
    rcases he with rfl | rfl | rfl
    · exact Go.Ev.ent_ok (i := 0) (j := 0) (by decide) (by decide) e0
    · exact Go.Ev.ent_ok (i := 1) (j := 1) (by decide) (by decide) e1
    · exact Go.Ev.ent_ok (i := 2) (j := 2) (by decide) (by decide) e2
  · cases hc

/-! ### THE ROW's STEP: WRITTEN OUT: LEAVE IT -/
set_option maxRecDepth 100000 in
theorem lifted (os : Os) (started : os.Started) (H : Type) (enc : TypeId × Value → H) :
    ReturnsInHanded {} Tryz.checked os 4 .any (Rows.nodeTriesSpec.pre6 enc Tryz.prog Tryz.f4 Rows.nodeTriesRow.domain false) (Rows.nodeTriesSpec.post enc Tryz.prog Tryz.f4 false true false false) := by
  refine returnsInHanded_of_change (C := Tryz.checked) own started (by kernel_rfl) Tryz.func4
    (ChangeSpec.witness6 (enc := enc) (C := Tryz.checked) false ⟨#[], #[.int .i64 0, .int .i64 0, .int .i64 0], []⟩ 8 (by kernel_rfl) (by kernel_rfl) (by kernel_rfl) (by kernel_rfl)) ?_
  intro W base args ds gs before hval0 hW hcnd _
  have hval : ∀ (j : Nat) t v, Tryz.f4.params[j]? = some t → args[j]? = some v → Value.okWide Tryz.prog W .any base t v := hval0
  have hW' := hW
  obtain ⟨p, q, hA0, hV, rfl, hfz, hnd⟩ := hW
  have hA : DataW.TrodAll enc Tryz.prog W 0 (fun _ => true) true Tryz.f4.params.toList args.toList ds p := hA0
  rw [Tryz.params4] at hA hval
  obtain ⟨v0, vs0, d0, ds0, p0, q0, hargs, rfl, rfl, h0, r0⟩ := trodAll_cons hA
  obtain ⟨v1, vs1, d1, ds1, p1, q1, rfl, rfl, rfl, h1, r1⟩ := trodAll_cons r0
  obtain ⟨v2, vs2, d2, ds2, p2, q2, rfl, rfl, rfl, h2, r2⟩ := trodAll_cons r1
  obtain ⟨rfl, rfl, rfl⟩ := trodAll_nil r2
  obtain rfl : args = #[v0, v1, v2] := by cases args; simp_all
  obtain ⟨rfl, rfl⟩ := trodVars_none hV
  obtain ⟨a0, rfl, rfl, rfl, w0⟩ := open_int Tryz.underlying3 (hval 0 3 v0 rfl rfl) h0
  obtain ⟨a1, rfl, rfl, rfl, w1⟩ := open_int Tryz.underlying3 (hval 1 3 v1 rfl rfl) h1
  obtain ⟨a2, rfl, rfl, rfl, w2⟩ := open_int Tryz.underlying3 (hval 2 3 v2 rfl rfl) h2
  clear hA0 hval0
  simp only [List.append_nil] at hW'
  refine (walk a0 a1 a2 w0 w1 w2 W).mono fun e W' ⟨he, hg⟩ => ?_
  subst he
  exact ⟨_, rfl, Go.Ev.post_of_grown (pa := []) (pv := []) hW' (fun _ _ _ => (trodAll_cons_mk (shut_bool Tryz.underlying4 _) trodAll_mk0)) (fun sp _ => (trodAll_cons_mk (shut_int Tryz.underlying3 w0) (trodAll_cons_mk (shut_int Tryz.underlying3 w1) (trodAll_cons_mk (shut_int Tryz.underlying3 w2) trodAll_mk0)))) (fun _ _ => rfl) rfl
    (hg.frame _) hg.2.1 (ok_one (by kernel_rfl) rfl (okWide_bool_mk Tryz.underlying4 _))⟩

theorem over : Rows.nodeTriesRow.holds Tryz.pinned (OpenSpec.ofChange Rows.nodeTriesSpec) :=
  OpenClaim.holds_of_wide 4 Tryz.f4 rfl rfl rfl rfl rfl rfl rfl ⟨rfl, rfl, rfl, rfl, rfl⟩ rfl rfl rfl rfl rfl (by kernel_rfl) Tryz.func4 nodeTriesFacts.closed
    (of_decide_eq_true (by kernel_rfl)) (by unfold Func.isWrapper; first | (rw [if_pos (by decide +kernel)]; kernel_rfl) | (rw [if_neg (by decide +kernel)]; exact ⟨rfl, rfl⟩))
    (fun os started H enc _ => lifted os started H enc)

/-- ████ THE STATEMENT ████ -/
theorem proved : Rows.NodeTriesSaid :=
  over
#print axioms proved
end Go.Proofs.YtbhmncahmdidiaaGreat.nodeTries
