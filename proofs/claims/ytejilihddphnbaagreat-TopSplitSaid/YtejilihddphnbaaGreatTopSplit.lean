/-
  Proved: the call of cachettop.TopSplit returns true at every input. No condition.
  The frame of the proof was written by the seat's proof-skeleton.mjs; the walk is filled in.
-/
import Derived.Test.YtejilihddphnbaaGreatRows
import Derived.Test.YtejilihddphnbaaGreatTopSplitC1
import Derived.Test.YtejilihddphnbaaGreatTopSplitC2
import Derived.Test.YtejilihddphnbaaGreatTopSplitC3
import Derived.Test.YtejilihddphnbaaGreatTopSplitC4
import Derived.Test.YtejilihddphnbaaGreatTopSplitC5
import Derived.Test.YtejilihddphnbaaGreatTopSplitC6
import Derived.Test.YtejilihddphnbaaGreatTopSplitC7
import Derived.Test.YtejilihddphnbaaGreatTopSplitC8
import Derived.Test.YtejilihddphnbaaGreatTopSplitC9
import Derived.Test.YtejilihddphnbaaGreatTopSplitC10
import Derived.Test.YtejilihddphnbaaGreatTopSplitC11
import Derived.Test.YtejilihddphnbaaGreatTopSplitC12
import Derived.Test.YtejilihddphnbaaGreatTopSplitC13
import Derived.Test.YtejilihddphnbaaGreatTopSplitC14
import Derived.Test.YtejilihddphnbaaGreatTopSplitC15
import Derived.Test.YtejilihddphnbaaGreatTopSplitC16
import Derived.Test.YtejilihddphnbaaGreatTopSplitC17
import Derived.Test.YtejilihddphnbaaGreatTopSplitC18
import Derived.Test.YtejilihddphnbaaGreatTopSplitC19
import Derived.Test.YtejilihddphnbaaGreatTopSplitC20
import Derived.Test.YtejilihddphnbaaGreatTopSplitC21
import Derived.Test.YtejilihddphnbaaGreatTopSplitC22
import Derived.Test.YtejilihddphnbaaGreatTopSplitF
import Derived.WalkKit
import Derived.ProofKit
import Derived.OpenShut
namespace Go.Proofs.YtejilihddphnbaaGreat.topSplit
open Go.ChangeShapes Go.WideShapes Go.ChangeAt Go.RowKit
set_option linter.unusedVariables false

theorem own : ownKnob Tryz.prog.godebug = none := by kernel_rfl

/-! ### STEP 1: THE WALK -/
theorem walk (a0 : Int) (a1 : Int) (w0 : (Lit.int .i64 a0).wf = true) (w1 : (Lit.int .i64 a1).wf = true) (w : World) :
    Calls Tryz.prog 6 #[.int .i64 a0, .int .i64 a1] w fun e w' => e = .returned (.bool true) ∧ Go.Ev.GrownE w w' := by
  obtain ⟨k0, h0, e0⟩ := Go.Ev.mask_cases a0 3 (by decide)
  obtain ⟨k1, h1, e1⟩ := Go.Ev.mask_cases a1 7 (by decide)
  have hrun : ∃ pc, Go.Ev.PcOk (Go.Ev.mOf [k0, k1]) pc ∧ Ev.runTopSplit pc = true := by
    rcases (show (0 ≤ k0 ∧ k0 ≤ 0) ∨ (1 ≤ k0 ∧ k0 ≤ 1) ∨ (2 ≤ k0 ∧ k0 ≤ 2) ∨ (3 ≤ k0 ∧ k0 ≤ 3) by omega) with g0 | g0 | g0 | g0
    · rcases (show (0 ≤ k1 ∧ k1 ≤ 0) ∨ (1 ≤ k1 ∧ k1 ≤ 1) ∨ (2 ≤ k1 ∧ k1 ≤ 2) ∨ (3 ≤ k1 ∧ k1 ≤ 3) ∨ (4 ≤ k1 ∧ k1 ≤ 4) ∨ (5 ≤ k1 ∧ k1 ≤ 5) ∨ (6 ≤ k1 ∧ k1 ≤ 6) ∨ (7 ≤ k1 ∧ k1 ≤ 7) by omega) with g1 | g1 | g1 | g1 | g1 | g1 | g1 | g1
      · exact ⟨_, (Go.Ev.pcCons (by omega) (by omega) (Go.Ev.pcCons (by omega) (by omega) Go.Ev.pcNil)), Ev.cTopSplit0⟩
      · exact ⟨_, (Go.Ev.pcCons (by omega) (by omega) (Go.Ev.pcCons (by omega) (by omega) Go.Ev.pcNil)), Ev.cTopSplit1⟩
      · exact ⟨_, (Go.Ev.pcCons (by omega) (by omega) (Go.Ev.pcCons (by omega) (by omega) Go.Ev.pcNil)), Ev.cTopSplit2⟩
      · exact ⟨_, (Go.Ev.pcCons (by omega) (by omega) (Go.Ev.pcCons (by omega) (by omega) Go.Ev.pcNil)), Ev.cTopSplit3⟩
      · exact ⟨_, (Go.Ev.pcCons (by omega) (by omega) (Go.Ev.pcCons (by omega) (by omega) Go.Ev.pcNil)), Ev.cTopSplit4⟩
      · exact ⟨_, (Go.Ev.pcCons (by omega) (by omega) (Go.Ev.pcCons (by omega) (by omega) Go.Ev.pcNil)), Ev.cTopSplit5⟩
      · exact ⟨_, (Go.Ev.pcCons (by omega) (by omega) (Go.Ev.pcCons (by omega) (by omega) Go.Ev.pcNil)), Ev.cTopSplit6⟩
      · exact ⟨_, (Go.Ev.pcCons (by omega) (by omega) (Go.Ev.pcCons (by omega) (by omega) Go.Ev.pcNil)), Ev.cTopSplit7⟩
    · rcases (show (0 ≤ k1 ∧ k1 ≤ 0) ∨ (1 ≤ k1 ∧ k1 ≤ 1) ∨ (2 ≤ k1 ∧ k1 ≤ 2) ∨ (3 ≤ k1 ∧ k1 ≤ 3) ∨ (4 ≤ k1 ∧ k1 ≤ 4) ∨ (5 ≤ k1 ∧ k1 ≤ 5) ∨ (6 ≤ k1 ∧ k1 ≤ 6) ∨ (7 ≤ k1 ∧ k1 ≤ 7) by omega) with g1 | g1 | g1 | g1 | g1 | g1 | g1 | g1
      · exact ⟨_, (Go.Ev.pcCons (by omega) (by omega) (Go.Ev.pcCons (by omega) (by omega) Go.Ev.pcNil)), Ev.cTopSplit8⟩
      · exact ⟨_, (Go.Ev.pcCons (by omega) (by omega) (Go.Ev.pcCons (by omega) (by omega) Go.Ev.pcNil)), Ev.cTopSplit9⟩
      · exact ⟨_, (Go.Ev.pcCons (by omega) (by omega) (Go.Ev.pcCons (by omega) (by omega) Go.Ev.pcNil)), Ev.cTopSplit10⟩
      · exact ⟨_, (Go.Ev.pcCons (by omega) (by omega) (Go.Ev.pcCons (by omega) (by omega) Go.Ev.pcNil)), Ev.cTopSplit11⟩
      · exact ⟨_, (Go.Ev.pcCons (by omega) (by omega) (Go.Ev.pcCons (by omega) (by omega) Go.Ev.pcNil)), Ev.cTopSplit12⟩
      · exact ⟨_, (Go.Ev.pcCons (by omega) (by omega) (Go.Ev.pcCons (by omega) (by omega) Go.Ev.pcNil)), Ev.cTopSplit13⟩
      · exact ⟨_, (Go.Ev.pcCons (by omega) (by omega) (Go.Ev.pcCons (by omega) (by omega) Go.Ev.pcNil)), Ev.cTopSplit14⟩
      · exact ⟨_, (Go.Ev.pcCons (by omega) (by omega) (Go.Ev.pcCons (by omega) (by omega) Go.Ev.pcNil)), Ev.cTopSplit15⟩
    · rcases (show (0 ≤ k1 ∧ k1 ≤ 0) ∨ (1 ≤ k1 ∧ k1 ≤ 1) ∨ (2 ≤ k1 ∧ k1 ≤ 2) ∨ (3 ≤ k1 ∧ k1 ≤ 3) ∨ (4 ≤ k1 ∧ k1 ≤ 4) ∨ (5 ≤ k1 ∧ k1 ≤ 5) ∨ (6 ≤ k1 ∧ k1 ≤ 6) ∨ (7 ≤ k1 ∧ k1 ≤ 7) by omega) with g1 | g1 | g1 | g1 | g1 | g1 | g1 | g1
      · exact ⟨_, (Go.Ev.pcCons (by omega) (by omega) (Go.Ev.pcCons (by omega) (by omega) Go.Ev.pcNil)), Ev.cTopSplit16⟩
      · exact ⟨_, (Go.Ev.pcCons (by omega) (by omega) (Go.Ev.pcCons (by omega) (by omega) Go.Ev.pcNil)), Ev.cTopSplit17⟩
      · exact ⟨_, (Go.Ev.pcCons (by omega) (by omega) (Go.Ev.pcCons (by omega) (by omega) Go.Ev.pcNil)), Ev.cTopSplit18⟩
      · exact ⟨_, (Go.Ev.pcCons (by omega) (by omega) (Go.Ev.pcCons (by omega) (by omega) Go.Ev.pcNil)), Ev.cTopSplit19⟩
      · exact ⟨_, (Go.Ev.pcCons (by omega) (by omega) (Go.Ev.pcCons (by omega) (by omega) Go.Ev.pcNil)), Ev.cTopSplit20⟩
      · exact ⟨_, (Go.Ev.pcCons (by omega) (by omega) (Go.Ev.pcCons (by omega) (by omega) Go.Ev.pcNil)), Ev.cTopSplit21⟩
      · exact ⟨_, (Go.Ev.pcCons (by omega) (by omega) (Go.Ev.pcCons (by omega) (by omega) Go.Ev.pcNil)), Ev.cTopSplit22⟩
      · exact ⟨_, (Go.Ev.pcCons (by omega) (by omega) (Go.Ev.pcCons (by omega) (by omega) Go.Ev.pcNil)), Ev.cTopSplit23⟩
    · rcases (show (0 ≤ k1 ∧ k1 ≤ 0) ∨ (1 ≤ k1 ∧ k1 ≤ 1) ∨ (2 ≤ k1 ∧ k1 ≤ 2) ∨ (3 ≤ k1 ∧ k1 ≤ 3) ∨ (4 ≤ k1 ∧ k1 ≤ 4) ∨ (5 ≤ k1 ∧ k1 ≤ 5) ∨ (6 ≤ k1 ∧ k1 ≤ 6) ∨ (7 ≤ k1 ∧ k1 ≤ 7) by omega) with g1 | g1 | g1 | g1 | g1 | g1 | g1 | g1
      · exact ⟨_, (Go.Ev.pcCons (by omega) (by omega) (Go.Ev.pcCons (by omega) (by omega) Go.Ev.pcNil)), Ev.cTopSplit24⟩
      · exact ⟨_, (Go.Ev.pcCons (by omega) (by omega) (Go.Ev.pcCons (by omega) (by omega) Go.Ev.pcNil)), Ev.cTopSplit25⟩
      · exact ⟨_, (Go.Ev.pcCons (by omega) (by omega) (Go.Ev.pcCons (by omega) (by omega) Go.Ev.pcNil)), Ev.cTopSplit26⟩
      · exact ⟨_, (Go.Ev.pcCons (by omega) (by omega) (Go.Ev.pcCons (by omega) (by omega) Go.Ev.pcNil)), Ev.cTopSplit27⟩
      · exact ⟨_, (Go.Ev.pcCons (by omega) (by omega) (Go.Ev.pcCons (by omega) (by omega) Go.Ev.pcNil)), Ev.cTopSplit28⟩
      · exact ⟨_, (Go.Ev.pcCons (by omega) (by omega) (Go.Ev.pcCons (by omega) (by omega) Go.Ev.pcNil)), Ev.cTopSplit29⟩
      · exact ⟨_, (Go.Ev.pcCons (by omega) (by omega) (Go.Ev.pcCons (by omega) (by omega) Go.Ev.pcNil)), Ev.cTopSplit30⟩
      · exact ⟨_, (Go.Ev.pcCons (by omega) (by omega) (Go.Ev.pcCons (by omega) (by omega) Go.Ev.pcNil)), Ev.cTopSplit31⟩
  obtain ⟨pc, hpc, hr⟩ := hrun
  refine (Go.Ev.lawH (T := Go.Ev.TT (Go.Ev.mOf [k0, k1])) Go.Ev.zz_not (val := Go.Ev.valOf (Go.Ev.rawOf [a0, a1]) (Go.Ev.mOf [k0, k1])) Go.Ev.isR_elim (Go.Ev.rngOrc2_ok (fun e he => ?_) (fun c hc => ?_)) Ev.mixed (Ev.k1OkT _ _) Ev.ftOk ⟨pc, hpc, hr⟩ w [.int .i64 a0, .int .i64 a1] ⟨rfl, rfl, trivial⟩).mono fun e w1 ⟨g1, g2⟩ => ⟨g1, g2.grown⟩
  · simp only [List.mem_cons, List.not_mem_nil, or_false] at he
    rcases he with rfl | rfl
    · exact Go.Ev.ent_ok (i := 0) (j := 0) (by decide) (by decide) e0
    · exact Go.Ev.ent_ok (i := 1) (j := 1) (by decide) (by decide) e1
  · cases hc

/-! ### THE ROW's STEP: WRITTEN OUT: LEAVE IT -/
set_option maxRecDepth 100000 in
theorem lifted (os : Os) (started : os.Started) (H : Type) (enc : TypeId × Value → H) :
    ReturnsInHanded {} Tryz.checked os 6 .any (Rows.topSplitSpec.pre6 enc Tryz.prog Tryz.f6 Rows.topSplitRow.domain false) (Rows.topSplitSpec.post enc Tryz.prog Tryz.f6 false true false false) := by
  refine returnsInHanded_of_change (C := Tryz.checked) own started (by kernel_rfl) Tryz.func6
    (ChangeSpec.witness6 (enc := enc) (C := Tryz.checked) false ⟨#[], #[.int .i64 0, .int .i64 0], []⟩ 8 (by kernel_rfl) (by kernel_rfl) (by kernel_rfl) (by kernel_rfl)) ?_
  intro W base args ds gs before hval0 hW hcnd _
  have hval : ∀ (j : Nat) t v, Tryz.f6.params[j]? = some t → args[j]? = some v → Value.okWide Tryz.prog W .any base t v := hval0
  have hW' := hW
  obtain ⟨p, q, hA0, hV, rfl, hfz, hnd⟩ := hW
  have hA : DataW.TrodAll enc Tryz.prog W 0 (fun _ => true) true Tryz.f6.params.toList args.toList ds p := hA0
  rw [Tryz.params6] at hA hval
  obtain ⟨v0, vs0, d0, ds0, p0, q0, hargs, rfl, rfl, h0, r0⟩ := trodAll_cons hA
  obtain ⟨v1, vs1, d1, ds1, p1, q1, rfl, rfl, rfl, h1, r1⟩ := trodAll_cons r0
  obtain ⟨rfl, rfl, rfl⟩ := trodAll_nil r1
  obtain rfl : args = #[v0, v1] := by cases args; simp_all
  obtain ⟨rfl, rfl⟩ := trodVars_none hV
  obtain ⟨a0, rfl, rfl, rfl, w0⟩ := open_int Tryz.underlying3 (hval 0 3 v0 rfl rfl) h0
  obtain ⟨a1, rfl, rfl, rfl, w1⟩ := open_int Tryz.underlying3 (hval 1 3 v1 rfl rfl) h1
  clear hA0 hval0
  simp only [List.append_nil] at hW'
  refine (walk a0 a1 w0 w1 W).mono fun e W' ⟨he, hg⟩ => ?_
  subst he
  exact ⟨_, rfl, Go.Ev.post_of_grown (pa := []) (pv := []) hW' (fun _ _ _ => (trodAll_cons_mk (shut_bool Tryz.underlying4 _) trodAll_mk0)) (fun sp _ => (trodAll_cons_mk (shut_int Tryz.underlying3 w0) (trodAll_cons_mk (shut_int Tryz.underlying3 w1) trodAll_mk0))) (fun _ _ => rfl) rfl
    (hg.frame _) hg.2.1 (ok_one (by kernel_rfl) rfl (okWide_bool_mk Tryz.underlying4 _))⟩

theorem over : Rows.topSplitRow.holds Tryz.pinned (OpenSpec.ofChange Rows.topSplitSpec) :=
  OpenClaim.holds_of_wide 6 Tryz.f6 rfl rfl rfl rfl rfl rfl rfl ⟨rfl, rfl, rfl, rfl, rfl⟩ rfl rfl rfl rfl rfl (by kernel_rfl) Tryz.func6 topSplitFacts.closed
    (of_decide_eq_true (by kernel_rfl)) (by unfold Func.isWrapper; first | (rw [if_pos (by decide +kernel)]; kernel_rfl) | (rw [if_neg (by decide +kernel)]; exact ⟨rfl, rfl⟩))
    (fun os started H enc _ => lifted os started H enc)

/-- ████ THE STATEMENT ████ -/
theorem proved : Rows.TopSplitSaid :=
  over
#print axioms proved
end Go.Proofs.YtejilihddphnbaaGreat.topSplit
