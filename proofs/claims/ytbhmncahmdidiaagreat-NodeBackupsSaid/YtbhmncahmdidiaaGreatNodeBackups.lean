/-
  Proved: the call of cachetlaw22.NodeBackups returns true at every input. No condition.
  The frame of the proof was written by the seat's proof-skeleton.mjs; the walk is filled in.
-/
import Derived.Test.YtbhmncahmdidiaaGreatRows
import Derived.Test.YtbhmncahmdidiaaGreatNodeBackupsC1
import Derived.Test.YtbhmncahmdidiaaGreatNodeBackupsC2
import Derived.Test.YtbhmncahmdidiaaGreatNodeBackupsC3
import Derived.Test.YtbhmncahmdidiaaGreatNodeBackupsC4
import Derived.Test.YtbhmncahmdidiaaGreatNodeBackupsF
import Derived.WalkKit
import Derived.ProofKit
import Derived.OpenShut
namespace Go.Proofs.YtbhmncahmdidiaaGreat.nodeBackups
open Go.ChangeShapes Go.WideShapes Go.ChangeAt Go.RowKit
set_option linter.unusedVariables false

theorem own : ownKnob Tryz.prog.godebug = none := by kernel_rfl

/-! ### STEP 1: THE WALK -/
theorem walk (a0 : Int) (a1 : Bool) (a2 : Bool) (a3 : Int) (w0 : (Lit.int .i64 a0).wf = true) (w3 : (Lit.int .i64 a3).wf = true) (w : World) :
    Calls Tryz.prog 6 #[.int .i64 a0, .bool a1, .bool a2, .int .i64 a3] w fun e w' => e = .returned (.bool true) ∧ Go.Ev.GrownE w w' := by
  obtain ⟨k0, h0, e0⟩ := Go.Ev.rem_cases a0 4 (by decide)
  obtain ⟨k1, h1, e1⟩ := Go.Ev.rem_cases a0 2 (by decide)
  obtain ⟨k2, h2, e2⟩ := Go.Ev.mask_cases a3 255 (by decide)
  have hrun : ∃ pc, Go.Ev.PcOk (Go.Ev.mOf [k0, k1, k2]) pc ∧ Ev.runNodeBackups a1 a2 pc = true := by
    cases a1 with
    | true =>
      cases a2 with
      | true =>
        exact ⟨_, (Go.Ev.pcCons (by omega) (by omega) (Go.Ev.pcCons (by omega) (by omega) (Go.Ev.pcCons (by omega) (by omega) Go.Ev.pcNil))), Ev.cNodeBackups0⟩
      | false =>
        exact ⟨_, (Go.Ev.pcCons (by omega) (by omega) (Go.Ev.pcCons (by omega) (by omega) (Go.Ev.pcCons (by omega) (by omega) Go.Ev.pcNil))), Ev.cNodeBackups1⟩
    | false =>
      cases a2 with
      | true =>
        exact ⟨_, (Go.Ev.pcCons (by omega) (by omega) (Go.Ev.pcCons (by omega) (by omega) (Go.Ev.pcCons (by omega) (by omega) Go.Ev.pcNil))), Ev.cNodeBackups2⟩
      | false =>
        exact ⟨_, (Go.Ev.pcCons (by omega) (by omega) (Go.Ev.pcCons (by omega) (by omega) (Go.Ev.pcCons (by omega) (by omega) Go.Ev.pcNil))), Ev.cNodeBackups3⟩
  obtain ⟨pc, hpc, hr⟩ := hrun
  refine (Go.Ev.lawH (T := Go.Ev.TT (Go.Ev.mOf [k0, k1, k2])) Go.Ev.zz_not (val := Go.Ev.valOf (Go.Ev.rawOf [a0, 0, 0, a3, 0, 0, 0, 0, IntKind.u64.wrap a0]) (Go.Ev.mOf [k0, k1, k2])) Go.Ev.isR_elim (Go.Ev.rngOrc2_ok (fun e he => ?_) (fun c hc => ?_)) Ev.mixed (Ev.k1Ok _ _) Ev.ftOk ⟨pc, hpc, hr⟩ w [.int .i64 a0, .bool a1, .bool a2, .int .i64 a3] ⟨rfl, rfl, rfl, rfl, trivial⟩).mono fun e w1 ⟨g1, g2⟩ => ⟨g1, g2.grown⟩
  · simp only [List.mem_cons, List.not_mem_nil, or_false] at he
    rcases he with rfl | rfl | rfl
    · exact Go.Ev.ent_ok (i := 8) (j := 0) (by decide) (by decide) e0
    · exact Go.Ev.ent_ok (i := 8) (j := 1) (by decide) (by decide) e1
    · exact Go.Ev.ent_ok (i := 3) (j := 2) (by decide) (by decide) e2
  · simp only [List.mem_cons, List.not_mem_nil, or_false] at hc
    subst hc
    exact .inr ⟨.u64, 8, rfl, rfl⟩

/-! ### THE ROW's STEP: WRITTEN OUT: LEAVE IT -/
set_option maxRecDepth 100000 in
theorem lifted (os : Os) (started : os.Started) (H : Type) (enc : TypeId × Value → H) :
    ReturnsInHanded {} Tryz.checked os 6 .any (Rows.nodeBackupsSpec.pre6 enc Tryz.prog Tryz.f6 Rows.nodeBackupsRow.domain false) (Rows.nodeBackupsSpec.post enc Tryz.prog Tryz.f6 false true false false) := by
  refine returnsInHanded_of_change (C := Tryz.checked) own started (by kernel_rfl) Tryz.func6
    (ChangeSpec.witness6 (enc := enc) (C := Tryz.checked) false ⟨#[], #[.int .i64 0, .bool false, .bool false, .int .i64 0], []⟩ 8 (by kernel_rfl) (by kernel_rfl) (by kernel_rfl) (by kernel_rfl)) ?_
  intro W base args ds gs before hval0 hW hcnd _
  have hval : ∀ (j : Nat) t v, Tryz.f6.params[j]? = some t → args[j]? = some v → Value.okWide Tryz.prog W .any base t v := hval0
  have hW' := hW
  obtain ⟨p, q, hA0, hV, rfl, hfz, hnd⟩ := hW
  have hA : DataW.TrodAll enc Tryz.prog W 0 (fun _ => true) true Tryz.f6.params.toList args.toList ds p := hA0
  rw [Tryz.params6] at hA hval
  obtain ⟨v0, vs0, d0, ds0, p0, q0, hargs, rfl, rfl, h0, r0⟩ := trodAll_cons hA
  obtain ⟨v1, vs1, d1, ds1, p1, q1, rfl, rfl, rfl, h1, r1⟩ := trodAll_cons r0
  obtain ⟨v2, vs2, d2, ds2, p2, q2, rfl, rfl, rfl, h2, r2⟩ := trodAll_cons r1
  obtain ⟨v3, vs3, d3, ds3, p3, q3, rfl, rfl, rfl, h3, r3⟩ := trodAll_cons r2
  obtain ⟨rfl, rfl, rfl⟩ := trodAll_nil r3
  obtain rfl : args = #[v0, v1, v2, v3] := by cases args; simp_all
  obtain ⟨rfl, rfl⟩ := trodVars_none hV
  obtain ⟨a0, rfl, rfl, rfl, w0⟩ := open_int Tryz.underlying3 (hval 0 3 v0 rfl rfl) h0
  obtain ⟨a1, rfl, rfl, rfl⟩ := open_bool Tryz.underlying4 (hval 1 4 v1 rfl rfl) h1
  obtain ⟨a2, rfl, rfl, rfl⟩ := open_bool Tryz.underlying4 (hval 2 4 v2 rfl rfl) h2
  obtain ⟨a3, rfl, rfl, rfl, w3⟩ := open_int Tryz.underlying3 (hval 3 3 v3 rfl rfl) h3
  clear hA0 hval0
  simp only [List.append_nil] at hW'
  refine (walk a0 a1 a2 a3 w0 w3 W).mono fun e W' ⟨he, hg⟩ => ?_
  subst he
  exact ⟨_, rfl, Go.Ev.post_of_grown (pa := []) (pv := []) hW' (fun _ _ _ => (trodAll_cons_mk (shut_bool Tryz.underlying4 _) trodAll_mk0)) (fun sp _ => (trodAll_cons_mk (shut_int Tryz.underlying3 w0) (trodAll_cons_mk (shut_bool Tryz.underlying4 _) (trodAll_cons_mk (shut_bool Tryz.underlying4 _) (trodAll_cons_mk (shut_int Tryz.underlying3 w3) trodAll_mk0))))) (fun _ _ => rfl) rfl
    (hg.frame _) hg.2.1 (ok_one (by kernel_rfl) rfl (okWide_bool_mk Tryz.underlying4 _))⟩

theorem over : Rows.nodeBackupsRow.holds Tryz.pinned (OpenSpec.ofChange Rows.nodeBackupsSpec) :=
  OpenClaim.holds_of_wide 6 Tryz.f6 rfl rfl rfl rfl rfl rfl rfl ⟨rfl, rfl, rfl, rfl, rfl⟩ rfl rfl rfl rfl rfl (by kernel_rfl) Tryz.func6 nodeBackupsFacts.closed
    (of_decide_eq_true (by kernel_rfl)) (by unfold Func.isWrapper; first | (rw [if_pos (by decide +kernel)]; kernel_rfl) | (rw [if_neg (by decide +kernel)]; exact ⟨rfl, rfl⟩))
    (fun os started H enc _ => lifted os started H enc)

/-- ████ THE STATEMENT ████ -/
theorem proved : Rows.NodeBackupsSaid :=
  over
#print axioms proved
end Go.Proofs.YtbhmncahmdidiaaGreat.nodeBackups
