/-
  Proved: the call of cachetlaw22.NodeOpens returns true at every input. No condition.
  The frame of the proof was written by the seat's proof-skeleton.mjs; the walk is filled in.
-/
import Derived.Test.YtejilihddphnbaaGreatRows
import Derived.Test.YtejilihddphnbaaGreatNodeOpensC1
import Derived.Test.YtejilihddphnbaaGreatNodeOpensC2
import Derived.Test.YtejilihddphnbaaGreatNodeOpensC3
import Derived.Test.YtejilihddphnbaaGreatNodeOpensC4
import Derived.Test.YtejilihddphnbaaGreatNodeOpensC5
import Derived.Test.YtejilihddphnbaaGreatNodeOpensC6
import Derived.Test.YtejilihddphnbaaGreatNodeOpensC7
import Derived.Test.YtejilihddphnbaaGreatNodeOpensC8
import Derived.Test.YtejilihddphnbaaGreatNodeOpensC9
import Derived.Test.YtejilihddphnbaaGreatNodeOpensC10
import Derived.Test.YtejilihddphnbaaGreatNodeOpensC11
import Derived.Test.YtejilihddphnbaaGreatNodeOpensC12
import Derived.Test.YtejilihddphnbaaGreatNodeOpensC13
import Derived.Test.YtejilihddphnbaaGreatNodeOpensC14
import Derived.Test.YtejilihddphnbaaGreatNodeOpensC15
import Derived.Test.YtejilihddphnbaaGreatNodeOpensC16
import Derived.Test.YtejilihddphnbaaGreatNodeOpensC17
import Derived.Test.YtejilihddphnbaaGreatNodeOpensC18
import Derived.Test.YtejilihddphnbaaGreatNodeOpensC19
import Derived.Test.YtejilihddphnbaaGreatNodeOpensC20
import Derived.Test.YtejilihddphnbaaGreatNodeOpensC21
import Derived.Test.YtejilihddphnbaaGreatNodeOpensC22
import Derived.Test.YtejilihddphnbaaGreatNodeOpensF
import Derived.WalkKit
import Derived.ProofKit
import Derived.OpenShut
namespace Go.Proofs.YtejilihddphnbaaGreat.nodeOpens
open Go.ChangeShapes Go.WideShapes Go.ChangeAt Go.RowKit
set_option linter.unusedVariables false

theorem own : ownKnob Tryz.prog.godebug = none := by kernel_rfl
open Go.Proofs.YtejilihddphnbaaGreat.Ev in
theorem hr : ∀ (b : Bool) (k : Nat), k ≤ 31 → Ev.runNodeOpens b [(k, k)] = true
| true, 0, _ => cNodeOpens0
| true, 1, _ => cNodeOpens1
| true, 2, _ => cNodeOpens2
| true, 3, _ => cNodeOpens3
| true, 4, _ => cNodeOpens4
| true, 5, _ => cNodeOpens5
| true, 6, _ => cNodeOpens6
| true, 7, _ => cNodeOpens7
| true, 8, _ => cNodeOpens8
| true, 9, _ => cNodeOpens9
| true, 10, _ => cNodeOpens10
| true, 11, _ => cNodeOpens11
| true, 12, _ => cNodeOpens12
| true, 13, _ => cNodeOpens13
| true, 14, _ => cNodeOpens14
| true, 15, _ => cNodeOpens15
| true, 16, _ => cNodeOpens16
| true, 17, _ => cNodeOpens17
| true, 18, _ => cNodeOpens18
| true, 19, _ => cNodeOpens19
| true, 20, _ => cNodeOpens20
| true, 21, _ => cNodeOpens21
| true, 22, _ => cNodeOpens22
| true, 23, _ => cNodeOpens23
| true, 24, _ => cNodeOpens24
| true, 25, _ => cNodeOpens25
| true, 26, _ => cNodeOpens26
| true, 27, _ => cNodeOpens27
| true, 28, _ => cNodeOpens28
| true, 29, _ => cNodeOpens29
| true, 30, _ => cNodeOpens30
| true, 31, _ => cNodeOpens31
| false, 0, _ => cNodeOpens32
| false, 1, _ => cNodeOpens33
| false, 2, _ => cNodeOpens34
| false, 3, _ => cNodeOpens35
| false, 4, _ => cNodeOpens36
| false, 5, _ => cNodeOpens37
| false, 6, _ => cNodeOpens38
| false, 7, _ => cNodeOpens39
| false, 8, _ => cNodeOpens40
| false, 9, _ => cNodeOpens41
| false, 10, _ => cNodeOpens42
| false, 11, _ => cNodeOpens43
| false, 12, _ => cNodeOpens44
| false, 13, _ => cNodeOpens45
| false, 14, _ => cNodeOpens46
| false, 15, _ => cNodeOpens47
| false, 16, _ => cNodeOpens48
| false, 17, _ => cNodeOpens49
| false, 18, _ => cNodeOpens50
| false, 19, _ => cNodeOpens51
| false, 20, _ => cNodeOpens52
| false, 21, _ => cNodeOpens53
| false, 22, _ => cNodeOpens54
| false, 23, _ => cNodeOpens55
| false, 24, _ => cNodeOpens56
| false, 25, _ => cNodeOpens57
| false, 26, _ => cNodeOpens58
| false, 27, _ => cNodeOpens59
| false, 28, _ => cNodeOpens60
| false, 29, _ => cNodeOpens61
| false, 30, _ => cNodeOpens62
| false, 31, _ => cNodeOpens63
| _, n + 32, h => absurd h (by omega)
theorem walk (a0 : Int) (a1 : Bool) (w0 : (Lit.int .i64 a0).wf = true) (w : World) :
    Calls Tryz.prog 3 #[.int .i64 a0, .bool a1] w fun e w' => e = .returned (.bool true) ∧ Go.Ev.GrownE w w' := by
  obtain ⟨k0, h0, e0⟩ := Go.Ev.mask_cases a0 31 (by decide)
  have hrun : ∃ pc, Go.Ev.PcOk (Go.Ev.mOf [k0]) pc ∧ Ev.runNodeOpens a1 pc = true := ⟨_, Go.Ev.pcCons (Nat.le_refl _) (Nat.le_refl _) Go.Ev.pcNil, hr a1 k0 h0⟩
  obtain ⟨pc, hpc, hr⟩ := hrun
  refine (Go.Ev.lawH (T := Go.Ev.TT (Go.Ev.mOf [k0])) Go.Ev.zz_not (val := Go.Ev.valOf (Go.Ev.rawOf [a0]) (Go.Ev.mOf [k0])) Go.Ev.isR_elim (Go.Ev.rngOrc2_ok (fun e he => ?_) (fun c hc => ?_)) Ev.mixed (Ev.k1OkN _ _) Ev.ftOk ⟨pc, hpc, hr⟩ w [.int .i64 a0, .bool a1] ⟨rfl, rfl, trivial⟩).mono fun e w1 ⟨g1, g2⟩ => ⟨g1, g2.grown⟩
  · simp only [List.mem_cons, List.not_mem_nil, or_false] at he
    subst he
    exact Go.Ev.ent_ok (i := 0) (j := 0) (by decide) (by decide) e0
  · cases hc
set_option maxRecDepth 100000 in
theorem lifted (os : Os) (started : os.Started) (H : Type) (enc : TypeId × Value → H) :
    ReturnsInHanded {} Tryz.checked os 3 .any (Rows.nodeOpensSpec.pre6 enc Tryz.prog Tryz.f3 Rows.nodeOpensRow.domain false) (Rows.nodeOpensSpec.post enc Tryz.prog Tryz.f3 false true false false) := by
  refine returnsInHanded_of_change (C := Tryz.checked) own started (by kernel_rfl) Tryz.func3
    (ChangeSpec.witness6 (enc := enc) (C := Tryz.checked) false ⟨#[], #[.int .i64 0, .bool false], []⟩ 8 (by kernel_rfl) (by kernel_rfl) (by kernel_rfl) (by kernel_rfl)) ?_
  intro W base args ds gs before hval0 hW hcnd _
  have hval : ∀ (j : Nat) t v, Tryz.f3.params[j]? = some t → args[j]? = some v → Value.okWide Tryz.prog W .any base t v := hval0
  have hW' := hW
  obtain ⟨p, q, hA0, hV, rfl, hfz, hnd⟩ := hW
  have hA : DataW.TrodAll enc Tryz.prog W 0 (fun _ => true) true Tryz.f3.params.toList args.toList ds p := hA0
  rw [Tryz.params3] at hA hval
  obtain ⟨v0, vs0, d0, ds0, p0, q0, hargs, rfl, rfl, h0, r0⟩ := trodAll_cons hA
  obtain ⟨v1, vs1, d1, ds1, p1, q1, rfl, rfl, rfl, h1, r1⟩ := trodAll_cons r0
  obtain ⟨rfl, rfl, rfl⟩ := trodAll_nil r1
  obtain rfl : args = #[v0, v1] := by cases args; simp_all
  obtain ⟨rfl, rfl⟩ := trodVars_none hV
  obtain ⟨a0, rfl, rfl, rfl, w0⟩ := open_int Tryz.underlying3 (hval 0 3 v0 rfl rfl) h0
  obtain ⟨a1, rfl, rfl, rfl⟩ := open_bool Tryz.underlying4 (hval 1 4 v1 rfl rfl) h1
  clear hA0 hval0
  simp only [List.append_nil] at hW'
  refine (walk a0 a1 w0 W).mono fun e W' ⟨he, hg⟩ => ?_
  subst he
  exact ⟨_, rfl, Go.Ev.post_of_grown (pa := []) (pv := []) hW' (fun _ _ _ => (trodAll_cons_mk (shut_bool Tryz.underlying4 _) trodAll_mk0)) (fun sp _ => (trodAll_cons_mk (shut_int Tryz.underlying3 w0) (trodAll_cons_mk (shut_bool Tryz.underlying4 _) trodAll_mk0))) (fun _ _ => rfl) rfl
    (hg.frame _) hg.2.1 (ok_one (by kernel_rfl) rfl (okWide_bool_mk Tryz.underlying4 _))⟩

theorem over : Rows.nodeOpensRow.holds Tryz.pinned (OpenSpec.ofChange Rows.nodeOpensSpec) :=
  OpenClaim.holds_of_wide 3 Tryz.f3 rfl rfl rfl rfl rfl rfl rfl ⟨rfl, rfl, rfl, rfl, rfl⟩ rfl rfl rfl rfl rfl (by kernel_rfl) Tryz.func3 nodeOpensFacts.closed
    (of_decide_eq_true (by kernel_rfl)) (by unfold Func.isWrapper; first | (rw [if_pos (by decide +kernel)]; kernel_rfl) | (rw [if_neg (by decide +kernel)]; exact ⟨rfl, rfl⟩))
    (fun os started H enc _ => lifted os started H enc)

/-- ████ THE STATEMENT ████ -/
theorem proved : Rows.NodeOpensSaid :=
  over
#print axioms proved
end Go.Proofs.YtejilihddphnbaaGreat.nodeOpens
