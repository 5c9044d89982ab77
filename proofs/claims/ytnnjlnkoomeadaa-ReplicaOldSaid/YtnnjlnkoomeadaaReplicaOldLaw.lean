/-
  Proved: the call of cachetlaw17.ReplicaOld returns true at every input. No condition.
-/
import Derived.Test.YtnnjlnkoomeadaaReplicaOldP6
import Derived.Test.YtnnjlnkoomeadaaRows
import Derived.WalkKit
import Derived.ProofKit
import Derived.OpenShut
import Derived.SizedLaws
namespace Go.Proofs.Ytnnjlnkoomeadaa.replicaOld
open Go.ChangeShapes Go.WideShapes Go.ChangeAt Go.RowKit
set_option linter.unusedVariables false
theorem own : ownKnob Try.prog.godebug = none := by kernel_rfl
theorem aw : Pv.BoolC Try.prog Pv.n_law17_awake [] (fun _ => True) true := Go.Ev.ctr_of_says (by kernel_rfl) Ev.awake17
theorem tys : ∀ t ∈ Try.f7.params.toList, Try.prog.readableRec t = true ∧ t < Try.prog.types.size := by
  rw [Try.params7]
  intro t ht
  simp only [List.mem_cons, List.not_mem_nil, or_false] at ht
  rcases ht with rfl | rfl | rfl
  · exact ⟨by kernel_rfl, of_decide_eq_true (by kernel_rfl)⟩
  · exact ⟨by kernel_rfl, of_decide_eq_true (by kernel_rfl)⟩
  · exact ⟨by kernel_rfl, of_decide_eq_true (by kernel_rfl)⟩
set_option maxRecDepth 100000 in
theorem lifted (os : Os) (started : os.Started) (H : Type) (enc : TypeId × Value → H) :
    ReturnsInHanded {} Try.checked os 7 .any (Rows.replicaOldSpec.pre6 enc Try.prog Try.f7 Rows.replicaOldRow.domain false) (Rows.replicaOldSpec.post enc Try.prog Try.f7 false true false false) := by
  refine returnsInHanded_of_change_sized (C := Try.checked) own started (by kernel_rfl) Try.func7
    (ChangeSpec.witness6 (enc := enc) (C := Try.checked) false ⟨#[], #[.int .i64 0, .int .i64 0, .agg #[.int .i64 0, .int .i64 0, .int .i64 0, .int .i64 0, .int .i64 0, .int .i64 0, .int .i64 0, .int .i64 0, .int .i64 0, .int .i64 0, .int .i64 0, .int .i64 0, .int .i64 0, .int .i64 0, .string ⟨#[]⟩, .slice none 0 0, .int .i64 0, .string ⟨#[]⟩, .slice none 0 0, .string ⟨#[]⟩]], []⟩ 8 (by kernel_rfl) (by kernel_rfl) (by kernel_rfl) (by kernel_rfl)) ?_
  intro W base args ds gs before hval0 hW hcnd hsz _
  have hval : ∀ (j : Nat) t v, Try.f7.params[j]? = some t → args[j]? = some v → Value.okWide Try.prog W .any base t v := hval0
  have hW' := hW
  obtain ⟨p, q, hA0, hV, rfl, hfz, hnd⟩ := hW
  have hA : DataW.TrodAll enc Try.prog W 0 (fun _ => true) true Try.f7.params.toList args.toList ds p := hA0
  rw [Try.params7] at hA hval
  obtain ⟨v0, vs0, d0, ds0, p0, q0, hargs, rfl, rfl, h0, r0⟩ := trodAll_cons hA
  obtain ⟨v1, vs1, d1, ds1, p1, q1, rfl, rfl, rfl, h1, r1⟩ := trodAll_cons r0
  obtain ⟨v2, vs2, d2, ds2, p2, q2, rfl, rfl, rfl, h2, r2⟩ := trodAll_cons r1
  obtain ⟨rfl, rfl, rfl⟩ := trodAll_nil r2
  obtain rfl : args = #[v0, v1, v2] := by cases args; simp_all
  obtain ⟨rfl, rfl⟩ := trodVars_none hV
  obtain ⟨a0, rfl, rfl, rfl, w0⟩ := open_int Try.underlying3 (hval 0 3 v0 rfl rfl) h0
  obtain ⟨a1, rfl, rfl, rfl, w1⟩ := open_int Try.underlying3 (hval 1 3 v1 rfl rfl) h1
  have hv2 := hval 2 31 v2 rfl rfl
  unfold Value.okWide at hv2
  rw [Try.underlying31] at hv2
  obtain ⟨cs, rfl, _, _⟩ := hv2
  obtain ⟨fuel, h2⟩ := h2
  have hwt : ∀ k ∈ d2.weights Try.prog 31, k ≤ reachBytes := fun k hk => by
    have := List.all_eq_true.1 hsz k (Go.Ev.weights_each (i := 2) (t := 31) (d := d2) rfl rfl k hk)
    simpa using this
  obtain ⟨n, fz, ρ, c, hi, _, hvr, hkn, xb, xe, m, rfl, hms, hmw⟩ := Pv.im_msg fuel _ _ _ h2 hwt 0 _ _ (Go.Ev.Imp.nil W)
  have hcp := Pv.law17_ReplicaOld Pv.fs aw a0 a1 m xb xe fz [] n (fun v _ _ => v = .one (.bool true)) hi.free hms fun v mu' n' _ hv => hv
  refine (Go.Ev.calls_of_CP hcp hi (xs := [.int .i64 a0, .int .i64 a1, .agg cs]) ⟨rfl, rfl, ⟨cs.toList, rfl, hvr⟩, trivial⟩).mono fun e W' ⟨he, hf⟩ => ⟨_, he, ?_⟩
  exact Go.Ev.post_law (by kernel_rfl) tys rfl rfl Try.underlying4 rfl rfl rfl hW' hf
theorem over : Rows.replicaOldRow.holds Try.pinned (OpenSpec.ofChange Rows.replicaOldSpec) :=
  OpenClaim.holds_of_wide 7 Try.f7 rfl rfl rfl rfl rfl rfl rfl ⟨rfl, rfl, rfl, rfl, rfl⟩ rfl rfl rfl rfl rfl (by kernel_rfl) Try.func7 (by kernel_rfl)
    (of_decide_eq_true (by kernel_rfl)) (by unfold Func.isWrapper; first | (rw [if_pos (by decide +kernel)]; kernel_rfl) | (rw [if_neg (by decide +kernel)]; exact ⟨rfl, rfl⟩))
    (fun os started H enc _ => lifted os started H enc)

/-- THE STATEMENT -/
theorem proved : Rows.ReplicaOldSaid :=
  over
#print axioms proved
end Go.Proofs.Ytnnjlnkoomeadaa.replicaOld
