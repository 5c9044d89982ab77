/-
  Proved: the call of cachetlaw17.ReplicaAcks returns true at every input. No condition.
-/
import Derived.Test.YtnnjlnkoomeadaaReplicaAcksP7
import Derived.Test.YtnnjlnkoomeadaaRows
import Derived.WalkKit
import Derived.ProofKit
import Derived.OpenShut
import Derived.SizedLaws
namespace Go.Proofs.Ytnnjlnkoomeadaa.replicaAcks
open Go.ChangeShapes Go.WideShapes Go.ChangeAt Go.RowKit
set_option linter.unusedVariables false
theorem own : ownKnob Try.prog.godebug = none := by kernel_rfl
theorem aw : Pv.BoolC Try.prog Pv.n_law17_awake [] (fun _ => True) true := Go.Ev.ctr_of_says (by kernel_rfl) Ev.awake17
theorem lgsz {l : Go.Ev.Rp.Lg} (h : Pv.LgW l) : Pv.LgSz l := ⟨by have := h.ents; unfold reachBytes at this; omega, fun e he => by have := h.bat e he; unfold reachBytes at this; omega⟩
theorem lndlg {l : Go.Ev.Rp.Lg} (h : Pv.LgW l) : Pv.LndLg l := ⟨by have := h.ents; unfold reachBytes at this; omega, fun e he => by have := h.bat e he; unfold reachBytes at this; omega⟩
theorem lndsz {r : Go.Ev.Rp.Rep} (h : Pv.RepW r) : Pv.LndSz r := ⟨lndlg h.log, by have := h.acks; unfold reachBytes at this; omega, by have := h.starts; unfold reachBytes at this; omega, by have := h.dos; unfold reachBytes at this; omega, fun d hd => lndlg (h.dlog d hd)⟩
theorem tys : ∀ t ∈ Try.f6.params.toList, Try.prog.readableRec t = true ∧ t < Try.prog.types.size := by
  rw [Try.params6]
  intro t ht
  simp only [List.mem_cons, List.not_mem_nil, or_false] at ht
  rcases ht with rfl | rfl | rfl
  · exact ⟨by kernel_rfl, of_decide_eq_true (by kernel_rfl)⟩
  · exact ⟨by kernel_rfl, of_decide_eq_true (by kernel_rfl)⟩
  · exact ⟨by kernel_rfl, of_decide_eq_true (by kernel_rfl)⟩
set_option maxRecDepth 100000 in
theorem lifted (os : Os) (started : os.Started) (H : Type) (enc : TypeId × Value → H) :
    ReturnsInHanded {} Try.checked os 6 .any (Rows.replicaAcksSpec.pre6 enc Try.prog Try.f6 Rows.replicaAcksRow.domain false) (Rows.replicaAcksSpec.post enc Try.prog Try.f6 false true false false) := by
  refine returnsInHanded_of_change_sized (C := Try.checked) own started (by kernel_rfl) Try.func6
    (ChangeSpec.witness6 (enc := enc) (C := Try.checked) false ⟨#[], #[.bool false, .int .i64 0, .slice none 0 0], []⟩ 8 (by kernel_rfl) (by kernel_rfl) (by kernel_rfl) (by kernel_rfl)) ?_
  intro W base args ds gs before hval0 hW hcnd hsz _
  have hval : ∀ (j : Nat) t v, Try.f6.params[j]? = some t → args[j]? = some v → Value.okWide Try.prog W .any base t v := hval0
  have hW' := hW
  obtain ⟨p, q, hA0, hV, rfl, hfz, hnd⟩ := hW
  have hA : DataW.TrodAll enc Try.prog W 0 (fun _ => true) true Try.f6.params.toList args.toList ds p := hA0
  rw [Try.params6] at hA hval
  obtain ⟨v0, vs0, d0, ds0, p0, q0, hargs, rfl, rfl, h0, r0⟩ := trodAll_cons hA
  obtain ⟨v1, vs1, d1, ds1, p1, q1, rfl, rfl, rfl, h1, r1⟩ := trodAll_cons r0
  obtain ⟨v2, vs2, d2, ds2, p2, q2, rfl, rfl, rfl, h2, r2⟩ := trodAll_cons r1
  obtain ⟨rfl, rfl, rfl⟩ := trodAll_nil r2
  obtain rfl : args = #[v0, v1, v2] := by cases args; simp_all
  obtain ⟨rfl, rfl⟩ := trodVars_none hV
  obtain ⟨a0, rfl, rfl, rfl, w0⟩ := open_bool Try.underlying4 (hval 0 4 v0 rfl rfl) h0
  obtain ⟨a1, rfl, rfl, rfl, w1⟩ := open_int Try.underlying3 (hval 1 3 v1 rfl rfl) h1
  have hv2 := hval 2 25 v2 rfl rfl
  unfold Value.okWide at hv2
  rw [Try.underlying25] at hv2
  obtain ⟨bs2, len2, cap2, rfl⟩ : ∃ b l c, v2 = .slice b l c := by cases v2 <;> first | exact ⟨_, _, _, rfl⟩ | exact hv2.elim
  obtain ⟨fuel2, h2⟩ := h2
  have hwt2 : ∀ k ∈ d2.weights Try.prog 25, k ≤ reachBytes := fun k hk => by
    have := List.all_eq_true.1 hsz k (Go.Ev.weights_each (i := 2) (t := 25) (d := d2) rfl rfl k hk)
    simpa using this
  obtain ⟨n2, fz2, ρ2, c2, hi2, hX2, hvr2, hkn2, x2, l2, rfl, s2, w2⟩ := Pv.im_ints fuel2 _ _ _ h2 hwt2 0 _ _ (Go.Ev.Imp.nil W)
  have hcp := (Pv.law17_ReplicaAcks Pv.fs aw Ev.sortC a0 a1 x2 l2 (by have := w2; unfold reachBytes at this; omega)) fz2 [] n2 (fun v _ _ => v = .one (.bool true)) hi2.free s2 fun v mu' n' _ hv => hv
  refine (Go.Ev.calls_of_CP hcp hi2 (xs := [.bool a0, .int .i64 a1, .slice bs2 len2 cap2]) ⟨rfl, rfl, hvr2.1, trivial⟩).mono fun e W' ⟨he, hf⟩ => ⟨_, he, ?_⟩
  exact Go.Ev.post_law (by kernel_rfl) tys rfl rfl Try.underlying4 rfl rfl rfl hW' hf
theorem over : Rows.replicaAcksRow.holds Try.pinned (OpenSpec.ofChange Rows.replicaAcksSpec) :=
  OpenClaim.holds_of_wide 6 Try.f6 rfl rfl rfl rfl rfl rfl rfl ⟨rfl, rfl, rfl, rfl, rfl⟩ rfl rfl rfl rfl rfl (by kernel_rfl) Try.func6 (by kernel_rfl)
    (of_decide_eq_true (by kernel_rfl)) (by unfold Func.isWrapper; first | (rw [if_pos (by decide +kernel)]; kernel_rfl) | (rw [if_neg (by decide +kernel)]; exact ⟨rfl, rfl⟩))
    (fun os started H enc _ => lifted os started H enc)

/-- THE STATEMENT -/
theorem proved : Rows.ReplicaAcksSaid :=
  over
#print axioms proved
end Go.Proofs.Ytnnjlnkoomeadaa.replicaAcks
