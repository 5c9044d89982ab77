/-
  Proved: the call of cachetlaw17.ReplicaForms returns true at every input. No condition.
-/
import Derived.Test.YtnnjlnkoomeadaaReplicaFormsP7
import Derived.Test.YtnnjlnkoomeadaaRows
import Derived.WalkKit
import Derived.ProofKit
import Derived.OpenShut
import Derived.SizedLaws
namespace Go.Proofs.Ytnnjlnkoomeadaa.replicaForms
open Go.ChangeShapes Go.WideShapes Go.ChangeAt Go.RowKit
set_option linter.unusedVariables false
theorem own : ownKnob Try.prog.godebug = none := by kernel_rfl
theorem aw : Pv.BoolC Try.prog Pv.n_law17_awake [] (fun _ => True) true := Go.Ev.ctr_of_says (by kernel_rfl) Ev.awake17
theorem lgsz {l : Go.Ev.Rp.Lg} (h : Pv.LgW l) : Pv.LgSz l := ⟨by have := h.ents; unfold reachBytes at this; omega, fun e he => by have := h.bat e he; unfold reachBytes at this; omega⟩
theorem lndlg {l : Go.Ev.Rp.Lg} (h : Pv.LgW l) : Pv.LndLg l := ⟨by have := h.ents; unfold reachBytes at this; omega, fun e he => by have := h.bat e he; unfold reachBytes at this; omega⟩
theorem lndsz {r : Go.Ev.Rp.Rep} (h : Pv.RepW r) : Pv.LndSz r := ⟨lndlg h.log, by have := h.acks; unfold reachBytes at this; omega, by have := h.starts; unfold reachBytes at this; omega, by have := h.dos; unfold reachBytes at this; omega, fun d hd => lndlg (h.dlog d hd)⟩
theorem tys : ∀ t ∈ Try.f5.params.toList, Try.prog.readableRec t = true ∧ t < Try.prog.types.size := by
  rw [Try.params5]
  intro t ht
  simp only [List.mem_cons, List.not_mem_nil, or_false] at ht
  rcases ht with rfl | rfl | rfl | rfl | rfl
  · exact ⟨by kernel_rfl, of_decide_eq_true (by kernel_rfl)⟩
  · exact ⟨by kernel_rfl, of_decide_eq_true (by kernel_rfl)⟩
  · exact ⟨by kernel_rfl, of_decide_eq_true (by kernel_rfl)⟩
  · exact ⟨by kernel_rfl, of_decide_eq_true (by kernel_rfl)⟩
  · exact ⟨by kernel_rfl, of_decide_eq_true (by kernel_rfl)⟩
set_option maxRecDepth 100000 in
theorem lifted (os : Os) (started : os.Started) (H : Type) (enc : TypeId × Value → H) :
    ReturnsInHanded {} Try.checked os 5 .any (Rows.replicaFormsSpec.pre6 enc Try.prog Try.f5 Rows.replicaFormsRow.domain false) (Rows.replicaFormsSpec.post enc Try.prog Try.f5 false true false false) := by
  refine returnsInHanded_of_change_sized (C := Try.checked) own started (by kernel_rfl) Try.func5
    (ChangeSpec.witness6 (enc := enc) (C := Try.checked) false ⟨#[], #[.int .i64 0, .int .i64 0, .agg #[.int .i64 0, .int .i64 0, .int .i64 0, .int .i64 0, .int .i64 0, .int .i64 0, .bool false, .int .i64 0, .string ⟨#[]⟩, .slice none 0 0, .slice none 0 0, .slice none 0 0, .slice none 0 0], .slice none 0 0, .int .i64 0], []⟩ 8 (by kernel_rfl) (by kernel_rfl) (by kernel_rfl) (by kernel_rfl)) ?_
  intro W base args ds gs before hval0 hW hcnd hsz _
  have hval : ∀ (j : Nat) t v, Try.f5.params[j]? = some t → args[j]? = some v → Value.okWide Try.prog W .any base t v := hval0
  have hW' := hW
  obtain ⟨p, q, hA0, hV, rfl, hfz, hnd⟩ := hW
  have hA : DataW.TrodAll enc Try.prog W 0 (fun _ => true) true Try.f5.params.toList args.toList ds p := hA0
  rw [Try.params5] at hA hval
  obtain ⟨v0, vs0, d0, ds0, p0, q0, hargs, rfl, rfl, h0, r0⟩ := trodAll_cons hA
  obtain ⟨v1, vs1, d1, ds1, p1, q1, rfl, rfl, rfl, h1, r1⟩ := trodAll_cons r0
  obtain ⟨v2, vs2, d2, ds2, p2, q2, rfl, rfl, rfl, h2, r2⟩ := trodAll_cons r1
  obtain ⟨v3, vs3, d3, ds3, p3, q3, rfl, rfl, rfl, h3, r3⟩ := trodAll_cons r2
  obtain ⟨v4, vs4, d4, ds4, p4, q4, rfl, rfl, rfl, h4, r4⟩ := trodAll_cons r3
  obtain ⟨rfl, rfl, rfl⟩ := trodAll_nil r4
  obtain rfl : args = #[v0, v1, v2, v3, v4] := by cases args; simp_all
  obtain ⟨rfl, rfl⟩ := trodVars_none hV
  obtain ⟨a0, rfl, rfl, rfl, w0⟩ := open_int Try.underlying3 (hval 0 3 v0 rfl rfl) h0
  obtain ⟨a1, rfl, rfl, rfl, w1⟩ := open_int Try.underlying3 (hval 1 3 v1 rfl rfl) h1
  obtain ⟨a4, rfl, rfl, rfl, w4⟩ := open_int Try.underlying3 (hval 4 3 v4 rfl rfl) h4
  have hv2 := hval 2 28 v2 rfl rfl
  unfold Value.okWide at hv2
  rw [Try.underlying28] at hv2
  obtain ⟨cs2, rfl, _, _⟩ := hv2
  obtain ⟨fuel2, h2⟩ := h2
  have hwt2 : ∀ k ∈ d2.weights Try.prog 28, k ≤ reachBytes := fun k hk => by
    have := List.all_eq_true.1 hsz k (Go.Ev.weights_each (i := 2) (t := 28) (d := d2) rfl rfl k hk)
    simpa using this
  obtain ⟨n2, fz2, ρ2, c2, hi2, hX2, hvr2, hkn2, xe2, xa2, xs2, xd2, y2, rfl, s2, w2⟩ := Pv.im_rep fuel2 _ _ _ h2 hwt2 0 _ _ (Go.Ev.Imp.nil W)
  have hv3 := hval 3 25 v3 rfl rfl
  unfold Value.okWide at hv3
  rw [Try.underlying25] at hv3
  obtain ⟨bs3, len3, cap3, rfl⟩ : ∃ b l c, v3 = .slice b l c := by cases v3 <;> first | exact ⟨_, _, _, rfl⟩ | exact hv3.elim
  obtain ⟨fuel3, h3⟩ := h3
  have hwt3 : ∀ k ∈ d3.weights Try.prog 25, k ≤ reachBytes := fun k hk => by
    have := List.all_eq_true.1 hsz k (Go.Ev.weights_each (i := 3) (t := 25) (d := d3) rfl rfl k hk)
    simpa using this
  obtain ⟨n3, fz3, ρ3, c3, hi3, hX3, hvr3, hkn3, x3, l3, rfl, s3, w3⟩ := Pv.im_ints fuel3 _ _ _ h3 hwt3 _ _ _ hi2
  replace hvr2 := hX3.vrs hvr2
  replace s2 := Pv.RepS.mono hX3.fz s2
  have hcp := (Pv.law17_ReplicaForms Pv.fs aw Ev.sortC a0 a1 y2 xe2 xa2 xs2 xd2 l3 x3 a4 (lndsz w2) (by have := w3; unfold reachBytes at this; omega)) fz3 [] n3 (fun v _ _ => v = .one (.bool true)) hi3.free ⟨s2, s3⟩ fun v mu' n' _ hv => hv
  refine (Go.Ev.calls_of_CP hcp hi3 (xs := [.int .i64 a0, .int .i64 a1, .agg cs2, .slice bs3 len3 cap3, .int .i64 a4]) ⟨rfl, rfl, ⟨cs2.toList, rfl, hvr2⟩, hvr3.1, rfl, trivial⟩).mono fun e W' ⟨he, hf⟩ => ⟨_, he, ?_⟩
  exact Go.Ev.post_law (by kernel_rfl) tys rfl rfl Try.underlying4 rfl rfl rfl hW' hf
theorem over : Rows.replicaFormsRow.holds Try.pinned (OpenSpec.ofChange Rows.replicaFormsSpec) :=
  OpenClaim.holds_of_wide 5 Try.f5 rfl rfl rfl rfl rfl rfl rfl ⟨rfl, rfl, rfl, rfl, rfl⟩ rfl rfl rfl rfl rfl (by kernel_rfl) Try.func5 (by kernel_rfl)
    (of_decide_eq_true (by kernel_rfl)) (by unfold Func.isWrapper; first | (rw [if_pos (by decide +kernel)]; kernel_rfl) | (rw [if_neg (by decide +kernel)]; exact ⟨rfl, rfl⟩))
    (fun os started H enc _ => lifted os started H enc)

/-- THE STATEMENT -/
theorem proved : Rows.ReplicaFormsSaid :=
  over
#print axioms proved
end Go.Proofs.Ytnnjlnkoomeadaa.replicaForms
