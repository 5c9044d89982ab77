/-
  Proved: the call of cachetlaw18.QuorumGets returns true at every input. No condition.
-/
import Derived.Test.YtnnjlnkoomeadaaQuorumGetsP8
import Derived.Test.YtnnjlnkoomeadaaRows
import Derived.WalkKit
import Derived.ProofKit
import Derived.OpenShut
import Derived.SizedLaws
namespace Go.Proofs.Ytnnjlnkoomeadaa.quorumGets
open Go.ChangeShapes Go.WideShapes Go.ChangeAt Go.RowKit
set_option linter.unusedVariables false
theorem own : ownKnob Try.prog.godebug = none := by kernel_rfl
theorem aw : Pv.BoolC Try.prog Pv.n_law18_awake [] (fun _ => True) true := Pv.law18_awake Pv.fs Ev.insC
theorem lgsz {l : Go.Ev.Rp.Lg} (h : Pv.LgW l) : Pv.LgSz l := ⟨by have := h.ents; unfold reachBytes at this; omega, fun e he => by have := h.bat e he; unfold reachBytes at this; omega⟩
theorem lndlg {l : Go.Ev.Rp.Lg} (h : Pv.LgW l) : Pv.LndLg l := ⟨by have := h.ents; unfold reachBytes at this; omega, fun e he => by have := h.bat e he; unfold reachBytes at this; omega⟩
theorem lndsz {r : Go.Ev.Rp.Rep} (h : Pv.RepW r) : Pv.LndSz r := ⟨lndlg h.log, by have := h.acks; unfold reachBytes at this; omega, by have := h.starts; unfold reachBytes at this; omega, by have := h.dos; unfold reachBytes at this; omega, fun d hd => lndlg (h.dlog d hd)⟩
theorem tys : ∀ t ∈ Try.f3.params.toList, Try.prog.readableRec t = true ∧ t < Try.prog.types.size := by
  rw [Try.params3]
  intro t ht
  simp only [List.mem_cons, List.not_mem_nil, or_false] at ht
  rcases ht with rfl | rfl | rfl
  · exact ⟨by kernel_rfl, of_decide_eq_true (by kernel_rfl)⟩
  · exact ⟨by kernel_rfl, of_decide_eq_true (by kernel_rfl)⟩
  · exact ⟨by kernel_rfl, of_decide_eq_true (by kernel_rfl)⟩
set_option maxRecDepth 100000 in
theorem lifted (os : Os) (started : os.Started) (H : Type) (enc : TypeId × Value → H) :
    ReturnsInHanded {} Try.checked os 3 .any (Rows.quorumGetsSpec.pre6 enc Try.prog Try.f3 Rows.quorumGetsRow.domain false) (Rows.quorumGetsSpec.post enc Try.prog Try.f3 false true false false) := by
  refine returnsInHanded_of_change_sized (C := Try.checked) own started (by kernel_rfl) Try.func3
    (ChangeSpec.witness6 (enc := enc) (C := Try.checked) false ⟨#[], #[.agg #[.int .i64 0, .int .i64 0, .int .i64 0, .int .i64 0, .int .i64 0, .int .i64 0, .bool false, .int .i64 0, .string ⟨#[]⟩, .slice none 0 0, .slice none 0 0, .slice none 0 0, .slice none 0 0], .agg #[.int .i64 0, .int .i64 0, .int .i64 0, .slice none 0 0, .int .i64 0, .int .i64 0, .int .i64 0, .int .i64 0, .int .i64 0, .int .i64 0, .int .i64 0, .int .i64 0, .int .i64 0, .int .i64 0, .int .i64 0, .int .i64 0, .int .i64 0, .int .i64 0, .string ⟨#[]⟩, .slice none 0 0, .int .i64 0, .string ⟨#[]⟩, .slice none 0 0, .string ⟨#[]⟩], .agg #[.int .i64 0, .int .i64 0, .int .i64 0, .int .i64 0, .int .i64 0, .int .i64 0, .int .i64 0, .int .i64 0, .int .i64 0, .int .i64 0, .int .i64 0, .int .i64 0, .int .i64 0, .int .i64 0, .string ⟨#[]⟩, .slice none 0 0, .int .i64 0, .string ⟨#[]⟩, .slice none 0 0, .string ⟨#[]⟩]], []⟩ 8 (by kernel_rfl) (by kernel_rfl) (by kernel_rfl) (by kernel_rfl)) ?_
  intro W base args ds gs before hval0 hW hcnd hsz _
  have hval : ∀ (j : Nat) t v, Try.f3.params[j]? = some t → args[j]? = some v → Value.okWide Try.prog W .any base t v := hval0
  have hW' := hW
  obtain ⟨p, q, hA0, hV, rfl, hfz, hnd⟩ := hW
  have hA : DataW.TrodAll enc Try.prog W 0 (fun _ => true) true Try.f3.params.toList args.toList ds p := hA0
  rw [Try.params3] at hA hval
  obtain ⟨v0, vs0, d0, ds0, p0, q0, hargs, rfl, rfl, h0, r0⟩ := trodAll_cons hA
  obtain ⟨v1, vs1, d1, ds1, p1, q1, rfl, rfl, rfl, h1, r1⟩ := trodAll_cons r0
  obtain ⟨v2, vs2, d2, ds2, p2, q2, rfl, rfl, rfl, h2, r2⟩ := trodAll_cons r1
  obtain ⟨rfl, rfl, rfl⟩ := trodAll_nil r2
  obtain rfl : args = #[v0, v1, v2] := by cases args; simp_all
  obtain ⟨rfl, rfl⟩ := trodVars_none hV
  have hv0 := hval 0 28 v0 rfl rfl
  unfold Value.okWide at hv0
  rw [Try.underlying28] at hv0
  obtain ⟨cs0, rfl, _, _⟩ := hv0
  obtain ⟨fuel0, h0⟩ := h0
  have hwt0 : ∀ k ∈ d0.weights Try.prog 28, k ≤ reachBytes := fun k hk => by
    have := List.all_eq_true.1 hsz k (Go.Ev.weights_each (i := 0) (t := 28) (d := d0) rfl rfl k hk)
    simpa using this
  obtain ⟨n0, fz0, ρ0, c0, hi0, hX0, hvr0, hkn0, xe0, xa0, xs0, xd0, y0, rfl, s0, w0⟩ := Pv.im_rep fuel0 _ _ _ h0 hwt0 0 _ _ (Go.Ev.Imp.nil W)
  have hv1 := hval 1 33 v1 rfl rfl
  unfold Value.okWide at hv1
  rw [Try.underlying33] at hv1
  obtain ⟨cs1, rfl, _, _⟩ := hv1
  obtain ⟨fuel1, h1⟩ := h1
  have hwt1 : ∀ k ∈ d1.weights Try.prog 33, k ≤ reachBytes := fun k hk => by
    have := List.all_eq_true.1 hsz k (Go.Ev.weights_each (i := 1) (t := 33) (d := d1) rfl rfl k hk)
    simpa using this
  obtain ⟨n1, fz1, ρ1, c1, hi1, hX1, hvr1, hkn1, xa1, xb1, xm1, y1, rfl, sa1, sb1, w1⟩ := Pv.im_rd fuel1 _ _ _ h1 hwt1 _ _ _ hi0
  have s1 := And.intro sa1 sb1
  replace hvr0 := hX1.vrs hvr0
  replace s0 := Pv.RepS.mono hX1.fz s0
  have hv2 := hval 2 31 v2 rfl rfl
  unfold Value.okWide at hv2
  rw [Try.underlying31] at hv2
  obtain ⟨cs2, rfl, _, _⟩ := hv2
  obtain ⟨fuel2, h2⟩ := h2
  have hwt2 : ∀ k ∈ d2.weights Try.prog 31, k ≤ reachBytes := fun k hk => by
    have := List.all_eq_true.1 hsz k (Go.Ev.weights_each (i := 2) (t := 31) (d := d2) rfl rfl k hk)
    simpa using this
  obtain ⟨n2, fz2, ρ2, c2, hi2, hX2, hvr2, hkn2, xb2, xe2, y2, rfl, s2, w2⟩ := Pv.im_msg fuel2 _ _ _ h2 hwt2 _ _ _ hi1
  replace hvr0 := hX2.vrs hvr0
  replace s0 := Pv.RepS.mono hX2.fz s0
  replace hvr1 := hX2.vrs hvr1
  replace s1 := And.intro (Go.Ev.Rp.IntsR.mono hX2.fz s1.1) (Pv.MsgS.mono hX2.fz s1.2)
  have hcp := (Pv.law18_QuorumGets Pv.fs aw Ev.insC y0 xe0 xa0 xs0 xd0 y1 xa1 xb1 xm1 y2 xb2 xe2 (lndsz w0) (by have := w1.1; unfold reachBytes at this; omega) (by have := w1.2.bat; unfold reachBytes at this; omega) (lgsz w1.2.log) (by have := w2.bat; unfold reachBytes at this; omega) (fun e he => by have := w2.log.bat e he; unfold reachBytes at this; omega)) fz2 [] n2 (fun v _ _ => v = .one (.bool true)) hi2.free ⟨s0, s1.1, s1.2, s2⟩ fun v mu' n' _ hv => hv
  refine (Go.Ev.calls_of_CP hcp hi2 (xs := [.agg cs0, .agg cs1, .agg cs2]) ⟨⟨cs0.toList, rfl, hvr0⟩, ⟨cs1.toList, rfl, hvr1⟩, ⟨cs2.toList, rfl, hvr2⟩, trivial⟩).mono fun e W' ⟨he, hf⟩ => ⟨_, he, ?_⟩
  exact Go.Ev.post_law (by kernel_rfl) tys rfl rfl Try.underlying4 rfl rfl rfl hW' hf
theorem over : Rows.quorumGetsRow.holds Try.pinned (OpenSpec.ofChange Rows.quorumGetsSpec) :=
  OpenClaim.holds_of_wide 3 Try.f3 rfl rfl rfl rfl rfl rfl rfl ⟨rfl, rfl, rfl, rfl, rfl⟩ rfl rfl rfl rfl rfl (by kernel_rfl) Try.func3 (by kernel_rfl)
    (of_decide_eq_true (by kernel_rfl)) (by unfold Func.isWrapper; first | (rw [if_pos (by decide +kernel)]; kernel_rfl) | (rw [if_neg (by decide +kernel)]; exact ⟨rfl, rfl⟩))
    (fun os started H enc _ => lifted os started H enc)

/-- THE STATEMENT -/
theorem proved : Rows.QuorumGetsSaid :=
  over
#print axioms proved
end Go.Proofs.Ytnnjlnkoomeadaa.quorumGets
