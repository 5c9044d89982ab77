import Derived.Test.YthnicapopojbbaaGreatDoorKnLine2
import Derived.Test.YthnicapopojbbaaGreatDoorKnSafe
import Derived.StillTailTactics
namespace Go.Kn
open Go Go.Conc Go.Proofs Go.RowKit
set_option linter.unusedVariables false
set_option linter.unusedSimpArgs false

theorem own_ints2 {w : World} {base : Nat} {v : Value} {l : List Int} (h : w.ownsRow base 3 1 v l.length (l.map (Value.int .i64))) (hl : l ≠ []) : ∃ g cap, v = .slice (some ⟨g, 0, none⟩) l.length cap ∧ g < w.heap.size ∧ l.length ≤ cap ∧ ∀ j (hj : j < l.length), w.cell? ⟨g, j, none⟩ = some (.int .i64 l[j]) := by
  have hk := h
  rcases h.2 with ⟨hv, h0⟩ | ⟨g, cap, cur, hv, _, hg, hn, _, _, ht⟩
  · exact absurd (List.length_eq_zero_iff.1 h0) hl
  · refine ⟨g, cap, hv, (Array.getElem?_eq_some_iff.1 hg).1, hn, fun j hj => ?_⟩
    subst hv
    have := hk.cellAt j (by simpa using hj)
    simpa [List.getElem?_eq_getElem hj] using this
set_option maxHeartbeats 400000 in
set_option maxRecDepth 100000 in
theorem line_safe (W : World) (A B : Nat) (hown : W.ownsRow B 9 1 (.slice (some ⟨A, 0, none⟩) 6 6) 6 ([⟨#[115, 97, 102, 101]⟩, ⟨#[49, 54]⟩, ⟨#[48]⟩, ⟨#[48]⟩, ⟨#[56]⟩, ⟨#[49, 54]⟩].map Value.string)) : Calls Tryz.prog 19 #[.slice (some ⟨A, 0, none⟩) 6 6] W fun e W' => e = .returned (.string ⟨#[49, 54]⟩) ∧ Below W.heap.size W W' := by
  have hA : A < W.heap.size := (hown.lt A rfl).2
  have hc0 : W.cell? ⟨A, 0, none⟩ = some (.string ⟨#[115, 97, 102, 101]⟩) := hown.cellAt 0 (by simp)
  have hc1 : W.cell? ⟨A, 1, none⟩ = some (.string ⟨#[49, 54]⟩) := hown.cellAt 1 (by simp)
  have hc2 : W.cell? ⟨A, 2, none⟩ = some (.string ⟨#[48]⟩) := hown.cellAt 2 (by simp)
  have hc3 : W.cell? ⟨A, 3, none⟩ = some (.string ⟨#[48]⟩) := hown.cellAt 3 (by simp)
  have hc4 : W.cell? ⟨A, 4, none⟩ = some (.string ⟨#[56]⟩) := hown.cellAt 4 (by simp)
  have hc5 : W.cell? ⟨A, 5, none⟩ = some (.string ⟨#[49, 54]⟩) := hown.cellAt 5 (by simp)
  have hk : numsOf [⟨#[49, 54]⟩, ⟨#[48]⟩, ⟨#[48]⟩, ⟨#[56]⟩, ⟨#[49, 54]⟩] = some [16, 0, 0, 8, 16] := by decide
  have hnum := numbers_ok [⟨#[49, 54]⟩, ⟨#[48]⟩, ⟨#[48]⟩, ⟨#[56]⟩, ⟨#[49, 54]⟩] A 1 5 W.drew hA (by simp) (by intro i h; match i, h with | 0, _ => exact (by decide : (⟨#[49, 54]⟩ : ByteArray).size ≤ 1000000) | 1, _ => exact (by decide : (⟨#[48]⟩ : ByteArray).size ≤ 1000000) | 2, _ => exact (by decide : (⟨#[48]⟩ : ByteArray).size ≤ 1000000) | 3, _ => exact (by decide : (⟨#[56]⟩ : ByteArray).size ≤ 1000000) | 4, _ => exact (by decide : (⟨#[49, 54]⟩ : ByteArray).size ≤ 1000000)) (by intro i h; match i, h with | 0, _ => exact hc1 | 1, _ => exact hc2 | 2, _ => exact hc3 | 3, _ => exact hc4 | 4, _ => exact hc5)
  clear hown
  refine calls_of_wpN Tryz.func19 rfl ?_
  simp only [Tryz.ntmps19, List.size_toArray, List.length_cons, List.length_nil, Nat.reduceAdd, Nat.reduceSub, Array.replicate_succ,
     Array.replicate_zero, List.push_toArray, List.append_toArray, List.nil_append, List.cons_append]
  refine wpN_seq (of_wp ?_)
  go_wp2
  refine wpN_seq (of_wp ?_)
  go_region
  refine wpN_seq (of_wp ?_)
  go_wp2_with (go_at_call 23; refine hnum.mono ?_; intro e W2 hne; obtain ⟨v, rfl, hb, hown⟩ := hne.is hk; clear hne)
  have hb' : Below W.heap.size W W2 := below_drew hb
  clear hnum hc0 hc1 hc2 hc3 hc4 hc5 hb
  obtain ⟨g, cap, rfl, hg, hcap, hcell⟩ := own_ints2 hown (by simp)
  clear hown
  refine wpN_seq ?_
  have hv0 : W2.cell? ⟨g, 0, none⟩ = some (.int .i64 16) := hcell 0 (by simp)
  have hv1 : W2.cell? ⟨g, 1, none⟩ = some (.int .i64 0) := hcell 1 (by simp)
  have hv2 : W2.cell? ⟨g, 2, none⟩ = some (.int .i64 0) := hcell 2 (by simp)
  have hv3 : W2.cell? ⟨g, 3, none⟩ = some (.int .i64 8) := hcell 3 (by simp)
  have hv4 : W2.cell? ⟨g, 4, none⟩ = some (.int .i64 16) := hcell 4 (by simp)
  clear hcell
  simp only [List.length_cons, List.length_nil, Nat.zero_add, Nat.reduceAdd] at hcap ⊢
  have hcon := safe_ok g 2 (cap - 2) W2.drew hg hv2 hv3 hv4
  have hb2 : Below W.heap.size W W2.drew := hb'.drew
  refine wpN_block ?_
  refine wpN_seq (of_wp ?_)
  go_wp2
  refine wpN_cond (t := false) rfl ?_
  rw [if_neg (by simp)]
  refine wpN_seq (of_wp ?_)
  go_wp2
  refine wpN_cond (t := false) rfl ?_
  rw [if_neg (by simp)]
  refine wpN_seq (of_wp ?_)
  go_wp2
  refine wpN_cond (t := false) rfl ?_
  rw [if_neg (by simp)]
  refine wpN_seq (of_wp ?_)
  go_wp2
  refine wpN_cond (t := true) rfl ?_
  rw [if_pos rfl]
  refine wpN_seq (of_wp ?_)
  go_still_tail 8, (by kernel_rfl)
  change wpList _ _ _ _ _ W2.drew
  generalize W2.drew = w5 at hcon hb2 ⊢
  go_wp2_with (first | (go_at_call 28; refine hcon.mono ?_; rintro e W3 ⟨rfl, hb3⟩) | (go_at_call 27; refine (itoa_ok 16 _ dd16 (by decide) _).mono ?_; rintro e W4 ⟨rfl, hW4⟩; have h9 := hW4.symm; clear hW4; subst h9))
  refine of_wp ?_
  go_wp2
  go_ret
  exact ⟨rfl, hb2.trans (hb3.mono hb2.size)⟩
set_option maxHeartbeats 400000 in
set_option maxRecDepth 100000 in
theorem line_committed (W : World) (A B : Nat) (hown : W.ownsRow B 9 1 (.slice (some ⟨A, 0, none⟩) 6 6) 6 ([⟨#[99, 111, 109, 109, 105, 116, 116, 101, 100]⟩, ⟨#[48]⟩, ⟨#[57]⟩, ⟨#[48]⟩, ⟨#[52]⟩, ⟨#[54]⟩].map Value.string)) : Calls Tryz.prog 19 #[.slice (some ⟨A, 0, none⟩) 6 6] W fun e W' => e = .returned (.string ⟨#[54]⟩) ∧ Below W.heap.size W W' := by
  have hA : A < W.heap.size := (hown.lt A rfl).2
  have hc0 : W.cell? ⟨A, 0, none⟩ = some (.string ⟨#[99, 111, 109, 109, 105, 116, 116, 101, 100]⟩) := hown.cellAt 0 (by simp)
  have hc1 : W.cell? ⟨A, 1, none⟩ = some (.string ⟨#[48]⟩) := hown.cellAt 1 (by simp)
  have hc2 : W.cell? ⟨A, 2, none⟩ = some (.string ⟨#[57]⟩) := hown.cellAt 2 (by simp)
  have hc3 : W.cell? ⟨A, 3, none⟩ = some (.string ⟨#[48]⟩) := hown.cellAt 3 (by simp)
  have hc4 : W.cell? ⟨A, 4, none⟩ = some (.string ⟨#[52]⟩) := hown.cellAt 4 (by simp)
  have hc5 : W.cell? ⟨A, 5, none⟩ = some (.string ⟨#[54]⟩) := hown.cellAt 5 (by simp)
  have hk : numsOf [⟨#[48]⟩, ⟨#[57]⟩, ⟨#[48]⟩, ⟨#[52]⟩, ⟨#[54]⟩] = some [0, 9, 0, 4, 6] := by decide
  have hnum := numbers_ok [⟨#[48]⟩, ⟨#[57]⟩, ⟨#[48]⟩, ⟨#[52]⟩, ⟨#[54]⟩] A 1 5 W.drew hA (by simp) (by intro i h; match i, h with | 0, _ => exact (by decide : (⟨#[48]⟩ : ByteArray).size ≤ 1000000) | 1, _ => exact (by decide : (⟨#[57]⟩ : ByteArray).size ≤ 1000000) | 2, _ => exact (by decide : (⟨#[48]⟩ : ByteArray).size ≤ 1000000) | 3, _ => exact (by decide : (⟨#[52]⟩ : ByteArray).size ≤ 1000000) | 4, _ => exact (by decide : (⟨#[54]⟩ : ByteArray).size ≤ 1000000)) (by intro i h; match i, h with | 0, _ => exact hc1 | 1, _ => exact hc2 | 2, _ => exact hc3 | 3, _ => exact hc4 | 4, _ => exact hc5)
  clear hown
  refine calls_of_wpN Tryz.func19 rfl ?_
  simp only [Tryz.ntmps19, List.size_toArray, List.length_cons, List.length_nil, Nat.reduceAdd, Nat.reduceSub, Array.replicate_succ,
     Array.replicate_zero, List.push_toArray, List.append_toArray, List.nil_append, List.cons_append]
  refine wpN_seq (of_wp ?_)
  go_wp2
  refine wpN_seq (of_wp ?_)
  go_region
  refine wpN_seq (of_wp ?_)
  go_wp2_with (go_at_call 23; refine hnum.mono ?_; intro e W2 hne; obtain ⟨v, rfl, hb, hown⟩ := hne.is hk; clear hne)
  have hb' : Below W.heap.size W W2 := below_drew hb
  clear hnum hc0 hc1 hc2 hc3 hc4 hc5 hb
  obtain ⟨g, cap, rfl, hg, hcap, hcell⟩ := own_ints2 hown (by simp)
  clear hown
  refine wpN_seq ?_
  have hv0 : W2.cell? ⟨g, 0, none⟩ = some (.int .i64 0) := hcell 0 (by simp)
  have hv1 : W2.cell? ⟨g, 1, none⟩ = some (.int .i64 9) := hcell 1 (by simp)
  have hv2 : W2.cell? ⟨g, 2, none⟩ = some (.int .i64 0) := hcell 2 (by simp)
  have hv3 : W2.cell? ⟨g, 3, none⟩ = some (.int .i64 4) := hcell 3 (by simp)
  have hv4 : W2.cell? ⟨g, 4, none⟩ = some (.int .i64 6) := hcell 4 (by simp)
  clear hcell
  simp only [List.length_cons, List.length_nil, Nat.zero_add, Nat.reduceAdd] at hcap ⊢
  have hcon := committed_ok g 2 (cap - 2) W2.drew hg hv2 hv3 hv4
  have hb2 : Below W.heap.size W W2.drew := hb'.drew
  refine wpN_block ?_
  refine wpN_seq (of_wp ?_)
  go_wp2
  refine wpN_cond (t := false) rfl ?_
  rw [if_neg (by simp)]
  refine wpN_seq (of_wp ?_)
  go_wp2
  refine wpN_cond (t := false) rfl ?_
  rw [if_neg (by simp)]
  refine wpN_seq (of_wp ?_)
  go_wp2
  refine wpN_cond (t := false) rfl ?_
  rw [if_neg (by simp)]
  refine wpN_seq (of_wp ?_)
  go_wp2
  refine wpN_cond (t := false) rfl ?_
  rw [if_neg (by simp)]
  refine wpN_seq (of_wp ?_)
  go_wp2
  refine wpN_cond (t := false) rfl ?_
  rw [if_neg (by simp)]
  refine wpN_seq (of_wp ?_)
  go_wp2
  refine wpN_cond (t := true) rfl ?_
  rw [if_pos rfl]
  refine wpN_seq (of_wp ?_)
  go_still_tail 8, (by kernel_rfl)
  change wpList _ _ _ _ _ W2.drew
  generalize W2.drew = w5 at hcon hb2 ⊢
  go_wp2_with (first | (go_at_call 30; refine hcon.mono ?_; rintro e W3 ⟨rfl, hb3⟩) | (go_at_call 27; refine (itoa_ok 6 _ dd6 (by decide) _).mono ?_; rintro e W4 ⟨rfl, hW4⟩; have h9 := hW4.symm; clear hW4; subst h9))
  refine of_wp ?_
  go_wp2
  go_ret
  exact ⟨rfl, hb2.trans (hb3.mono hb2.size)⟩
end Go.Kn
