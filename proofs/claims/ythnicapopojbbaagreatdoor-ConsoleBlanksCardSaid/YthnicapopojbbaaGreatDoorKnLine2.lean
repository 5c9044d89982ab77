import Derived.Test.YthnicapopojbbaaGreatDoorKnLine
import Derived.Test.YthnicapopojbbaaGreatDoorKnLay3
import Derived.Shelf.Strconv.Itoa0
import Derived.Shelf.Strconv.Itoa1
import Derived.Shelf.Strconv.Itoa2
import Derived.Shelf.Strconv.Itoa3
import Derived.BigQuiet
import Derived.Deep.QuietTactic
namespace Go.Kn
open Go Go.Conc Go.Proofs Go.RowKit
set_option linter.unusedVariables false
set_option linter.unusedSimpArgs false

set_option maxHeartbeats 400000 in
set_option maxRecDepth 100000 in
theorem line_frob (W : World) (A B : Nat) (hown : W.ownsRow B 9 1 (.slice (some ⟨A, 0, none⟩) 1 1) 1 ([⟨#[102, 114, 111, 98]⟩].map Value.string)) : Calls Tryz.prog 19 #[.slice (some ⟨A, 0, none⟩) 1 1] W fun e W' => e = .returned (.string ⟨#[101, 114, 114, 111, 114, 32, 50, 55, 48, 48]⟩) ∧ Below W.heap.size W W' := by
  have hA : A < W.heap.size := (hown.lt A rfl).2
  have hc0 : W.cell? ⟨A, 0, none⟩ = some (.string ⟨#[102, 114, 111, 98]⟩) := hown.cellAt 0 (by simp)
  have hnum := numbers_ok [] A 0 0 W.drew hA (by simp) (by intro i h; simp at h) (by intro i h; simp at h)
  clear hown
  refine calls_of_wpN Tryz.func19 rfl ?_
  simp only [Tryz.ntmps19, List.size_toArray, List.length_cons, List.length_nil, Nat.reduceAdd, Nat.reduceSub, Array.replicate_succ,
     Array.replicate_zero, List.push_toArray, List.append_toArray, List.nil_append, List.cons_append]
  refine wpN_seq (of_wp ?_)
  go_wp2
  refine wpN_seq (of_wp ?_)
  go_region
  refine wpN_seq (of_wp ?_)
  go_wp2_with (go_at_call 23; refine hnum.mono ?_; intro e W2 hne; obtain ⟨v, b, rfl, hb⟩ := hne.any; clear hne)
  have hb' : Below W.heap.size W W2 := below_drew hb
  clear hnum hc0 hb
  refine wpN_seq ?_
  refine wpN_block ?_
  refine wpN_seq (of_wp ?_)
  go_wp2
  refine wpN_cond (t := false) rfl ?_
  rw [if_neg (by simp)]
  refine wpN_seq (of_wp ?_)
  go_wp2
  refine wpN_cond (t := false) rfl ?_
  rw [if_neg (by simp)]
  refine wpN_seq (of_wp ?_)
  go_wp2
  refine wpN_cond (t := false) rfl ?_
  rw [if_neg (by simp)]
  refine wpN_seq (of_wp ?_)
  go_wp2
  refine wpN_cond (t := false) rfl ?_
  rw [if_neg (by simp)]
  refine wpN_seq (of_wp ?_)
  go_wp2
  refine wpN_cond (t := false) rfl ?_
  rw [if_neg (by simp)]
  refine wpN_seq (of_wp ?_)
  go_wp2
  refine of_wp ?_
  go_wp2
  refine of_wp ?_
  go_wp2
  go_ret
  exact ⟨rfl, hb'⟩
theorem _root_.Go.RowKit.Below.drewN {B : Nat} {a w : World} (h : Below B a w) (n : Nat) : Below B a (w.drewN n) := ⟨h.os, h.tape, h.output, h.size, h.block⟩
theorem primary_ok (w : World) : Calls Tryz.prog 29 #[.int .i64 5, .int .i64 3] w fun e w' => e = .returned (.int .i64 2) ∧ w' = w := by
  go_enter Tryz.func29, Tryz.ntmps29
  go_wp2
  go_ret
  exact ⟨rfl, rfl⟩
theorem itoa_ok (i : Nat) (l : Array UInt8) (hl : (Lib.decDigits i).toArray = l) (hi : i < 100) (w : World) : Calls Tryz.prog 27 #[.int .i64 i] w fun e w' => e = .returned (.string ⟨l⟩) ∧ w' = w := hl ▸ Any.strconv_Itoa_small lays171 i hi w
theorem dd2 : (Lib.decDigits 2).toArray = #[50] := by first | decide | rfl | (unfold Lib.decDigits; simp) | simp [Lib.decDigits]
theorem dd6 : (Lib.decDigits 6).toArray = #[54] := by first | decide | rfl | (unfold Lib.decDigits; simp) | simp [Lib.decDigits]
theorem dd16 : (Lib.decDigits 16).toArray = #[49, 54] := by
  rw [Lib.decDigits, dif_neg (by decide), Lib.decDigits, dif_pos (by decide)]; rfl
set_option maxHeartbeats 400000 in
set_option maxRecDepth 100000 in
theorem line_primary (W : World) (A B : Nat) (hown : W.ownsRow B 9 1 (.slice (some ⟨A, 0, none⟩) 3 3) 3 ([⟨#[112, 114, 105, 109, 97, 114, 121]⟩, ⟨#[53]⟩, ⟨#[51]⟩].map Value.string)) : Calls Tryz.prog 19 #[.slice (some ⟨A, 0, none⟩) 3 3] W fun e W' => e = .returned (.string ⟨#[50]⟩) ∧ Below W.heap.size W W' := by
  have hA : A < W.heap.size := (hown.lt A rfl).2
  have hc0 : W.cell? ⟨A, 0, none⟩ = some (.string ⟨#[112, 114, 105, 109, 97, 114, 121]⟩) := hown.cellAt 0 (by simp)
  have hc1 : W.cell? ⟨A, 1, none⟩ = some (.string ⟨#[53]⟩) := hown.cellAt 1 (by simp)
  have hc2 : W.cell? ⟨A, 2, none⟩ = some (.string ⟨#[51]⟩) := hown.cellAt 2 (by simp)
  have hk : numsOf [⟨#[53]⟩, ⟨#[51]⟩] = some [5, 3] := by decide
  have hnum := numbers_ok [⟨#[53]⟩, ⟨#[51]⟩] A 1 2 W.drew hA (by simp) (by intro i h; match i, h with | 0, _ => exact (by decide : (⟨#[53]⟩ : ByteArray).size ≤ 1000000) | 1, _ => exact (by decide : (⟨#[51]⟩ : ByteArray).size ≤ 1000000)) (by intro i h; match i, h with | 0, _ => exact hc1 | 1, _ => exact hc2)
  clear hown
  refine calls_of_wpN Tryz.func19 rfl ?_
  simp only [Tryz.ntmps19, List.size_toArray, List.length_cons, List.length_nil, Nat.reduceAdd, Nat.reduceSub, Array.replicate_succ,
     Array.replicate_zero, List.push_toArray, List.append_toArray, List.nil_append, List.cons_append]
  refine wpN_seq (of_wp ?_)
  go_wp2
  refine wpN_seq (of_wp ?_)
  go_region
  refine wpN_seq (of_wp ?_)
  go_wp2_with (go_at_call 23; refine hnum.mono ?_; intro e W2 hne; obtain ⟨v, rfl, hb, hown⟩ := hne.is hk; clear hne)
  have hb' : Below W.heap.size W W2 := below_drew hb
  clear hnum hc0 hc1 hc2 hb
  obtain ⟨g, cap, rfl, hcell⟩ := own_ints hown (by simp)
  clear hown
  refine wpN_seq ?_
  have hv0 := hcell 0 (by simp)
  have hv1 := hcell 1 (by simp)
  simp at hv0 hv1
  clear hcell
  refine wpN_block ?_
  refine wpN_seq (of_wp ?_)
  go_wp2
  refine wpN_cond (t := false) rfl ?_
  rw [if_neg (by simp)]
  refine wpN_seq (of_wp ?_)
  go_wp2
  refine wpN_cond (t := false) rfl ?_
  rw [if_neg (by simp)]
  refine wpN_seq (of_wp ?_)
  go_wp2
  refine wpN_cond (t := false) rfl ?_
  rw [if_neg (by simp)]
  refine wpN_seq (of_wp ?_)
  go_wp2
  refine wpN_cond (t := false) rfl ?_
  rw [if_neg (by simp)]
  refine wpN_seq (of_wp ?_)
  go_wp2
  refine wpN_cond (t := true) rfl ?_
  rw [if_pos rfl]
  refine of_wp ?_
  go_wp2_with (go_quiet (first | (go_at_call 29; refine Calls.quiet_of_same (primary_ok _)) | (go_at_call 27; refine Calls.quiet_of_same (itoa_ok 2 _ dd2 (by decide) _))))
  go_ret
  exact ⟨rfl, hb'.drewN _⟩
end Go.Kn
