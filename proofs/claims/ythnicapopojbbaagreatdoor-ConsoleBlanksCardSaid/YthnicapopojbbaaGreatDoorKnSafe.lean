import Derived.Test.YthnicapopojbbaaGreatDoorKnCom
import Derived.Shelf.Slices.Delete
import Derived.Shelf.Slices.Clone
namespace Go.Kn
open Go Go.Conc Go.Proofs Go.RowKit
set_option linter.unusedVariables false
set_option linter.unusedSimpArgs false
open Go.Sort
theorem nodes_ok (w : World) : Calls Tryz.prog 44 #[.int .i64 0, .int .i64 3] w fun e w' => e = .returned (.bool true) ∧ w' = w := by
  go_enter Tryz.func44, Tryz.ntmps44
  go_wp2
  go_ret
  exact ⟨rfl, rfl⟩
theorem clone_ok (A off cap : Nat) (w : World) (c0 : w.cell? ⟨A, off, none⟩ = some (.int .i64 0)) (c1 : w.cell? ⟨A, off + 1, none⟩ = some (.int .i64 8)) (c2 : w.cell? ⟨A, off + 2, none⟩ = some (.int .i64 16)) :
    Calls Tryz.prog 46 #[.slice (some ⟨A, off, none⟩) 3 cap] w fun e w' => ∃ g c, e = .returned (.slice (some ⟨g, 0, none⟩) 3 c) ∧ w'.ownsRow w.heap.size 3 1 (.slice (some ⟨g, 0, none⟩) 3 c) 3 [.int .i64 0, .int .i64 8, .int .i64 16] ∧ Below w.heap.size w w' := by
  refine (Any.slices_Clone_int lays215 A off 3 cap [0, 8, 16] w (by decide) (by decide) fun j hj => ?_).mono ?_
  · match j, hj with
    | 0, _ => exact c0
    | 1, _ => exact c1
    | 2, _ => exact c2
  · rintro e w' ⟨v, rfl, h1, h2, h3⟩
    have h4 := h1
    rcases h1.2 with ⟨_, h0⟩ | ⟨g, c, cur, rfl, _⟩
    · cases h0
    · exact ⟨g, c, rfl, h4, h3⟩
theorem delete_ok (base g c : Nat) (w : World) (hB : base ≤ w.heap.size) (h : w.ownsRow base 3 1 (.slice (some ⟨g, 0, none⟩) 3 c) 3 [.int .i64 0, .int .i64 8, .int .i64 16]) :
    Calls Tryz.prog 45 #[.slice (some ⟨g, 0, none⟩) 3 c, .int .i64 0, .int .i64 1] w fun e w' => e = .returned (.slice (some ⟨g, 0, none⟩) 2 c) ∧ w'.ownsRow base 3 1 (.slice (some ⟨g, 0, none⟩) 2 c) 2 [.int .i64 8, .int .i64 16] ∧ Below base w w' := by
  rcases h.2 with ⟨hv, h0⟩ | ⟨g', c', cur, hv, hbg, hg, hn, hc, hcs, ht⟩
  · cases h0
  cases hv
  have hH : Holds (Value.int .i64) w g 0 ([0, 8, 16] : List Int).toArray := holds_of_blockI (ss := [0, 8, 16]) hg ht
  refine (Any.slices_Delete_int lays223 g 0 c 0 1 [0, 8, 16] w hH hn (by unfold maxLen at hc; omega) (by decide) (by decide)).mono ?_
  rintro e w' ⟨rfl, q, rfl⟩
  have hgr := grownBy_sortedI (w := w) (g := g) (n := q) (os := #[]) ([8, 16, 0] : List Int).toArray
  have hhp := heap_sortedI (w := w) (g := g) (n := q) (os := #[]) ([8, 16, 0] : List Int).toArray hg
  rw [grow_empty] at hgr hhp
  refine ⟨rfl, ⟨rfl, .inr ⟨g, c, _, rfl, hbg, hhp, by omega, hc, by simp [putCells, hcs], ?_⟩⟩, below_grown hgr hB hbg⟩
  have h3 := take_putCellsI cur [8, 16, 0] (by simp; omega)
  have h4 := congrArg (List.take 2) h3
  rw [List.take_take] at h4
  simpa using h4
set_option maxHeartbeats 1000000 in
set_option maxRecDepth 100000 in
theorem safe_ok (A off cap : Nat) (w : World) (hA : A < w.heap.size) (c0 : w.cell? ⟨A, off, none⟩ = some (.int .i64 0)) (c1 : w.cell? ⟨A, off + 1, none⟩ = some (.int .i64 8)) (c2 : w.cell? ⟨A, off + 2, none⟩ = some (.int .i64 16)) :
    Calls Tryz.prog 28 #[.int .i64 16, .slice (some ⟨A, off, none⟩) 3 cap, .int .i64 0] w fun e w' => e = .returned (.int .i64 16) ∧ Below w.heap.size w w' := by
  have hcl := clone_ok A off cap w c0 c1 c2
  refine calls_of_wpN Tryz.func28 rfl ?_
  simp only [Tryz.ntmps28, List.size_toArray, List.length_cons, List.length_nil, Nat.reduceAdd, Nat.reduceSub, Array.replicate_succ,
     Array.replicate_zero, List.push_toArray, List.append_toArray, List.nil_append, List.cons_append]
  refine wpN_seq (of_wp ?_)
  go_wp2
  refine wpN_seq (wpN_seq (of_wp ?_))
  go_wp2_with (go_at_call 44; refine (nodes_ok _).mono ?_; rintro e W2 ⟨rfl, hW2⟩; have h9 := hW2.symm; clear hW2; subst h9)
  refine of_wp ?_
  go_wp2
  refine wpN_seq (of_wp ?_)
  clear c0 c1 c2
  go_wp2_with (first | (go_at_call 46; refine hcl.mono ?_; rintro e W2 ⟨g, c, rfl, hown, hb⟩; clear hcl; have hbs := hb.size; have hdl := delete_ok w.heap.size g c W2 hbs hown; clear hown) | (go_at_call 45; refine hdl.mono ?_; rintro e W3 ⟨rfl, hown, hb3⟩; clear hdl; have hbs3 := hb3.size; have hso := sort_own [8, 16] [8, 16] (by first | exact List.mergeSort_of_pairwise (by decide) | exact List.mergeSort_of_sorted (by decide)) rfl (by simp) (by decide) W3 (Nat.le_trans hbs hbs3) hown; clear hown))
  refine wpN_seq (of_wp ?_)
  go_wp2_with (go_at_call 47; refine hso.mono ?_; rintro e W4 ⟨rfl, hown4, hb4⟩)
  have e1 : W4.cell? ⟨g, 1, none⟩ = some (.int .i64 16) := hown4.cellAt 1 (by decide)
  clear hown4 hso
  refine wpN_seq (of_wp ?_)
  go_wp2
  refine wpN_seq (wpN_seq (of_wp ?_))
  go_wp2
  refine of_wp ?_
  go_wp2
  refine of_wp ?_
  go_wp2

  go_ret
  exact ⟨rfl, (hb.trans hb3).trans hb4⟩
end Go.Kn
