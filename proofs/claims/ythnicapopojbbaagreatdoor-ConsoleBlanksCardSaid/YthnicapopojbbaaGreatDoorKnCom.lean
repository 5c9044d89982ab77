import Derived.Test.YthnicapopojbbaaGreatDoorKnLine
import Derived.Test.YthnicapopojbbaaGreatDoorKnLay3
import Derived.Shelf.Sort.Plain
import Derived.Sort.OwnSortedInts
namespace Go.Kn
open Go Go.Conc Go.Proofs Go.RowKit
set_option linter.unusedVariables false
set_option linter.unusedSimpArgs false

theorem below_grown {B : Nat} {w w' : World} {g : Nat} (h : w.grownBy w' (some g)) (hB : B ≤ w.heap.size) (hg : B ≤ g) : Below B w w' :=
  (Below.refl B w).grown h hB fun k hk => by cases hk; exact hg
theorem sort_own {base : Nat} {v : Value} (zs ts : List Int) (hts : zs.mergeSort (fun x y => decide (x ≤ y)) = ts) (hl : ts.length = zs.length) (hz : zs ≠ []) (hsz : zs.length < 1000000) (w : World) (hB : base ≤ w.heap.size) (h : w.ownsRow base 3 1 v zs.length (zs.map (Value.int .i64))) :
    Calls Tryz.prog 47 #[v] w fun e w' => e = .returned (.tuple #[]) ∧ w'.ownsRow base 3 1 v zs.length (ts.map (Value.int .i64)) ∧ Below base w w' := by
  rcases h.2 with ⟨hv, h0⟩ | ⟨g, cap, cur, rfl, hbg, hg, hn, hc, hcs, ht⟩
  · exact absurd (List.length_eq_zero_iff.1 h0) hz
  · rw [Nat.mul_one] at ht
    refine (Any.slices_Sort_int lays189 g 0 cap zs w (holds_of_blockI hg ht) (Array.getElem?_eq_some_iff.1 hg).1 (by omega)).mono ?_
    rintro e w' ⟨rfl, m, os, rfl⟩
    rw [hts]
    exact ⟨rfl, ownsRow_sortedI hl hbg hg hn hc hcs, below_grown (grownBy_sortedI _) hB hbg⟩
def oth (zs : List Int) (i : Nat) : List Int := (zs.take i).drop 1
set_option maxHeartbeats 1000000 in
set_option maxRecDepth 100000 in
theorem committed_ok (A off cap : Nat) (w : World) (hA : A < w.heap.size) (c0 : w.cell? ⟨A, off, none⟩ = some (.int .i64 0)) (c1 : w.cell? ⟨A, off + 1, none⟩ = some (.int .i64 4)) (c2 : w.cell? ⟨A, off + 2, none⟩ = some (.int .i64 6)) :
    Calls Tryz.prog 30 #[.slice (some ⟨A, off, none⟩) 3 cap, .int .i64 0, .int .i64 9] w fun e w' => e = .returned (.int .i64 6) ∧ Below w.heap.size w w' := by
  have hinfo3 : (Tryz.prog.info? 3).map (fun i => (i.zero, i.size, i.bytes)) = some (some (.int .i64 0), 1, 8) := by kernel_rfl
  obtain ⟨i3, hi3, hz3, hs3, hb3⟩ := info_parts hinfo3
  refine calls_of_wpN Tryz.func30 rfl ?_
  simp only [Tryz.ntmps30, List.size_toArray, List.length_cons, List.length_nil, Nat.reduceAdd, Nat.reduceSub, Array.replicate_succ,
     Array.replicate_zero, List.push_toArray, List.append_toArray, List.nil_append, List.cons_append]
  refine wpN_seq (of_wp ?_)
  go_wp2
  refine wpN_seq (of_wp ?_)
  go_wp2
  refine wpN_seq ?_
  refine wpN_seq (of_wp ?_)
  go_wp2
  refine wpN_block (wpN_loop (fun a W => ∃ (i : Nat) (v u3 u4 u5 u8 u9 u10 u14 u15 u16 u17 u18 u19 u20 u21 u22 u23 u24 u25 u26 u27 u28 u29 u30 u31 u32 u33 u34 u35 u36 u37 u38 u39 u40 u41 u42 u43 u44 u45 u46 u47 u48 u49 u50 u51 u52 u53 u54 : Value), i ≤ 3 ∧ Below w.heap.size w W ∧ W.ownsRow w.heap.size 3 1 v (oth [0, 4, 6] i).length ((oth [0, 4, 6] i).map (Value.int .i64)) ∧ a = { tmps := #[.slice (some ⟨A, off, none⟩) 3 cap, .int .i64 0, .int .i64 9, u3, u4, u5, .int .i64 0, v, u8, u9, u10, .slice (some ⟨A, off, none⟩) 3 cap, .int .i64 3, .int .i64 (i : Nat), u14, u15, u16, u17, u18, u19, u20, u21, u22, u23, u24, u25, u26, u27, u28, u29, u30, u31, u32, u33, u34, u35, u36, u37, u38, u39, u40, u41, u42, u43, u44, u45, u46, u47, u48, u49, u50, u51, u52, u53, u54], defers := [] }) (fun a _ => 3 - at13 a) ?_ ?_)
  · exact ⟨0, _, _, _, _, _, _, _, _, _, _, _, _, _, _, _, _, _, _, _, _, _, _, _, _, _, _, _, _, _, _, _, _, _, _, _, _, _, _, _, _, _, _, _, _, _, _, _, _, by decide, Below.refl _ w, World.ownsRow_nil _ _ _ _, rfl⟩
  · rintro a W ⟨i, v, u3, u4, u5, u8, u9, u10, u14, u15, u16, u17, u18, u19, u20, u21, u22, u23, u24, u25, u26, u27, u28, u29, u30, u31, u32, u33, u34, u35, u36, u37, u38, u39, u40, u41, u42, u43, u44, u45, u46, u47, u48, u49, u50, u51, u52, u53, u54, hi, hb, hown, rfl⟩
    have hbs := hb.size
    have d0 : W.cell? ⟨A, off, none⟩ = some (.int .i64 0) := (hb.cell hA).trans c0
    have d1 : W.cell? ⟨A, off + 1, none⟩ = some (.int .i64 4) := (hb.cell hA).trans c1
    have d2 : W.cell? ⟨A, off + 2, none⟩ = some (.int .i64 6) := (hb.cell hA).trans c2
    refine wpN_seq (of_wp ?_)
    go_wp2
    refine wpN_seq (of_wp ?_)
    go_wp2
    · rename_i hlt
      obtain rfl | rfl | rfl : i = 0 ∨ i = 1 ∨ i = 2 := by omega
      · refine wpN_seq (wpN_block ?_)
        refine wpN_seq (of_wp ?_)
        go_wp2
        refine of_wp ?_
        go_wp2
        refine of_wp ?_
        go_wp2
        exact ⟨⟨1, _, _, _, _, _, _, _, _, _, _, _, _, _, _, _, _, _, _, _, _, _, _, _, _, _, _, _, _, _, _, _, _, _, _, _, _, _, _, _, _, _, _, _, _, _, _, _, _, by decide, hb, hown, rfl⟩, by simp [at13]⟩
      · refine wpN_seq (wpN_block ?_)
        refine wpN_seq (of_wp ?_)
        go_wp2
        refine of_wp ?_
        go_wp2_with (at_builtin; go_loud (refine wpList_append_own _ rfl _ _ 58 rfl w.heap.size 3 i3 (.int .i64 0) 1 8 Tryz.underlying58 hi3 hz3 hs3 hb3 rfl (by decide) _ _ _ rfl (hown.alloc _) ⟨W.heap.size, 0, none⟩ 1 1 [.int .i64 4] rfl rfl ?c1 ?c2 ?c3 ?c4 ?c5 ?_))
        case c1 =>
          intro k u hk
          match k, hk with
          | 0, hk => simp at hk; subst hk; simp [Addr.add]
        case c2 => intro u hu; simp at hu; subst hu; rfl
        case c3 => unfold maxLen; simp [oth]
        case c4 => simp [oth]
        case c5 => simp; omega
        intro v' W4 hown' hgrow _
        have hb5 : Below w.heap.size w W4 := by
          refine (hb.alloc (by omega) _).grown hgrow (by simp; omega) fun k hk => ?_
          exact (hown.lt k hk).1
        clear hgrow hown
        go_wp2
        refine of_wp ?_
        go_wp2
        exact ⟨⟨2, v', _, _, _, _, _, _, _, _, _, _, _, _, _, _, _, _, _, _, _, _, _, _, _, _, _, _, _, _, _, _, _, _, _, _, _, _, _, _, _, _, _, _, _, _, _, _, _, by decide, hb5, hown', rfl⟩, by simp [at13]⟩
      · refine wpN_seq (wpN_block ?_)
        refine wpN_seq (of_wp ?_)
        go_wp2
        refine of_wp ?_
        go_wp2_with (at_builtin; go_loud (refine wpList_append_own _ rfl _ _ 58 rfl w.heap.size 3 i3 (.int .i64 0) 1 8 Tryz.underlying58 hi3 hz3 hs3 hb3 rfl (by decide) _ _ _ rfl (hown.alloc _) ⟨W.heap.size, 0, none⟩ 1 1 [.int .i64 6] rfl rfl ?c1 ?c2 ?c3 ?c4 ?c5 ?_))
        case c1 =>
          intro k u hk
          match k, hk with
          | 0, hk => simp at hk; subst hk; simp [Addr.add]
        case c2 => intro u hu; simp at hu; subst hu; rfl
        case c3 => unfold maxLen; simp [oth]
        case c4 => simp [oth]
        case c5 => simp; omega
        intro v' W4 hown' hgrow _
        have hb5 : Below w.heap.size w W4 := by
          refine (hb.alloc (by omega) _).grown hgrow (by simp; omega) fun k hk => ?_
          exact (hown.lt k hk).1
        clear hgrow hown
        go_wp2
        refine of_wp ?_
        go_wp2
        exact ⟨⟨3, v', _, _, _, _, _, _, _, _, _, _, _, _, _, _, _, _, _, _, _, _, _, _, _, _, _, _, _, _, _, _, _, _, _, _, _, _, _, _, _, _, _, _, _, _, _, _, _, by decide, hb5, hown', rfl⟩, by simp [at13]⟩
    · obtain rfl : i = 3 := by omega
      have hs := sort_own [4, 6] [4, 6] (by first | exact List.mergeSort_of_pairwise (by decide) | exact List.mergeSort_of_sorted (by decide)) rfl (by simp) (by decide) W hbs hown
      have hv : ∃ g cap2, v = .slice (some ⟨g, 0, none⟩) 2 cap2 := by
        rcases hown.2 with ⟨_, h0⟩ | ⟨g, cap2, cur, hv, _⟩
        · cases h0
        · exact ⟨g, cap2, hv⟩
      obtain ⟨g, cap2, rfl⟩ := hv
      clear hown d0 d1 d2 c0 c1 c2
      refine wpN_seq (of_wp ?_)
      go_wp2
      refine wpN_seq (wpN_seq (of_wp ?_))
      go_wp2
      refine of_wp ?_
      go_wp2
      refine wpN_seq (wpN_seq (of_wp ?_))
      go_wp2
      refine of_wp ?_
      go_wp2
      refine wpN_seq (of_wp ?_)
      go_wp2_with (go_at_call 47; refine hs.mono ?_; rintro e W5 ⟨rfl, hown5, hb5⟩)
      have e1 : W5.cell? ⟨g, 1, none⟩ = some (.int .i64 6) := hown5.cellAt 1 (by decide)
      clear hown5 hs
      refine of_wp ?_
      go_wp2
      go_ret
      exact ⟨rfl, hb.trans hb5⟩
end Go.Kn
