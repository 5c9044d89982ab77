import Derived.Test.YthnicapopojbbaaGreatDoorKnPut
namespace Go.Kn
open Go Go.Conc Go.Proofs Go.RowKit
set_option linter.unusedVariables false
set_option linter.unusedSimpArgs false

theorem hstep_range (x : Int) (b : UInt8) : 0 ≤ hstep x b ∧ hstep x b < 18446744073709551616 := by
  unfold hstep
  rw [IntKind.wrap_u64]
  omega
theorem hashS_range (s : ByteArray) : 0 ≤ hashS s ∧ hashS s < 18446744073709551616 := by
  unfold hashS hS
  generalize s.data.toList.take s.size = l
  rcases List.eq_nil_or_concat l with rfl | ⟨l', b, rfl⟩
  · decide
  · rw [List.concat_eq_append, List.foldl_append]
    exact hstep_range _ b
theorem NumAns.any {w : World} {ws : List ByteArray} {e : Ending} {w' : World} (h : NumAns w ws e w') : ∃ v b, e = .returned (.tuple #[v, .bool b]) ∧ Below w.heap.size w w' := by
  rcases h with ⟨hb, ⟨_, h⟩ | ⟨ns, v, _, h, _⟩⟩
  · exact ⟨_, _, h, hb⟩
  · exact ⟨_, _, h, hb⟩
theorem NumAns.is {w : World} {ws : List ByteArray} {ns : List Int} (hn : numsOf ws = some ns) {e : Ending} {w' : World} (h : NumAns w ws e w') : ∃ v, e = .returned (.tuple #[v, .bool true]) ∧ Below w.heap.size w w' ∧ w'.ownsRow w.heap.size 3 1 v ns.length (ns.map (Value.int .i64)) := by
  rcases h with ⟨hb, ⟨h0, h⟩ | ⟨ns', v, h0, h, ho⟩⟩
  · rw [hn] at h0; cases h0
  · rw [hn] at h0; cases h0
    exact ⟨_, h, hb, ho⟩
theorem own_ints {w : World} {base : Nat} {v : Value} {l : List Int} (h : w.ownsRow base 3 1 v l.length (l.map (Value.int .i64))) (hl : l ≠ []) : ∃ g cap, v = .slice (some ⟨g, 0, none⟩) l.length cap ∧ ∀ j (hj : j < l.length), w.cell? ⟨g, j, none⟩ = some (.int .i64 l[j]) := by
  have hk := h
  rcases h.2 with ⟨hv, h0⟩ | ⟨g, cap, cur, hv, _, hg, _, _, _, ht⟩
  · exact absurd (List.length_eq_zero_iff.1 h0) hl
  · refine ⟨g, cap, hv, fun j hj => ?_⟩
    subst hv
    have := hk.cellAt j (by simpa using hj)
    simpa [List.getElem?_eq_getElem hj] using this
theorem putS_size (k : Int) : (putS k).size ≤ 1000000 := by
  have h := putF_length 10 (zig k)
  have h1 : (putS k).size = (putF 10 (zig k)).length := by simp [putS, ByteArray.size]
  omega
theorem below_drew {W W2 : World} (h : Below W.drew.heap.size W.drew W2) : Below W.heap.size W W2 := ((Below.refl _ W).drew).trans h
set_option maxHeartbeats 1000000 in
set_option maxRecDepth 100000 in
theorem line_hash (x : ByteArray) (hx : x.size ≤ 1000000) (W : World) (A B : Nat) (hown : W.ownsRow B 9 1 (.slice (some ⟨A, 0, none⟩) 2 2) 2 ([⟨#[104, 97, 115, 104]⟩, x].map Value.string)) : Calls Tryz.prog 19 #[.slice (some ⟨A, 0, none⟩) 2 2] W fun e W' => e = .returned (.string (hexS (hashS x))) ∧ Below W.heap.size W W' := by
  have hA : A < W.heap.size := (hown.lt A rfl).2
  have hc0 : W.cell? ⟨A, 0, none⟩ = some (.string ⟨#[104, 97, 115, 104]⟩) := hown.cellAt 0 (by simp)
  have hc1 : W.cell? ⟨A, 1, none⟩ = some (.string x) := hown.cellAt 1 (by simp)
  have hnum := numbers_ok [x] A 1 1 W.drew hA (by simp) (by intro i h; match i, h with | 0, _ => exact hx) (by intro i h; match i, h with | 0, _ => exact hc1)
  clear hown
  refine calls_of_wpN Tryz.func19 rfl ?_
  simp only [Tryz.ntmps19, List.size_toArray, List.length_cons, List.length_nil, Nat.reduceAdd, Nat.reduceSub, Array.replicate_succ,
     Array.replicate_zero, List.push_toArray, List.append_toArray, List.nil_append, List.cons_append]
  refine wpN_seq (of_wp ?_)
  go_wp2
  refine wpN_seq (of_wp ?_)
  go_region
  refine wpN_seq (of_wp ?_)
  go_wp2_with (go_at_call 23; refine hnum.mono ?_; intro e W2 hne; obtain ⟨v, b, rfl, hb⟩ := hne.any; clear hne)
  have hb' : Below W.heap.size W W2 := below_drew hb
  have hc1' : W2.cell? ⟨A, 1, none⟩ = some (.string x) := (hb'.cell hA).trans hc1
  obtain ⟨hr1, hr2⟩ := hashS_range x
  clear hnum hc0 hc1 hb
  refine wpN_seq (wpN_block ?_)
  refine wpN_seq (of_wp ?_)
  go_wp2
  refine wpN_cond (t := true) rfl ?_
  rw [if_pos rfl]
  refine of_wp ?_
  go_wp2_with (first | (go_at_call 9; refine (hash_ok x hx _).mono ?_; rintro e W3 ⟨rfl, hW3⟩; have h9 := hW3.symm; clear hW3; subst h9) | (go_at_call 8; refine (hex_ok (hashS x) hr1 hr2 _).mono ?_; rintro e W3 ⟨rfl, hb3⟩))
  go_ret
  exact ⟨rfl, hb'.trans (hb3.mono hb'.size)⟩
set_option maxHeartbeats 1000000 in
set_option maxRecDepth 100000 in
theorem line_num (x : ByteArray) (hx : x.size ≤ 1000000) (k : Int) (hk : numsOf [x] = some [k]) (h1 : -9007199254740992 ≤ k) (h2 : k ≤ 9007199254740992) (W : World) (A B : Nat) (hown : W.ownsRow B 9 1 (.slice (some ⟨A, 0, none⟩) 2 2) 2 ([⟨#[110, 117, 109]⟩, x].map Value.string)) : Calls Tryz.prog 19 #[.slice (some ⟨A, 0, none⟩) 2 2] W fun e W' => e = .returned (.string (hexOf (putS k))) ∧ Below W.heap.size W W' := by
  have hA : A < W.heap.size := (hown.lt A rfl).2
  have hc0 : W.cell? ⟨A, 0, none⟩ = some (.string ⟨#[110, 117, 109]⟩) := hown.cellAt 0 (by simp)
  have hc1 : W.cell? ⟨A, 1, none⟩ = some (.string x) := hown.cellAt 1 (by simp)
  have hnum := numbers_ok [x] A 1 1 W.drew hA (by simp) (by intro i h; match i, h with | 0, _ => exact hx) (by intro i h; match i, h with | 0, _ => exact hc1)
  clear hown
  refine calls_of_wpN Tryz.func19 rfl ?_
  simp only [Tryz.ntmps19, List.size_toArray, List.length_cons, List.length_nil, Nat.reduceAdd, Nat.reduceSub, Array.replicate_succ,
     Array.replicate_zero, List.push_toArray, List.append_toArray, List.nil_append, List.cons_append]
  refine wpN_seq (of_wp ?_)
  go_wp2
  refine wpN_seq (of_wp ?_)
  go_region
  refine wpN_seq (of_wp ?_)
  go_wp2_with (go_at_call 23; refine hnum.mono ?_; intro e W2 hne; obtain ⟨v, rfl, hb, hown⟩ := hne.is hk; clear hne)
  have hb' : Below W.heap.size W W2 := below_drew hb
  clear hnum hc0 hb
  obtain ⟨g, cap, rfl, hcell⟩ := own_ints hown (by simp)
  clear hown
  refine wpN_seq ?_
  refine wpN_block ?_
  refine wpN_seq (of_wp ?_)
  go_wp2
  refine wpN_cond (t := false) rfl ?_
  rw [if_neg (by simp)]
  refine wpN_seq (of_wp ?_)
  go_wp2
  refine wpN_cond (t := true) rfl ?_
  rw [if_pos rfl]
  refine of_wp ?_
  go_wp2_with (first | (go_at_call 12; refine (put_ok k h1 h2 _).mono ?_; rintro e W3 ⟨rfl, hb3⟩) | (go_at_call 24; refine (chex_ok (putS k) (putS_size k) _).mono ?_; rintro e W4 ⟨rfl, hb4⟩))
  go_ret
  exact ⟨rfl, hb'.trans ((hb3.trans (hb4.mono hb3.size)).mono hb'.size)⟩
end Go.Kn
