import Derived.Test.YthnicapopojbbaaGreatDoorKnAw
import Derived.Test.YthnicapopojbbaaGreatDoorKnFld2
namespace Go.Kn
open Go Go.Conc Go.Proofs Go.RowKit
set_option linter.unusedVariables false
set_option linter.unusedSimpArgs false
theorem snoc_facts (o : ByteArray) : ∃ (T : ByteArray) (n : Nat), T = o ++ ⟨#[10]⟩ ∧ n = o.size := ⟨_, _, rfl, rfl⟩
set_option maxHeartbeats 1000000 in
set_option maxRecDepth 100000 in
theorem one_ok (s o T : ByteArray) (n : Nat) (hs : T.size = n + 1) (hn : n ≤ 1000000) (hT : T.extract 0 n = o) (h10 : T[n]'(by omega) = 10) (w : World) (hr : Calls Tryz.prog 13 #[.string s] w fun e w' => e = .returned (.tuple #[.string T, .int .i64 0]) ∧ Below w.heap.size w w') :
    Calls Tryz.prog 7 #[.string s] w fun e w' => e = .returned (.tuple #[.string o, .bool true]) ∧ Below w.heap.size w w' := by
  have hTe : T.toList.isEmpty = false := by
    rw [ByteArray.toList_eq]
    have hl : T.data.toList.length = n + 1 := by
      have : T.size = T.data.toList.length := by simp
      omega
    cases hq : T.data.toList with
    | nil => rw [hq] at hl; simp at hl
    | cons b r => rfl
  have hTs : T.size ≤ 2000000 := by omega
  go_enter Tryz.func7, Tryz.ntmps7
  go_wp2_with (first | (go_at_call 13; refine hr.mono ?_; rintro e W2 ⟨rfl, hb⟩; clear hr) | (go_at_call 14; refine (num_ok _).mono ?_; rintro e W3 ⟨rfl, hW3⟩; have h9 := hW3.symm; clear hW3; subst h9))
  go_ret2
  exact ⟨rfl, hb⟩
theorem append_list (a b : ByteArray) : (a ++ b).data.toList = a.data.toList ++ b.data.toList := by simp
theorem hexS_size (x : Int) : (hexS x).size = 16 := by
  have := hexL_length x 16
  simpa [hexS, ByteArray.size] using this
theorem jt_one (o : ByteArray) : (⟨(jt ([some o].filterMap id)).toArray⟩ : ByteArray) = o ++ ⟨#[10]⟩ := by
  symm
  refine ba_inj ?_
  rw [append_list]
  simp [jt]
theorem one_of (s o : ByteArray) (ho : o.size ≤ 1000000) (w : World) (hr : Calls Tryz.prog 13 #[.string s] w fun e w' => e = .returned (.tuple #[.string (o ++ ⟨#[10]⟩), .int .i64 0]) ∧ Below w.heap.size w w') :
    Calls Tryz.prog 7 #[.string s] w fun e w' => e = .returned (.tuple #[.string o, .bool true]) ∧ Below w.heap.size w w' := by
  have hs : (o ++ ⟨#[10]⟩ : ByteArray).size = o.size + 1 := by rw [ByteArray.size_append]; rfl
  have h1 : o.size = o.data.toList.length := by simp
  refine one_ok s o (o ++ ⟨#[10]⟩) o.size hs ho ?_ ?_ w hr
  · have h2 : (o ++ ⟨#[10]⟩ : ByteArray).extract 0 o.size = ba o.data.toList := by
      refine ba_inj ?_
      rw [Lib.extract_data, append_list, h1]
      simp
    rw [h2]; exact (ba_inj rfl).symm
  · have h3 := getD_get (o ++ ⟨#[10]⟩) o.size (by omega)
    rw [← h3, append_list, h1, List.getD_eq_getElem?_getD, List.getElem?_append_right (Nat.le_refl _)]
    simp
theorem hash_run (x : ByteArray) (h0 : x.data.toList ≠ []) (hx : x.size ≤ 2000) (hw : ∀ b ∈ x.data.toList, 32 < b.toNat) (w : World) (mx : Int) (hm : w.cell? ⟨0, 0, none⟩ = some (.int .i64 mx)) :
    Calls Tryz.prog 13 #[.string ((⟨#[104, 97, 115, 104, 32]⟩ : ByteArray) ++ x)] w fun e w' => e = .returned (.tuple #[.string (hexS (hashS x) ++ ⟨#[10]⟩), .int .i64 0]) ∧ Below w.heap.size w w' := by
  have hs : (⟨#[104, 97, 115, 104, 32]⟩ : ByteArray) ++ x = ba ([104, 97, 115, 104] ++ ([32] ++ x.data.toList)) := by
    refine ba_inj ?_
    rw [append_list]
    rfl
  have hl : lns ((⟨#[104, 97, 115, 104, 32]⟩ : ByteArray) ++ x) = [(⟨#[104, 97, 115, 104, 32]⟩ : ByteArray) ++ x] := by
    rw [hs]
    refine lns_one _ fun b hb => ?_
    rcases List.mem_append.1 hb with hb | hb
    · rintro rfl; revert hb; decide
    · rcases List.mem_append.1 hb with hb | hb
      · rintro rfl; revert hb; decide
      · rintro rfl; have := hw _ hb; revert this; decide
  have hf : flds ((⟨#[104, 97, 115, 104, 32]⟩ : ByteArray) ++ x) = [⟨#[104, 97, 115, 104]⟩, x] := by
    rw [hs, flds_two _ _ _ (by simp) (by simp) h0 (by decide) (by decide) hw]
    have : ba x.data.toList = x := (ba_inj rfl).symm
    rw [this]; rfl
  refine run_ok2 _ w (by rw [ByteArray.size_append]; have : (⟨#[104, 97, 115, 104, 32]⟩ : ByteArray).size = 5 := rfl; omega) mx hm _ hl [some (hexS (hashS x))] rfl (fun i h => ?_) _ (jt_one _) (by rw [ByteArray.size_append, hexS_size]; decide)
  match i, h with
  | 0, _ => exact tells_of hf _ _ rfl 104 rfl (by decide) fun W A B h => line_hash x (by omega) W A B h
theorem all_next (d : ByteArray) (i : Nat) (h : i < d.size) (hall : ∀ b ∈ d.data.toList.take i, 32 < b.toNat) (h1 : 32 < d[i].toNat) : ∀ b ∈ d.data.toList.take (i + 1), 32 < b.toNat := by
  have hl : i < d.data.toList.length := by simpa using h
  intro x hx
  rw [List.take_succ_eq_append_getElem hl] at hx
  rcases List.mem_append.1 hx with hx | hx
  · exact hall x hx
  · rw [List.mem_singleton] at hx
    rw [hx]; exact h1
set_option maxHeartbeats 1000000 in
set_option maxRecDepth 100000 in
theorem hashes_ok (x : ByteArray) (w : World) (mx : Int) (hm : w.cell? ⟨0, 0, none⟩ = some (.int .i64 mx)) (hw0 : 0 < w.heap.size) (hxs : x.size ≤ 9223372036854775807) : Calls Tryz.prog 3 #[.string x] w fun e w' => e = .returned (.bool true) ∧ Below w.heap.size w w' := by
  have ha := awake_ok w mx hm
  refine calls_of_wpN Tryz.func3 rfl ?_
  simp only [Tryz.ntmps3, List.size_toArray, List.length_cons, List.length_nil, Nat.reduceAdd, Nat.reduceSub, Array.replicate_succ,
     Array.replicate_zero, List.push_toArray, List.append_toArray, List.nil_append, List.cons_append]
  refine wpN_seq (of_wp ?_)
  go_wp2
  refine wpN_seq (wpN_seq (of_wp ?_))
  go_wp2_with (go_at_call 6; refine ha.mono ?_; rintro e W1 ⟨rfl, hb1⟩; clear ha)
  refine of_wp ?_
  go_wp2
  refine wpN_seq ?_
  refine wpN_seq (of_wp ?_)
  go_wp2
  refine wpN_block (wpN_loop (fun a W => ∃ (i : Nat) (u1 u4 u5 u6 u7 u8 u9 u10 u11 u12 u13 u14 u15 u16 u17 u18 u19 u20 u21 u22 u23 u24 u25 u26 u27 u28 u29 u30 u31 u32 u33 u34 u35 u36 u37 : Value), i ≤ x.size ∧ i ≤ 1001 ∧ (∀ b ∈ x.data.toList.take i, 32 < b.toNat) ∧ W = W1 ∧ a = { tmps := #[.string x, u1, .bool false, .int .i64 (i : Nat), u4, u5, u6, u7, u8, u9, u10, u11, u12, u13, u14, u15, u16, u17, u18, u19, u20, u21, u22, u23, u24, u25, u26, u27, u28, u29, u30, u31, u32, u33, u34, u35, u36, u37], defers := [] }) (fun a _ => x.size - at3 a) ?_ ?_)
  · exact ⟨0, _, _, _, _, _, _, _, _, _, _, _, _, _, _, _, _, _, _, _, _, _, _, _, _, _, _, _, _, _, _, _, _, _, _, _, Nat.zero_le _, by decide, by simp, rfl, rfl⟩
  · rintro a W ⟨i, u1, u4, u5, u6, u7, u8, u9, u10, u11, u12, u13, u14, u15, u16, u17, u18, u19, u20, u21, u22, u23, u24, u25, u26, u27, u28, u29, u30, u31, u32, u33, u34, u35, u36, u37, hi, hi2, hall, hW, rfl⟩
    have h9 := hW.symm
    clear hW
    subst h9
    refine wpN_seq ?_
    refine wpN_seq (of_wp ?_)
    go_wp2
    refine of_wp ?_
    go_wp2
    · rename_i hlt
      have hi' : i < x.size := by omega
      refine wpN_seq (wpN_block ?_)
      refine wpN_seq (of_wp ?_)
      go_wp2
      · refine of_wp ?_
        go_wp2
        go_ret
        exact ⟨rfl, hb1⟩
      · rename_i hc1
        by_cases hc2 : 1000 < i
        · refine wpN_cond (t := true) (by simp [Act.eval]; try omega) ?_
          rw [if_pos rfl]
          refine of_wp ?_
          go_wp2
          go_ret
          exact ⟨rfl, hb1⟩
        refine wpN_cond (t := false) (by simp [Act.eval]; try omega) ?_
        rw [if_neg (by simp)]
        refine of_wp ?_
        go_wp2
        refine of_wp ?_
        go_wp2
        exact ⟨⟨i + 1, by omega, by omega, all_next x i hi' hall (by omega), by trivial, _, _, _, _, _, _, _, _, _, _, _, _, _, _, _, _, _, _, _, _, _, _, _, _, _, _, _, _, _, _, _, _, _, _, _, rfl⟩, by simp [at3]; omega⟩
    · rename_i hge
      have hi3 : i = x.size := by omega
      subst hi3
      rw [List.take_of_length_le (by simp)] at hall
      have hm1 : W1.cell? ⟨0, 0, none⟩ = some (.int .i64 mx) := (hb1.cell hw0).trans hm
      refine wpN_seq ?_
      refine wpN_seq (of_wp ?_)
      by_cases h0 : x.data.toList = []
      · have hx0 : x = ⟨#[]⟩ := ba_inj h0
        subst hx0
        go_wp2
        refine of_wp ?_
        go_wp2
        go_ret
        exact ⟨rfl, hb1⟩
      have hx0 : x.toList.isEmpty = false := by
        rw [ByteArray.toList_eq]
        cases hq : x.data.toList
        · exact absurd hq h0
        · rfl
      go_wp2
      refine of_wp ?_
      go_wp2
      have hro := fun W (hW : W.cell? ⟨0, 0, none⟩ = some (.int .i64 mx)) => one_of _ (hexS (hashS x)) (by rw [hexS_size]; decide) W (hash_run x h0 (by omega) hall W mx hW)
      have hbh := hashS_range x
      obtain ⟨hr1, hr2⟩ := hbh
      refine wpN_seq (of_wp ?_)
      go_wp2_with (go_at_call 7; refine (hro _ hm1).mono ?_; rintro e W3 ⟨rfl, hb3⟩)
      refine wpN_seq (of_wp ?_)
      go_wp2_with (first | (go_at_call 9; refine (hash_ok x (by omega) _).mono ?_; rintro e W4 ⟨rfl, hW4⟩; have h9 := hW4.symm; clear hW4; subst h9) | (go_at_call 8; refine (hex_ok (hashS x) hr1 hr2 _).mono ?_; rintro e W5 ⟨rfl, hb5⟩))
      refine of_wp ?_
      go_wp2

      go_ret
      exact ⟨rfl, (hb1.trans (hb3.mono hb1.size)).trans (hb5.mono (Nat.le_trans hb1.size hb3.size))⟩
end Go.Kn
