import Derived.Test.YthnicapopojbbaaGreatDoorKnOne
import Derived.Test.YthnicapopojbbaaGreatDoorKnDec
import Derived.Test.YthnicapopojbbaaGreatDoorKnLhx
namespace Go.Kn
open Go Go.Conc Go.Proofs Go.RowKit
set_option linter.unusedVariables false
set_option linter.unusedSimpArgs false
theorem ba_of (x : ByteArray) : ba x.data.toList = x := (ba_inj rfl).symm
theorem hexOf_size (s : ByteArray) : (hexOf s).size ≤ 2 * s.size := by
  have := hexT_length s s.size
  have h2 : (hexOf s).size = (hexT s s.size).length := List.size_toArray
  omega
theorem putS_len (k : Int) : (putS k).size = (putF 10 (zig k)).length := List.size_toArray
theorem putS_ten (k : Int) : (putS k).size ≤ 10 := by rw [putS_len]; exact putF_length _ _
theorem putF_ne (f q : Nat) : (putF (f + 1) q).length ≠ 0 := by
  rw [putF]
  split <;> simp
theorem putS_ne (k : Int) : (putS k).size ≠ 0 := by rw [putS_len]; exact putF_ne 9 _
theorem nums_run (k : Int) (h1 : -10000000000 < k) (h2 : k < 10000000000) (w : World) (mx : Int) (hm : w.cell? ⟨0, 0, none⟩ = some (.int .i64 mx)) :
    Calls Tryz.prog 13 #[.string ((⟨#[110, 117, 109, 32]⟩ : ByteArray) ++ dec k)] w fun e w' => e = .returned (.tuple #[.string (hexOf (putS k) ++ ⟨#[10]⟩), .int .i64 0]) ∧ Below w.heap.size w w' := by
  have hch := dec_chars k
  have hsz := dec_size k h1 h2
  have hs : (⟨#[110, 117, 109, 32]⟩ : ByteArray) ++ dec k = ba ([110, 117, 109] ++ ([32] ++ (dec k).data.toList)) := by
    refine ba_inj ?_
    rw [append_list]
    rfl
  have hl : lns ((⟨#[110, 117, 109, 32]⟩ : ByteArray) ++ dec k) = [(⟨#[110, 117, 109, 32]⟩ : ByteArray) ++ dec k] := by
    rw [hs]
    refine lns_one _ fun b hb => ?_
    rcases List.mem_append.1 hb with hb | hb
    · rintro rfl; revert hb; decide
    · rcases List.mem_append.1 hb with hb | hb
      · rintro rfl; revert hb; decide
      · rintro rfl; have := (hch _ hb).1; revert this; decide
  have hf : flds ((⟨#[110, 117, 109, 32]⟩ : ByteArray) ++ dec k) = [⟨#[110, 117, 109]⟩, dec k] := by
    rw [hs, flds_two _ _ _ (by simp) (by simp) (dec_ne k) (by decide) (by decide) (fun b hb => (hch b hb).1), ba_of]
    rfl
  have hos := hexOf_size (putS k)
  have hps := putS_ten k
  refine run_ok2 _ w (by rw [ByteArray.size_append]; have : (⟨#[110, 117, 109, 32]⟩ : ByteArray).size = 4 := rfl; omega) mx hm _ hl [some (hexOf (putS k))] rfl (fun i h => ?_) _ (jt_one _) (by rw [ByteArray.size_append]; have : (⟨#[10]⟩ : ByteArray).size = 1 := rfl; omega)
  match i, h with
  | 0, _ => exact tells_of hf _ _ rfl 110 rfl (by decide) fun W A B h => line_num (dec k) (by omega) k (nums_dec k h1 h2) (by omega) (by omega) W A B h
theorem rem_range (x : Int) : -10000000000 < x.tmod 10000000000 ∧ x.tmod 10000000000 < 10000000000 := by
  have h1 := Int.tmod_lt_of_pos x (b := 10000000000) (by decide)
  have h2 := Int.lt_tmod_of_pos x (b := 10000000000) (by decide)
  omega
set_option maxHeartbeats 1000000 in
set_option maxRecDepth 100000 in
theorem nums_ok (x : Int) (hx1 : -9223372036854775808 ≤ x) (hx2 : x ≤ 9223372036854775807) (w : World) (mx : Int) (hm : w.cell? ⟨0, 0, none⟩ = some (.int .i64 mx)) (hw0 : 0 < w.heap.size) : Calls Tryz.prog 4 #[.int .i64 x] w fun e w' => e = .returned (.bool true) ∧ Below w.heap.size w w' := by
  have ha := awake_ok w mx hm
  obtain ⟨k, hk⟩ : ∃ k, x.tmod 10000000000 = k := ⟨_, rfl⟩
  obtain ⟨hk1, hk2⟩ : -10000000000 < k ∧ k < 10000000000 := hk ▸ rem_range x
  have hds := dec_size k hk1 hk2
  have hps := putS_ten k
  have hos := hexOf_size (putS k)
  refine calls_of_wpN Tryz.func4 rfl ?_
  simp only [Tryz.ntmps4, List.size_toArray, List.length_cons, List.length_nil, Nat.reduceAdd, Nat.reduceSub, Array.replicate_succ,
     Array.replicate_zero, List.push_toArray, List.append_toArray, List.nil_append, List.cons_append]
  refine wpN_seq (of_wp ?_)
  go_wp2
  refine wpN_seq (wpN_seq (of_wp ?_))
  go_wp2_with (go_at_call 6; refine ha.mono ?_; rintro e W1 ⟨rfl, hb1⟩; clear ha)
  refine of_wp ?_
  go_wp2
  have hm1 : W1.cell? ⟨0, 0, none⟩ = some (.int .i64 mx) := (hb1.cell hw0).trans hm
  have hw1 : 0 < W1.heap.size := Nat.lt_of_lt_of_le hw0 hb1.size
  refine wpN_seq (of_wp ?_)
  go_wp2
  have hro := fun W (hW : W.cell? ⟨0, 0, none⟩ = some (.int .i64 mx)) => one_of _ (hexOf (putS k)) (by omega) W (nums_run k hk1 hk2 W mx hW)
  refine wpN_seq (of_wp ?_)
  go_wp2_with (first | (go_at_call 10; refine (dec_ok k (by omega) (by omega) _).mono ?_; rintro e W3 ⟨rfl, hb3⟩) | (go_at_call 7; refine (hro W3 ((hb3.cell hw1).trans hm1)).mono ?_; rintro e W4 ⟨rfl, hb4⟩))
  have hb14 : Below w.heap.size w W4 := (hb1.trans (hb3.mono hb1.size)).trans (hb4.mono (Nat.le_trans hb1.size hb3.size))
  clear hb4 hb3 hro
  have hl := lhex_ok (putS k) (by omega) (putS_ne k)
  refine wpN_seq (of_wp ?_)
  go_wp2_with (first | (go_at_call 12; refine (put_ok k (by omega) (by omega) _).mono ?_; rintro e W5 ⟨rfl, hb5⟩) | (go_at_call 11; refine (hl _).mono ?_; rintro e W6 ⟨rfl, hb6⟩))
  refine of_wp ?_
  go_wp2
  go_ret
  exact ⟨rfl, (hb14.trans (hb5.mono hb14.size)).trans (hb6.mono (Nat.le_trans hb14.size hb5.size))⟩
end Go.Kn
