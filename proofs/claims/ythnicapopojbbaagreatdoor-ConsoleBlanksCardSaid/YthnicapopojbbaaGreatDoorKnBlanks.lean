import Derived.Test.YthnicapopojbbaaGreatDoorKnNums
import Derived.Test.YthnicapopojbbaaGreatDoorKnBlk
namespace Go.Kn
open Go Go.Conc Go.Proofs Go.RowKit
set_option linter.unusedVariables false
set_option linter.unusedSimpArgs false
def Blk (l : List UInt8) : Prop := l ≠ [] ∧ l.length ≤ 3 ∧ ∀ b ∈ l, b.toNat = 32 ∨ b.toNat = 9
theorem Blk.no_nl {l : List UInt8} (h : Blk l) : ∀ b ∈ l, b ≠ 10 := by
  intro b hb he
  subst he
  rcases h.2.2 _ hb with h | h <;> revert h <;> decide
theorem i64_and3 (n : Int) : bits .and .i64 n 3 = n % 4 := by
  have h127 : (BitVec.ofInt 64 3).toNat = 2 ^ 2 - 1 := by decide
  have key : (BitVec.ofInt 64 n &&& BitVec.ofInt 64 3).toNat = (n % ((2 ^ 64 : Nat) : Int)).toNat % 2 ^ 2 := by
    rw [BitVec.toNat_and, BitVec.toNat_ofInt, h127, Nat.and_two_pow_sub_one_eq_mod]
  show IntKind.i64.wrap ((BitVec.ofInt 64 n &&& BitVec.ofInt 64 3).toNat : Nat) = n % 4
  rw [key, IntKind.wrap_i64]
  omega
theorem flds_mark : flds (ba [35, 32, 99]) = [ba [35], ba [99]] :=
  flds_two [35] [32] [99] (by simp) (by simp) (by simp) (by decide) (by decide) (by decide)
def bScript (k : Int) (l : List UInt8) : ByteArray := ba ([35, 32, 99] ++ 10 :: ([] ++ 10 :: ((l ++ ([110, 117, 109] ++ (l ++ ((dec k).data.toList ++ l)))) ++ 10 :: (l ++ 10 :: []))))
theorem bScript_lns (k : Int) (l : List UInt8) (hl : Blk l) : lns (bScript k l) = [ba [35, 32, 99], ba [], ba (l ++ ([110, 117, 109] ++ (l ++ ((dec k).data.toList ++ l)))), ba l, ba []] := by
  have hn := hl.no_nl
  have hd := dec_chars k
  unfold bScript
  rw [lns_cons _ _ (by decide), lns_cons _ _ (by simp), lns_cons _ _ ?_, lns_cons _ _ hn, lns_one _ (by simp)]
  intro b hb
  simp only [List.mem_append] at hb
  rcases hb with hb | hb | hb | hb | hb
  · exact hn b hb
  · rintro rfl; revert hb; decide
  · exact hn b hb
  · rintro rfl; have := (hd _ hb).1; revert this; decide
  · exact hn b hb
theorem bScript_size (k : Int) (h1 : -10000000000 < k) (h2 : k < 10000000000) (l : List UInt8) (hl : Blk l) : (bScript k l).size ≤ 65536 := by
  have h3 := dec_size k h1 h2
  have h4 : (dec k).size = (dec k).data.toList.length := by simp
  have h5 := hl.2.1
  unfold bScript
  rw [ba_size]
  simp only [List.length_append, List.length_cons, List.length_nil]
  omega
theorem blanks_run (k : Int) (h1 : -10000000000 < k) (h2 : k < 10000000000) (l : List UInt8) (hl : Blk l) (w : World) (mx : Int) (hm : w.cell? ⟨0, 0, none⟩ = some (.int .i64 mx)) :
    Calls Tryz.prog 13 #[.string (bScript k l)] w fun e w' => e = .returned (.tuple #[.string (hexOf (putS k) ++ ⟨#[10]⟩), .int .i64 0]) ∧ Below w.heap.size w w' := by
  have hch := dec_chars k
  have hsz := dec_size k h1 h2
  have hf : flds (ba (l ++ ([110, 117, 109] ++ (l ++ ((dec k).data.toList ++ l))))) = [⟨#[110, 117, 109]⟩, dec k] := by
    rw [flds_five _ _ _ _ _ hl.1 (by simp) hl.1 (dec_ne k) hl.1 hl.2.2 (by decide) hl.2.2 hch hl.2.2, ba_of]
    rfl
  have hos := hexOf_size (putS k)
  have hps := putS_ten k
  refine run_ok2 _ w (bScript_size k h1 h2 l hl) mx hm _ (bScript_lns k l hl) [none, none, some (hexOf (putS k)), none, none] rfl (fun i h => ?_) _ (jt_one _) (by rw [ByteArray.size_append]; have : (⟨#[10]⟩ : ByteArray).size = 1 := rfl; omega)
  match i, h with
  | 0, _ => exact .mark _ _ flds_mark rfl
  | 1, _ => exact .empty (spans_blank [] (by simp))
  | 2, _ => exact tells_of hf _ _ rfl 110 rfl (by decide) fun W A B h => line_num (dec k) (by omega) k (nums_dec k h1 h2) (by omega) (by omega) W A B h
  | 3, _ => exact .empty (spans_blank l hl.2.2)
  | 4, _ => exact .empty (spans_blank [] (by simp))
theorem rem_range5 (x : Int) : -100000 < x.tmod 100000 ∧ x.tmod 100000 < 100000 := by
  have h1 := Int.tmod_lt_of_pos x (b := 100000) (by decide)
  have h2 := Int.lt_tmod_of_pos x (b := 100000) (by decide)
  omega
theorem script_eq (k : Int) (l : List UInt8) : ((((((((⟨#[35, 32, 99, 10, 10]⟩ : ByteArray) ++ ba l) ++ ⟨#[110, 117, 109]⟩) ++ ba l) ++ dec k) ++ ba l) ++ ⟨#[10]⟩) ++ ba l) ++ ⟨#[10]⟩ = bScript k l := by
  refine ba_inj ?_
  simp only [append_list]
  simp [ba]
set_option maxHeartbeats 1000000 in
set_option maxRecDepth 100000 in
theorem blanks_ok (x y : Int) (hx1 : -9223372036854775808 ≤ x) (hx2 : x ≤ 9223372036854775807) (hy1 : -9223372036854775808 ≤ y) (hy2 : y ≤ 9223372036854775807) (w : World) (mx : Int) (hm : w.cell? ⟨0, 0, none⟩ = some (.int .i64 mx)) (hw0 : 0 < w.heap.size) : Calls Tryz.prog 5 #[.int .i64 x, .int .i64 y] w fun e w' => e = .returned (.bool true) ∧ Below w.heap.size w w' := by
  have ha := awake_ok w mx hm
  obtain ⟨k, hk⟩ : ∃ k, x.tmod 100000 = k := ⟨_, rfl⟩
  obtain ⟨hk1, hk2⟩ : -10000000000 < k ∧ k < 10000000000 := by
    have := rem_range5 x
    omega
  have hds := dec_size k hk1 hk2
  refine calls_of_wpN Tryz.func5 rfl ?_
  simp only [Tryz.ntmps5, List.size_toArray, List.length_cons, List.length_nil, Nat.reduceAdd, Nat.reduceSub, Array.replicate_succ,
     Array.replicate_zero, List.push_toArray, List.append_toArray, List.nil_append, List.cons_append]
  refine wpN_seq (of_wp ?_)
  go_wp2
  refine wpN_seq (wpN_seq (of_wp ?_))
  go_wp2_with (go_at_call 6; refine ha.mono ?_; rintro e W1 ⟨rfl, hb1⟩; clear ha)
  refine of_wp ?_
  go_wp2
  have hm1 : W1.cell? ⟨0, 0, none⟩ = some (.int .i64 mx) := (hb1.cell hw0).trans hm
  have hw1 : 0 < W1.heap.size := Nat.lt_of_lt_of_le hw0 hb1.size
  refine wpN_seq (of_wp ?_)
  go_wp2_with (go_at_call 10; refine (dec_ok k (by omega) (by omega) _).mono ?_; rintro e W3 ⟨rfl, hb3⟩)
  have hm3 : W3.cell? ⟨0, 0, none⟩ = some (.int .i64 mx) := (hb3.cell hw1).trans hm1
  have hb13 : Below w.heap.size w W3 := hb1.trans (hb3.mono hb1.size)
  have hw3 : 0 < W3.heap.size := Nat.lt_of_lt_of_le hw0 hb13.size
  clear hb3 hm1 hw1 hb1
  refine wpN_mid (fun a W => ∃ (l : List UInt8) (u2 u3 u7 u8 u9 u10 u11 u12 u13 u14 u15 u16 u17 u18 u19 u20 u21 u22 u23 u24 u25 u26 u27 u28 u29 u30 u31 u32 u33 u34 u35 u36 u37 u38 u39 u40 u41 u42 u43 u44 u45 u46 u47 u48 u49 u50 u51 u52 u53 u54 u55 u56 : Value), Blk l ∧ Below w.heap.size w W ∧ W.cell? ⟨0, 0, none⟩ = some (.int .i64 mx) ∧ a = { tmps := #[.int .i64 x, .int .i64 y, u2, u3, .bool false, .string (dec k), .string (ba l), u7, u8, u9, u10, u11, u12, u13, u14, u15, u16, u17, u18, u19, u20, u21, u22, u23, u24, u25, u26, u27, u28, u29, u30, u31, u32, u33, u34, u35, u36, u37, u38, u39, u40, u41, u42, u43, u44, u45, u46, u47, u48, u49, u50, u51, u52, u53, u54, u55, u56], defers := [] }) ?_ ?_
  · have h4 := i64_and3 y
    have hb5 := hb13.alloc (by have := hb13.size; omega) (.cells #[.string ⟨#[32]⟩, .string ⟨#[9]⟩, .string ⟨#[32, 32]⟩, .string ⟨#[32, 9, 32]⟩] 9)
    have hm5 : (W3.alloc (.cells #[.string ⟨#[32]⟩, .string ⟨#[9]⟩, .string ⟨#[32, 32]⟩, .string ⟨#[32, 9, 32]⟩] 9)).cell? ⟨0, 0, none⟩ = some (.int .i64 mx) := (hb5.cell hw0).trans hm
    have hc : y % 4 = 0 ∨ y % 4 = 1 ∨ y % 4 = 2 ∨ y % 4 = 3 := by omega
    rcases hc with hc | hc | hc | hc <;> rw [hc] at h4 <;> clear hc
    · refine of_wp ?_
      go_wp2
      exact ⟨[32], _, _, _, _, _, _, _, _, _, _, _, _, _, _, _, _, _, _, _, _, _, _, _, _, _, _, _, _, _, _, _, _, _, _, _, _, _, _, _, _, _, _, _, _, _, _, _, _, _, _, _, _, by unfold Blk; decide, hb5, hm5, rfl⟩
    · refine of_wp ?_
      go_wp2
      exact ⟨[9], _, _, _, _, _, _, _, _, _, _, _, _, _, _, _, _, _, _, _, _, _, _, _, _, _, _, _, _, _, _, _, _, _, _, _, _, _, _, _, _, _, _, _, _, _, _, _, _, _, _, _, _, by unfold Blk; decide, hb5, hm5, rfl⟩
    · refine of_wp ?_
      go_wp2
      exact ⟨[32, 32], _, _, _, _, _, _, _, _, _, _, _, _, _, _, _, _, _, _, _, _, _, _, _, _, _, _, _, _, _, _, _, _, _, _, _, _, _, _, _, _, _, _, _, _, _, _, _, _, _, _, _, _, by unfold Blk; decide, hb5, hm5, rfl⟩
    · refine of_wp ?_
      go_wp2
      exact ⟨[32, 9, 32], _, _, _, _, _, _, _, _, _, _, _, _, _, _, _, _, _, _, _, _, _, _, _, _, _, _, _, _, _, _, _, _, _, _, _, _, _, _, _, _, _, _, _, _, _, _, _, _, _, _, _, _, by unfold Blk; decide, hb5, hm5, rfl⟩
  clear hb13 hm3 hw3
  rintro a W ⟨l, u2, u3, u7, u8, u9, u10, u11, u12, u13, u14, u15, u16, u17, u18, u19, u20, u21, u22, u23, u24, u25, u26, u27, u28, u29, u30, u31, u32, u33, u34, u35, u36, u37, u38, u39, u40, u41, u42, u43, u44, u45, u46, u47, u48, u49, u50, u51, u52, u53, u54, u55, u56, hl, hb, hmW, rfl⟩
  have hw5 : 0 < W.heap.size := Nat.lt_of_lt_of_le hw0 hb.size
  have hbs := bScript_size k hk1 hk2 l hl
  have hse := script_eq k l
  have hls : (ba l).size ≤ 3 := by rw [ba_size]; exact hl.2.1
  have hr1 := blanks_run k hk1 hk2 l hl W mx hmW
  refine wpN_seq (of_wp ?_)
  go_wp2_with (go_at_call 13; go_loud (refine hr1.mono ?_); rintro e W6 ⟨rfl, hb6⟩)
  have hm6 : W6.cell? ⟨0, 0, none⟩ = some (.int .i64 mx) := (hb6.cell hw5).trans hmW
  have hb16 : Below w.heap.size w W6 := hb.trans (hb6.mono hb.size)
  have hr2 := nums_run k hk1 hk2 W6 mx hm6
  clear hr1 hse hb6 hmW hb
  refine wpN_seq (of_wp ?_)
  go_wp2_with (go_at_call 13; go_loud (refine hr2.mono ?_); rintro e W7 ⟨rfl, hb7⟩)
  have hb17 : Below w.heap.size w W7 := hb16.trans (hb7.mono hb16.size)
  clear hr2 hb7 hb16
  refine wpN_seq (of_wp ?_)
  go_wp2_with (go_at_call 14; refine (num_ok _).mono ?_; rintro e W8 ⟨rfl, hW8⟩; have h9 := hW8.symm; clear hW8; subst h9)
  refine of_wp ?_
  go_wp2
  go_ret
  exact ⟨rfl, hb17⟩
end Go.Kn
