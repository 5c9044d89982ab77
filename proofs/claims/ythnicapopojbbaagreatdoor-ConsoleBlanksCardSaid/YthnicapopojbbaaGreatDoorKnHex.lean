import Derived.Test.YthnicapopojbbaaGreatDoorKnSum
import Derived.Test.YthnicapopojbbaaGreatDoorKnLay2
namespace Go.Kn
open Go Go.Conc Go.Proofs Go.RowKit
set_option linter.unusedVariables false
set_option linter.unusedSimpArgs false

theorem extra167 : Builder.Extra Tryz.prog lays167_ren where
  sizeBuilder := by kernel_rfl
  liesBuilder := by kernel_rfl
  t5 := by kernel_rfl
  a5 := fun w => by kernel_rfl
  z5 := fun w => by kernel_rfl
  v5 := fun w => by kernel_rfl
  infoByte := by kernel_rfl
  cellsByte := by kernel_rfl
  sizeByte := by kernel_rfl
  neB5 := by decide
theorem knWriteByte (B b : Nat) (bs : List Value) (c : Int) (w : World) (h : Lib.IsBuilder 48 5 B b bs w) (hlen : bs.length + 1 ≤ 140737488355328) (hBw : B ≤ w.heap.size) :
    Calls Tryz.prog 37 #[.pointer (some ⟨b, 0, none⟩), .int .u8 c] w fun e w' => e = .returned .nilIface ∧ (Lib.BuilderAt 48 5 B b (.pointer (some ⟨b, 0, none⟩)) (bs ++ [.int .u8 c]) w' ∧ Below B w w') := Any.Builder_WriteByte lays167 extra167 B b bs c w h hlen hBw
def hd (k : Nat) : UInt8 := hexDigits.data.toList.getD k 0
theorem hd_eq (k : Nat) (h : k < 16) : hd k = (⟨#[48, 49, 50, 51, 52, 53, 54, 55, 56, 57, 97, 98, 99, 100, 101, 102]⟩ : ByteArray)[k]'h := by
  have hl : k < hexDigits.data.toList.length := h
  unfold hd
  rw [List.getD_eq_getElem?_getD, List.getElem?_eq_getElem hl]
  rfl
theorem and15 (b : UInt8) : bits BinOp.and IntKind.u8 (b.toNat : Int) 15 = ((b.toNat % 16 : Nat) : Int) := by
  rw [show (15 : Int) = ((15 : Nat) : Int) from rfl, u8_and_nat _ 15 b.toNat_lt (by decide)]
  rw [show (15 : Nat) = 2 ^ 4 - 1 from rfl, Nat.and_two_pow_sub_one_eq_mod]
def hex2 (b : UInt8) : List UInt8 := [hd (b.toNat / 16), hd (b.toNat % 16)]
def hexT (s : ByteArray) (i : Nat) : List UInt8 := (s.data.toList.take i).flatMap hex2
theorem hexT_succ (s : ByteArray) (i : Nat) (h : i < s.size) : hexT s (i + 1) = hexT s i ++ [hd (s[i].toNat / 16)] ++ [hd (s[i].toNat % 16)] := by
  have hl : i < s.data.toList.length := by simpa using h
  unfold hexT
  rw [List.take_succ_eq_append_getElem hl, List.flatMap_append]
  simp [hex2]
  exact ⟨rfl, rfl⟩
theorem hexT_length (s : ByteArray) (i : Nat) : (hexT s i).length ≤ 2 * i := by
  unfold hexT
  have : ∀ l : List UInt8, (l.flatMap hex2).length = 2 * l.length := by
    intro l
    induction l with
    | nil => rfl
    | cons b r ih => rw [List.flatMap_cons, List.length_append, ih]; simp [hex2]; omega
  rw [this, List.length_take]; omega
def hexOf (s : ByteArray) : ByteArray := ⟨(hexT s s.size).toArray⟩
theorem hdPut (B : Nat) (l : List UInt8) (c c' : UInt8) (hcc : c = c') (w : World) (h : Lib.IsBuilder 48 5 B B (Lib.byteCells l) w) (hlen : l.length ≤ 1000000000) (hBw : B ≤ w.heap.size) :
    Calls Tryz.prog 37 #[.pointer (some ⟨B, 0, none⟩), .int .u8 c'.toNat] w fun e w' => e = .returned .nilIface ∧ (Lib.IsBuilder 48 5 B B (Lib.byteCells (l ++ [c])) w' ∧ Below B w w') := by
  subst hcc
  have h4 : (Lib.byteCells l).length = l.length := by simp [Lib.byteCells]
  refine (knWriteByte B B (Lib.byteCells l) c.toNat w h (by rw [h4]; omega) hBw).mono ?_
  rintro e w' ⟨h1, h2, h3⟩
  have h7 : Lib.byteCells (l ++ [c]) = Lib.byteCells l ++ [.int .u8 c.toNat] := by simp [Lib.byteCells]
  rw [h7]
  exact ⟨h1, .inr h2, h3⟩
set_option maxHeartbeats 1000000 in
set_option maxRecDepth 100000 in
theorem chex_ok (s : ByteArray) (hs : s.size ≤ 1000000) (w : World) : Calls Tryz.prog 24 #[.string s] w fun e w' => e = .returned (.string (hexOf s)) ∧ Below w.heap.size w w' := by
  refine calls_of_wpN Tryz.func24 rfl ?_
  simp only [Tryz.ntmps24, List.size_toArray, List.length_cons, List.length_nil, Nat.reduceAdd, Nat.reduceSub, Array.replicate_succ,
     Array.replicate_zero, List.push_toArray, List.append_toArray, List.nil_append, List.cons_append]
  refine wpN_seq (of_wp ?_)
  go_wp2
  refine wpN_seq (of_wp ?_)
  go_wp2
  refine wpN_seq ?_
  refine wpN_seq (of_wp ?_)
  go_wp2
  refine wpN_block (wpN_loop (fun a W => ∃ (i : Nat) (u1 u4 u8 u9 u10 u11 u12 u13 u14 u15 u16 u17 u18 u19 u20 u21 u22 u23 : Value), i ≤ s.size ∧ Below w.heap.size w W ∧ Lib.IsBuilder 48 5 w.heap.size w.heap.size (Lib.byteCells (hexT s i)) W ∧ a = { tmps := #[.string s, u1, .string ⟨#[]⟩, .pointer (some ⟨w.heap.size, 0, none⟩), u4, .string s, .int .i64 (s.size : Nat), .int .i64 (i : Nat), u8, u9, u10, u11, u12, u13, u14, u15, u16, u17, u18, u19, u20, u21, u22, u23], defers := [] }) (fun a _ => s.size - at7 a) ?_ ?_)
  · exact ⟨0, _, _, _, _, _, _, _, _, _, _, _, _, _, _, _, _, _, _, Nat.zero_le _, (Below.refl _ w).alloc (Nat.le_refl _) _, Lib.fresh_isBuilder 48 5 w, rfl⟩
  · rintro a W ⟨i, u1, u4, u8, u9, u10, u11, u12, u13, u14, u15, u16, u17, u18, u19, u20, u21, u22, u23, hi, hb, hW, rfl⟩
    have hWs := hb.size
    refine wpN_seq (of_wp ?_)
    go_wp2
    refine wpN_seq (of_wp ?_)
    go_wp2
    · rename_i hlt
      have hi' : i < s.size := by omega
      have hll := hexT_length s i
      have hsu := hexT_succ s i hi'
      have hlt256 : s[i].toNat < 256 := s[i].toNat_lt
      have p1 := hdPut w.heap.size (hexT s i) (hd (s[i].toNat / 16)) _ (hd_eq _ (by omega)) W hW (by omega) (by omega)
      have p2 := fun (W2 : World) (hW2 : Lib.IsBuilder 48 5 w.heap.size w.heap.size (Lib.byteCells (hexT s i ++ [hd (s[i].toNat / 16)])) W2) (hb2 : w.heap.size ≤ W2.heap.size) => hdPut w.heap.size (hexT s i ++ [hd (s[i].toNat / 16)]) (hd (s[i].toNat % 16)) _ (hd_eq _ (by omega)) W2 hW2 (by rw [List.length_append]; simp; omega) hb2
      have hand := and15 s[i]
      refine wpN_seq (wpN_block ?_)
      refine wpN_seq (of_wp ?_)
      go_wp2
      refine wpN_seq (of_wp ?_)
      go_wp2_with (go_at_call 37; refine p1.mono ?_; rintro e W2 ⟨rfl, hW2, hb2⟩)
      have hs2 := hb2.size
      refine of_wp ?_
      go_wp2_with (go_at_call 37; go_loud (refine (p2 W2 hW2 (by omega)).mono ?_); rintro e W3 ⟨rfl, hW3, hb3⟩)
      refine of_wp ?_
      go_wp2
      exact ⟨⟨i + 1, _, _, _, _, _, _, _, _, _, _, _, _, _, _, _, _, _, _, by omega, hb.trans (hb2.trans hb3), by rw [hsu]; exact hW3, rfl⟩, by simp [at7]; omega⟩
    · have hi2 : i = s.size := by omega
      subst hi2
      have p3 := knString w.heap.size w.heap.size (hexT s s.size) W hW hWs
      refine wpN_seq (of_wp ?_)
      go_wp2_with (go_at_call 21; refine p3.mono ?_; rintro e W2 ⟨rfl, hb2⟩)
      refine of_wp ?_
      go_wp2
      go_ret
      exact ⟨rfl, hb.trans hb2⟩
end Go.Kn
