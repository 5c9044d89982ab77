import Derived.Test.YthnicapopojbbaaGreatDoorKnRun
import Derived.BigGuardPart
import Derived.Laws.IdiomStrings
import Derived.Laws.BitsAllLaws
namespace Go.Kn
open Go Go.Conc Go.Proofs Go.RowKit
set_option linter.unusedVariables false
set_option linter.unusedSimpArgs false

def hstep (x : Int) (b : UInt8) : Int := IntKind.u64.wrap (bits BinOp.xor IntKind.u64 x (IntKind.u64.wrap b.toNat) * 1099511628211)
def hS (s : ByteArray) (i : Nat) : Int := (s.data.toList.take i).foldl hstep 14695981039346656037
def hashS (s : ByteArray) : Int := hS s s.size
theorem hS_succ (s : ByteArray) (i : Nat) (h : i < s.size) : hS s (i + 1) = hstep (hS s i) s[i] := by
  have hl : i < s.data.toList.length := by simpa using h
  unfold hS
  rw [List.take_succ_eq_append_getElem hl, List.foldl_append]
  rfl
def at7 (a : Act) : Nat := match a.tmps[7]? with | some (Value.int _ k) => k.toNat | _ => 0
set_option maxHeartbeats 1000000 in
set_option maxRecDepth 100000 in
theorem hash_ok (s : ByteArray) (hs : s.size ≤ 1000000) (w : World) : Calls Tryz.prog 9 #[.string s] w fun e w' => e = .returned (.int .u64 (hashS s)) ∧ w' = w := by
  refine calls_of_wpN Tryz.func9 rfl ?_
  simp only [Tryz.ntmps9, List.size_toArray, List.length_cons, List.length_nil, Nat.reduceAdd, Nat.reduceSub, Array.replicate_succ,
     Array.replicate_zero, List.push_toArray, List.append_toArray, List.nil_append, List.cons_append]
  refine wpN_seq (of_wp ?_)
  go_wp2
  refine wpN_seq (of_wp ?_)
  go_wp2
  refine wpN_seq ?_
  refine wpN_seq (of_wp ?_)
  go_wp2
  refine wpN_block (wpN_loop (fun a W => ∃ (i : Nat) (x : Int) (u1 u4 u8 u9 u10 u11 u12 u13 u14 u15 u16 u17 u18 : Value), i ≤ s.size ∧ W = w ∧ x = hS s i ∧ a = { tmps := #[.string s, u1, .int .u64 0, .int .u64 x, u4, .string s, .int .i64 (s.size : Nat), .int .i64 (i : Nat), u8, u9, u10, u11, u12, u13, u14, u15, u16, u17, u18], defers := [] }) (fun a _ => s.size - at7 a) ?_ ?_)
  · exact ⟨0, _, _, _, _, _, _, _, _, _, _, _, _, _, _, Nat.zero_le _, by trivial, rfl, rfl⟩
  · rintro a W ⟨i, x, u1, u4, u8, u9, u10, u11, u12, u13, u14, u15, u16, u17, u18, hi, hW, hx, rfl⟩
    refine wpN_seq (of_wp ?_)
    go_wp2
    refine wpN_seq (of_wp ?_)
    go_wp2
    · rename_i hlt
      have hi' : i < s.size := by omega
      refine wpN_seq (wpN_block ?_)
      refine of_wp ?_
      go_wp2
      refine of_wp ?_
      go_wp2
      exact ⟨⟨i + 1, _, _, _, _, _, _, _, _, _, _, _, _, _, _, by omega, by trivial, by rw [hS_succ s i hi']; rfl, rfl⟩, by simp [at7]; omega⟩
    · rename_i hge
      refine of_wp ?_
      go_wp2
      go_ret
      have : i = s.size := by omega
      subst this
      exact ⟨by first | rfl | (rw [hx]; rfl), by first | trivial | exact hW⟩
def hexDigits : ByteArray := ⟨#[48, 49, 50, 51, 52, 53, 54, 55, 56, 57, 97, 98, 99, 100, 101, 102]⟩
def hexDig (x : Int) (i : Nat) : UInt8 := hexDigits.data.toList.getD (bits BinOp.and IntKind.u64 (x / 2 ^ (4 * i)) 15).toNat 0
def hexL (x : Int) : Nat → List UInt8
  | 0 => List.replicate 16 0
  | i + 1 => (hexL x i).set (15 - i) (hexDig x i)
theorem hexL_length (x : Int) : ∀ i, (hexL x i).length = 16
  | 0 => rfl
  | i + 1 => by rw [hexL, List.length_set]; exact hexL_length x i
def u8v (b : UInt8) : Value := .int .u8 b.toNat
theorem hex15 (x : Int) (hx1 : 0 ≤ x) (hx2 : x < 18446744073709551616) (i : Nat) : 0 ≤ bits BinOp.and IntKind.u64 (x / 2 ^ (4 * i)) 15 ∧ bits BinOp.and IntKind.u64 (x / 2 ^ (4 * i)) 15 < 16 := by
  have hp : (0 : Int) < 2 ^ (4 * i) := Int.pow_pos (by decide)
  have h1 : 0 ≤ x / 2 ^ (4 * i) := Int.ediv_nonneg hx1 (Int.le_of_lt hp)
  have h2 : x / 2 ^ (4 * i) ≤ x := Int.ediv_le_self _ hx1
  rw [u64_and _ 15 h1 (by omega) (by decide) (by decide)]
  have h3 : (x / 2 ^ (4 * i)).toNat &&& (15 : Int).toNat ≤ 15 := Nat.and_le_right
  omega
theorem hexDig_eq (x : Int) (i : Nat) (h : (bits BinOp.and IntKind.u64 (x / 2 ^ (4 * i)) 15).toNat < hexDigits.size) : hexDigits[(bits BinOp.and IntKind.u64 (x / 2 ^ (4 * i)) 15).toNat] = hexDig x i := by
  unfold hexDig
  have hl : (bits BinOp.and IntKind.u64 (x / 2 ^ (4 * i)) 15).toNat < hexDigits.data.toList.length := by simpa using h
  rw [List.getD_eq_getElem?_getD, List.getElem?_eq_getElem hl]
  rfl
theorem hexCell {W : World} {B : Nat} {T : TypeId} {l : List UInt8} (h : W.heap[B]? = some (.cells (l.map u8v).toArray T (0, 0))) (j : Nat) (hj : j < l.length) : W.cell? ⟨B, j, none⟩ = some (u8v l[j]) := by
  simp [World.cell?, h, hj]
theorem hexSet {W : World} {B : Nat} {T : TypeId} {l : List UInt8} (h : W.heap[B]? = some (.cells (l.map u8v).toArray T (0, 0))) (j : Nat) (b : UInt8) : (W.setCell ⟨B, j, none⟩ (u8v b)).heap[B]? = some (.cells ((l.set j b).map u8v).toArray T (0, 0)) := by
  simp [World.setCell, Array.getElem?_modify, h, List.map_set]
def hexS (x : Int) : ByteArray := ⟨(hexL x 16).toArray⟩
def at5 (a : Act) : Nat := match a.tmps[5]? with | some (Value.int _ k) => k.toNat | _ => 0
set_option maxHeartbeats 1000000 in
set_option maxRecDepth 100000 in
theorem hex_ok (x : Int) (hx1 : 0 ≤ x) (hx2 : x < 18446744073709551616) (w : World) : Calls Tryz.prog 8 #[.int .u64 x] w fun e w' => e = .returned (.string (hexS x)) ∧ Below w.heap.size w w' := by
  refine calls_of_wpN Tryz.func8 rfl ?_
  simp only [Tryz.ntmps8, List.size_toArray, List.length_cons, List.length_nil, Nat.reduceAdd, Nat.reduceSub, Array.replicate_succ,
     Array.replicate_zero, List.push_toArray, List.append_toArray, List.nil_append, List.cons_append]
  refine wpN_seq (of_wp ?_)
  go_wp2
  refine wpN_seq (of_wp ?_)
  go_wp2
  refine wpN_seq ?_
  refine wpN_seq (of_wp ?_)
  go_wp2
  refine wpN_block (wpN_loop (fun a W => ∃ (i : Nat) (u1 u4 u6 u7 u8 u9 u10 u11 u12 u13 u14 u15 u16 u17 u18 u19 : Value), i ≤ 16 ∧ Below w.heap.size w W ∧ W.heap[w.heap.size]? = some (.cells ((hexL x i).map u8v).toArray 38 (0, 0)) ∧ a = { tmps := #[.int .u64 x, u1, .string ⟨#[]⟩, .pointer (some ⟨w.heap.size, 0, none⟩), u4, .int .i64 (i : Nat), u6, u7, u8, u9, u10, u11, u12, u13, u14, u15, u16, u17, u18, u19], defers := [] }) (fun a _ => 16 - at5 a) ?_ ?_)
  · exact ⟨0, _, _, _, _, _, _, _, _, _, _, _, _, _, _, _, _, Nat.zero_le _, (Below.refl _ w).alloc (Nat.le_refl _) _, heap_alloc_new w _, rfl⟩
  · rintro a W ⟨i, u1, u4, u6, u7, u8, u9, u10, u11, u12, u13, u14, u15, u16, u17, u18, u19, hi, hb, hW, rfl⟩
    refine wpN_seq (of_wp ?_)
    go_wp2
    refine wpN_seq (of_wp ?_)
    go_wp2
    · rename_i hlt
      have hi' : i < 16 := by omega
      have hc := hexCell hW (15 - i) (by rw [hexL_length]; omega)
      have hfz : W.frozen? ⟨w.heap.size, 15 - i, none⟩ = false := by simp [World.frozen?, hW]
      obtain ⟨hq1, hq2⟩ := hex15 x hx1 hx2 i
      have hset := hexSet hW (15 - i) (hexDig x i)
      rw [← hexDig_eq x i (by show _ < 16; omega)] at hset
      refine wpN_seq (wpN_block ?_)
      refine wpN_seq (of_wp ?_)
      go_wp2
      refine of_wp ?_
      go_wp2
      refine of_wp ?_
      go_wp2
      refine ⟨⟨i + 1, _, _, _, _, _, _, _, _, _, _, _, _, _, _, _, _, by omega, hb.setCell (p := ⟨w.heap.size, 15 - i, none⟩) (Nat.le_refl _) _, ?_, rfl⟩, by simp [at5]; omega⟩
      rw [hexL, ← hexDig_eq x i (by show _ < 16; omega)]
      exact hset
    · have hi2 : i = 16 := by omega
      subst hi2
      have hcv : (convert 39 9 (.slice (some ⟨w.heap.size, 0, none⟩) 16 16)).run Tryz.prog W = .ok (.string (hexS x)) W :=
        run_convert_bytes_back W 39 9 5 ⟨w.heap.size, 0, none⟩ 16 (hexL x 16) Tryz.underlying39 Tryz.underlying5 Tryz.underlying9 (fun j hj => by
          have := hexCell hW j hj
          have ha : (⟨w.heap.size, 0, none⟩ : Addr).add j = ⟨w.heap.size, j, none⟩ := by
            unfold Addr.add; split
            · simp_all
            · simp
          rw [ha]; exact this)
      clear hW
      refine of_wp ?_
      go_wp2
      go_ret
      exact ⟨rfl, hb⟩
end Go.Kn
