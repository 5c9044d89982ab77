import Derived.Test.YthnicapopojbbaaGreatDoorKnFld2
import Derived.Lib.CountLaws
namespace Go.Kn
open Go Go.Proofs Go.Lib
set_option linter.unusedVariables false
theorem mem_mid {s : ByteArray} {pre l post : List UInt8} (hs : s = ba (pre ++ (l ++ post))) (k : Nat) (h : k < s.size) (h1 : pre.length ≤ k) (h2 : k < pre.length + l.length) : s[k] ∈ l := by
  subst hs
  rw [ba_get, List.getElem_append_right h1, List.getElem_append_left (by omega)]
  exact List.getElem_mem _
theorem spans_five (l0 l1 l2 l3 l4 : List UInt8) (h0 : l0 ≠ []) (h1 : l1 ≠ []) (h2 : l2 ≠ []) (h3 : l3 ≠ []) (h4 : l4 ≠ []) (w0 : ∀ b ∈ l0, b.toNat = 32 ∨ b.toNat = 9) (w1 : ∀ b ∈ l1, 32 < b.toNat ∧ b.toNat < 128) (w2 : ∀ b ∈ l2, b.toNat = 32 ∨ b.toNat = 9) (w3 : ∀ b ∈ l3, 32 < b.toNat ∧ b.toNat < 128) (w4 : ∀ b ∈ l4, b.toNat = 32 ∨ b.toNat = 9) :
    spansOfP blank (ba (l0 ++ (l1 ++ (l2 ++ (l3 ++ l4))))) = [(l0.length, l0.length + l1.length), (l0.length + l1.length + l2.length, l0.length + l1.length + l2.length + l3.length)] := by
  have p0 := List.length_pos_iff.2 h0
  have p1 := List.length_pos_iff.2 h1
  have p2 := List.length_pos_iff.2 h2
  have p3 := List.length_pos_iff.2 h3
  have p4 := List.length_pos_iff.2 h4
  obtain ⟨s, hs⟩ : ∃ s, s = ba (l0 ++ (l1 ++ (l2 ++ (l3 ++ l4)))) := ⟨_, rfl⟩
  have hsz : s.size = l0.length + (l1.length + (l2.length + (l3.length + l4.length))) := by rw [hs, ba_size]; simp
  have g0 := fun k h => mem_mid (s := s) (pre := []) (l := l0) (post := l1 ++ (l2 ++ (l3 ++ l4))) (by simpa using hs) k h
  have g1 := fun k h => mem_mid (s := s) (pre := l0) (l := l1) (post := l2 ++ (l3 ++ l4)) (by simpa using hs) k h
  have g2 := fun k h => mem_mid (s := s) (pre := l0 ++ l1) (l := l2) (post := l3 ++ l4) (by simpa using hs) k h
  have g3 := fun k h => mem_mid (s := s) (pre := l0 ++ (l1 ++ l2)) (l := l3) (post := l4) (by simpa using hs) k h
  have g4 := fun k h => mem_mid (s := s) (pre := l0 ++ (l1 ++ (l2 ++ l3))) (l := l4) (post := []) (by simpa using hs) k h
  simp only [List.length_append, List.length_nil, Nat.zero_add] at g0 g1 g2 g3 g4
  unfold spansOfP
  rw [← hs]
  clear hs
  obtain ⟨f0, hf0, e0⟩ := sp_blank s [] l0.length s.size 0 (by omega) (by omega) (fun k h ha hk => w0 _ (g0 k h (by omega) (by omega)))
  rw [e0, Nat.zero_add]
  rw [sp_begin s _ f0 _ (by omega) (by omega) (w1 _ (g1 _ (by omega) (by omega) (by omega))).1]
  obtain ⟨f1, hf1, e1⟩ := sp_word s l0.length [] l1.length f0 l0.length (by omega) (by omega) (fun k h ha hk => w1 _ (g1 k h (by omega) (by omega)))
  rw [e1]
  rw [sp_close s _ [] f1 _ (by omega) (by omega) (w2 _ (g2 _ (by omega) (by omega) (by omega)))]
  obtain ⟨f2, hf2, e2⟩ := sp_blank s ([] ++ [(l0.length, l0.length + l1.length)]) l2.length f1 (l0.length + l1.length) (by omega) (by omega) (fun k h ha hk => w2 _ (g2 k h (by omega) (by omega)))
  rw [e2, sp_begin s _ f2 _ (by omega) (by omega) (w3 _ (g3 _ (by omega) (by omega) (by omega))).1]
  obtain ⟨f3, hf3, e3⟩ := sp_word s (l0.length + l1.length + l2.length) ([] ++ [(l0.length, l0.length + l1.length)]) l3.length f2 (l0.length + l1.length + l2.length) (by omega) (by omega) (fun k h ha hk => w3 _ (g3 k h (by omega) (by omega)))
  rw [e3]
  rw [sp_close s _ _ f3 _ (by omega) (by omega) (w4 _ (g4 _ (by omega) (by omega) (by omega)))]
  obtain ⟨f4, hf4, e4⟩ := sp_blank s ([] ++ [(l0.length, l0.length + l1.length)] ++ [(l0.length + l1.length + l2.length, l0.length + l1.length + l2.length + l3.length)]) l4.length f3 (l0.length + l1.length + l2.length + l3.length) (by omega) (by omega) (fun k h ha hk => w4 _ (g4 k h (by omega) (by omega)))
  rw [e4, spansFromP_end _ _ _ _ _ _ (by omega)]
  rfl
theorem flds_five (l0 l1 l2 l3 l4 : List UInt8) (h0 : l0 ≠ []) (h1 : l1 ≠ []) (h2 : l2 ≠ []) (h3 : l3 ≠ []) (h4 : l4 ≠ []) (w0 : ∀ b ∈ l0, b.toNat = 32 ∨ b.toNat = 9) (w1 : ∀ b ∈ l1, 32 < b.toNat ∧ b.toNat < 128) (w2 : ∀ b ∈ l2, b.toNat = 32 ∨ b.toNat = 9) (w3 : ∀ b ∈ l3, 32 < b.toNat ∧ b.toNat < 128) (w4 : ∀ b ∈ l4, b.toNat = 32 ∨ b.toNat = 9) :
    flds (ba (l0 ++ (l1 ++ (l2 ++ (l3 ++ l4))))) = [ba l1, ba l3] := by
  unfold flds goFieldsP
  rw [spans_five l0 l1 l2 l3 l4 h0 h1 h2 h3 h4 w0 w1 w2 w3 w4]
  simp only [List.map_cons, List.map_nil]
  rw [ba_extract, ba_extract]
  congr 1
  · congr 1
    rw [← List.append_assoc, List.take_left' (by simp), List.drop_left' rfl]
  · congr 1
    congr 1
    rw [show l0 ++ (l1 ++ (l2 ++ (l3 ++ l4))) = (l0 ++ l1 ++ l2 ++ l3) ++ l4 by simp, List.take_left' (by simp; omega), List.drop_left' (by simp; omega)]
theorem spans_blank (l0 : List UInt8) (w0 : ∀ b ∈ l0, b.toNat = 32 ∨ b.toNat = 9) : flds (ba l0) = [] := by
  unfold flds goFieldsP spansOfP
  have hsz : (ba l0).size = l0.length := ba_size _
  obtain ⟨f0, hf0, e0⟩ := sp_blank (ba l0) [] l0.length (ba l0).size 0 (by omega) (by omega) (fun k h ha hk => w0 _ (mem_mid (pre := []) (l := l0) (post := []) (by simp) k h (by simp) (by simpa using hk)))
  rw [e0, spansFromP_end _ _ _ _ _ _ (by omega)]
  rfl
theorem index_hit (l r : List UInt8) (h : ∀ b ∈ l, b ≠ 10) : Lib.index (l ++ 10 :: r) [10] = l.length := by
  induction l with
  | nil => simp [Lib.index, List.isPrefixOf]
  | cons b l ih =>
    have hb := h b (by simp)
    have hi := ih (fun c hc => h c (by simp [hc]))
    rw [List.cons_append]
    unfold Lib.index
    rw [if_neg (by simp [List.isPrefixOf]; exact fun e => hb e.symm), hi]
    rw [if_neg (by simp; try omega)]
    simp
theorem lns_cons (l r : List UInt8) (h : ∀ b ∈ l, b ≠ 10) : lns (ba (l ++ 10 :: r)) = ba l :: lns (ba r) := by
  have hi : indexB (ba (l ++ 10 :: r)) nl = (l.length : Nat) := by
    have := index_hit l r h
    unfold indexB
    exact this
  have hn : nl.size = 1 := rfl
  have hc := countB_hit (ba (l ++ 10 :: r)) nl l.length (by decide) hi
  have he : (ba (l ++ 10 :: r)).extract (l.length + nl.size) (ba (l ++ 10 :: r)).size = ba r := by
    rw [hn, ba_extract, ba_size, List.take_of_length_le (Nat.le_refl _)]
    congr 1
    rw [show l ++ 10 :: r = (l ++ [10]) ++ r by simp, List.drop_left' (by simp)]
  unfold lns
  rw [hc, Nat.add_comm, splitB_hit nl 0 _ _ l.length hi, he]
  congr 1
  rw [ba_extract]
  congr 1
  simp
end Go.Kn
