import Derived.Test.YthnicapopojbbaaGreatDoorKnFld
namespace Go.Kn
open Go Go.Proofs Go.Lib
def ba (l : List UInt8) : ByteArray := ⟨l.toArray⟩
theorem ba_inj {s : ByteArray} {l : List UInt8} (h : s.data.toList = l) : s = ba l := by
  subst h; rfl
theorem ba_size (l : List UInt8) : (ba l).size = l.length := by simp [ba, ByteArray.size]
theorem ba_get (l : List UInt8) (k : Nat) (h : k < (ba l).size) : (ba l)[k] = l[k]'(by rw [← ba_size]; exact h) := rfl
theorem ba_extract (l : List UInt8) (a b : Nat) : (ba l).extract a b = ba ((l.take b).drop a) := by
  refine ba_inj ?_
  rw [extract_data]
  simp [ba]
  exact (List.drop_take ..).symm
theorem spans_two (l1 l2 l3 : List UInt8) (h1 : l1 ≠ []) (h2 : l2 ≠ []) (h3 : l3 ≠ []) (w1 : ∀ b ∈ l1, 32 < b.toNat ∧ b.toNat < 128) (w2 : ∀ b ∈ l2, b.toNat = 32 ∨ b.toNat = 9) (w3 : ∀ b ∈ l3, 32 < b.toNat) :
    spansOfP blank (ba (l1 ++ (l2 ++ l3))) = [(0, l1.length), (l1.length + l2.length, (l1 ++ (l2 ++ l3)).length)] := by
  have p1 := List.length_pos_iff.2 h1
  have p2 := List.length_pos_iff.2 h2
  have p3 := List.length_pos_iff.2 h3
  have hs : (ba (l1 ++ (l2 ++ l3))).size = l1.length + (l2.length + l3.length) := by rw [ba_size]; simp
  have g1 : ∀ k (h : k < (ba (l1 ++ (l2 ++ l3))).size), k < l1.length → (ba (l1 ++ (l2 ++ l3)))[k] ∈ l1 := fun k h hk => by
    rw [ba_get, List.getElem_append_left hk]; exact List.getElem_mem _
  have g2 : ∀ k (h : k < (ba (l1 ++ (l2 ++ l3))).size), l1.length ≤ k → k < l1.length + l2.length → (ba (l1 ++ (l2 ++ l3)))[k] ∈ l2 := fun k h ha hk => by
    rw [ba_get, List.getElem_append_right ha, List.getElem_append_left (by omega)]; exact List.getElem_mem _
  have g3 : ∀ k (h : k < (ba (l1 ++ (l2 ++ l3))).size), l1.length + l2.length ≤ k → (ba (l1 ++ (l2 ++ l3)))[k] ∈ l3 := fun k h ha => by
    rw [ba_get, List.getElem_append_right (by omega), List.getElem_append_right (by omega)]; exact List.getElem_mem _
  unfold spansOfP
  have hl : (l1 ++ (l2 ++ l3)).length = (ba (l1 ++ (l2 ++ l3))).size := (ba_size _).symm
  rw [hl]
  generalize ba (l1 ++ (l2 ++ l3)) = s at hs g1 g2 g3 ⊢
  rw [sp_begin s [] s.size 0 (by omega) (by omega) (w1 _ (g1 0 (by omega) p1)).1]
  obtain ⟨f1, hf1, e1⟩ := sp_word s 0 [] l1.length s.size 0 (by omega) (by omega) (fun k h _ hk => w1 _ (g1 k h (by omega)))
  rw [e1, Nat.zero_add]
  rw [sp_close s 0 [] f1 l1.length (by omega) (by omega) (w2 _ (g2 l1.length (by omega) (Nat.le_refl _) (by omega)))]
  obtain ⟨f2, hf2, e2⟩ := sp_blank s ([] ++ [(0, l1.length)]) l2.length f1 l1.length (by omega) (by omega) (fun k h ha hk => w2 _ (g2 k h ha hk))
  rw [e2, sp_begin s _ f2 _ (by omega) (by omega) (w3 _ (g3 _ (by omega) (Nat.le_refl _)))]
  rw [sp_end s _ _ f2 _ (by omega) (fun k h hk => w3 _ (g3 k h hk))]
  rfl
theorem flds_two (l1 l2 l3 : List UInt8) (h1 : l1 ≠ []) (h2 : l2 ≠ []) (h3 : l3 ≠ []) (w1 : ∀ b ∈ l1, 32 < b.toNat ∧ b.toNat < 128) (w2 : ∀ b ∈ l2, b.toNat = 32 ∨ b.toNat = 9) (w3 : ∀ b ∈ l3, 32 < b.toNat) :
    flds (ba (l1 ++ (l2 ++ l3))) = [ba l1, ba l3] := by
  unfold flds goFieldsP
  rw [spans_two l1 l2 l3 h1 h2 h3 w1 w2 w3]
  simp only [List.map_cons, List.map_nil]
  rw [ba_extract, ba_extract]
  congr 1
  · simp
  · congr 1
    rw [List.take_of_length_le (Nat.le_refl _), ← List.append_assoc, List.drop_left' (by simp)]
theorem index_none (l : List UInt8) (h : ∀ b ∈ l, b ≠ 10) : Lib.index l [10] = -1 := by
  induction l with
  | nil => rfl
  | cons b r ih =>
    have hb := h b (by simp)
    unfold Lib.index
    rw [if_neg (by simp [List.isPrefixOf]; exact fun e => hb e.symm), ih (fun c hc => h c (by simp [hc]))]
    rfl
theorem lns_one (l : List UInt8) (h : ∀ b ∈ l, b ≠ 10) : lns (ba l) = [ba l] := by
  have hi : indexB (ba l) nl = -1 := by
    have := index_none l h
    unfold indexB
    exact this
  unfold lns
  rw [splitB_miss nl 0 _ (ba l) hi]
end Go.Kn
