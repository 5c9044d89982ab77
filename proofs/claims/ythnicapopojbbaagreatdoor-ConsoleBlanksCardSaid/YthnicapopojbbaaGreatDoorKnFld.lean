import Derived.Test.YthnicapopojbbaaGreatDoorKnRun
import Derived.Lib.TrimUEq
import Derived.Lib.RuneCount
namespace Go.Kn
open Go Go.Proofs Go.Lib
theorem decodeN_high (n b0 b1 b2 b3 : Nat) (h : 128 ≤ b0) : 128 ≤ (decodeN n b0 b1 b2 b3).1 := by
  unfold decodeN
  rw [if_neg (by omega)]
  repeat' split
  all_goals first | omega | (simp_all; done) | (simp_all; omega) | decide
theorem getD_get (s : ByteArray) (pos : Nat) (h : pos < s.size) : s.data.toList.getD pos 0 = s[pos] := by
  have hl : pos < s.data.toList.length := by simpa using h
  rw [List.getD_eq_getElem?_getD, List.getElem?_eq_getElem hl]
  rfl
theorem dec_asc (s : ByteArray) (pos : Nat) (h : pos < s.size) (hb : s[pos].toNat < 128) : Utf8.decode s pos = (s[pos].toNat, 1) := by
  rw [decode_N, getD_get s pos h, decodeN_ascii _ _ _ _ _ hb]
theorem dec_nb (s : ByteArray) (pos : Nat) (h : pos < s.size) (hb : 32 < s[pos].toNat) : blank (Utf8.decode s pos).1 = false := by
  have hr : 32 < (Utf8.decode s pos).1 := by
    by_cases h2 : s[pos].toNat < 128
    · rw [dec_asc s pos h h2]; exact hb
    · have := decodeN_high (s.data.toList.length - pos) (s[pos].toNat) (s.data.toList.getD (pos + 1) 0).toNat (s.data.toList.getD (pos + 2) 0).toNat (s.data.toList.getD (pos + 3) 0).toNat (by omega)
      rw [decode_N, getD_get s pos h]
      omega
  generalize (Utf8.decode s pos).1 = r at hr
  unfold blank
  simp
  omega
/-- Words to the end. -/
theorem sp_end (s : ByteArray) (a : Nat) (acc : List (Nat × Nat)) : ∀ (f pos : Nat), s.size - pos ≤ f → (∀ k (h : k < s.size), pos ≤ k → 32 < s[k].toNat) → spansFromP blank s f pos (some a) acc = (acc, some a)
  | 0, _, _, _ => rfl
  | f + 1, pos, hf, hb => by
    unfold spansFromP
    by_cases h : pos < s.size
    · rw [if_pos h, dec_nb s pos h (hb pos h (Nat.le_refl _))]
      have hw := decode_width_pos s pos h
      exact sp_end s a acc f _ (by omega) (fun k hk hp => hb k hk (by omega))
    · rw [if_neg h]
/-- An ASCII word's bytes. -/
theorem sp_word (s : ByteArray) (a : Nat) (acc : List (Nat × Nat)) : ∀ (n f pos : Nat), pos + n ≤ s.size → s.size - pos ≤ f → (∀ k (h : k < s.size), pos ≤ k → k < pos + n → 32 < s[k].toNat ∧ s[k].toNat < 128) → ∃ f', s.size - (pos + n) ≤ f' ∧ spansFromP blank s f pos (some a) acc = spansFromP blank s f' (pos + n) (some a) acc
  | 0, f, pos, _, hf, _ => ⟨f, hf, rfl⟩
  | n + 1, f, pos, hn, hf, hb => by
    obtain ⟨f, rfl⟩ : ∃ g, f = g + 1 := ⟨f - 1, by omega⟩
    have h : pos < s.size := by omega
    obtain ⟨f', h1, h2⟩ := sp_word s a acc n f (pos + 1) (by omega) (by omega) (fun k hk h3 h4 => hb k hk (by omega) (by omega))
    refine ⟨f', by omega, ?_⟩
    have hq := hb pos h (Nat.le_refl _) (by omega)
    rw [spansFromP, if_pos h, dec_nb s pos h hq.1, dec_asc s pos h hq.2]
    show spansFromP blank s f (pos + 1) (some a) acc = _
    rw [h2, show pos + 1 + n = pos + (n + 1) by omega]
/-- A word begins. -/
theorem sp_begin (s : ByteArray) (acc : List (Nat × Nat)) (f pos : Nat) (h : pos < s.size) (hf : s.size - pos ≤ f) (hb : 32 < s[pos].toNat) : spansFromP blank s f pos none acc = spansFromP blank s f pos (some pos) acc := by
  obtain ⟨f, rfl⟩ : ∃ g, f = g + 1 := ⟨f - 1, by omega⟩
  rw [spansFromP, spansFromP, if_pos h, if_pos h, dec_nb s pos h hb]
  rfl
/-- A word ends at a blank. -/
theorem sp_close (s : ByteArray) (a : Nat) (acc : List (Nat × Nat)) (f pos : Nat) (h : pos < s.size) (hf : s.size - pos ≤ f) (hb : s[pos].toNat = 32 ∨ s[pos].toNat = 9) : spansFromP blank s f pos (some a) acc = spansFromP blank s f pos none (acc ++ [(a, pos)]) := by
  obtain ⟨f, rfl⟩ : ∃ g, f = g + 1 := ⟨f - 1, by omega⟩
  have hk : blank (Utf8.decode s pos).1 = true := by
    rw [dec_asc s pos h (by omega)]
    unfold blank
    rcases hb with hb | hb <;> simp [hb]
  rw [spansFromP, spansFromP, if_pos h, if_pos h, hk]
  rfl
/-- Blanks. -/
theorem sp_blank (s : ByteArray) (acc : List (Nat × Nat)) : ∀ (n f pos : Nat), pos + n ≤ s.size → s.size - pos ≤ f → (∀ k (h : k < s.size), pos ≤ k → k < pos + n → s[k].toNat = 32 ∨ s[k].toNat = 9) → ∃ f', s.size - (pos + n) ≤ f' ∧ spansFromP blank s f pos none acc = spansFromP blank s f' (pos + n) none acc
  | 0, f, pos, _, hf, _ => ⟨f, hf, rfl⟩
  | n + 1, f, pos, hn, hf, hb => by
    obtain ⟨f, rfl⟩ : ∃ g, f = g + 1 := ⟨f - 1, by omega⟩
    have h : pos < s.size := by omega
    obtain ⟨f', h1, h2⟩ := sp_blank s acc n f (pos + 1) (by omega) (by omega) (fun k hk h3 h4 => hb k hk (by omega) (by omega))
    refine ⟨f', by omega, ?_⟩
    have hq := hb pos h (Nat.le_refl _) (by omega)
    have hd := dec_asc s pos h (by omega)
    have hk : blank (Utf8.decode s pos).1 = true := by
      rw [hd]
      unfold blank
      rcases hq with hq | hq <;> simp [hq]
    rw [spansFromP, if_pos h, hk, hd]
    show spansFromP blank s f (pos + 1) none acc = _
    rw [h2, show pos + 1 + n = pos + (n + 1) by omega]
end Go.Kn
