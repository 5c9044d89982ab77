import Derived.Test.YthnicapopojbbaaGreatDoorKnNum
import Derived.Lib.ItoaNum
namespace Go.Kn
open Go
set_option linter.unusedVariables false
theorem digN (d : Nat) (h : d < 10) : (UInt8.ofNat (48 + d)).toNat = 48 + d := by rw [UInt8.toNat_ofNat']; omega
theorem decFrom_app (d : Nat) (h : d < 10) : ∀ (l : List UInt8) (acc : Nat), Lib.decFrom acc (l ++ [UInt8.ofNat (48 + d)]) = (Lib.decFrom acc l).map fun n => n * 10 + d
  | [], acc => by
    have := digN d h
    simp only [List.nil_append, Lib.decFrom, Lib.digitVal, this]
    rw [if_pos (by omega)]
    simp
  | b :: r, acc => by
    simp only [List.cons_append, Lib.decFrom]
    cases Lib.digitVal b with
    | none => rfl
    | some k => exact decFrom_app d h r _
theorem decFrom_digits (N : Nat) : Lib.decFrom 0 (Lib.decDigits N) = some N := by
  induction N using Nat.strongRecOn with
  | ind N ih =>
    rw [Lib.decDigits]
    split
    · rename_i h
      have := decFrom_app N h [] 0
      simpa [Lib.decFrom] using this
    · rename_i h
      rw [decFrom_app _ (Nat.mod_lt _ (by decide)), ih (N / 10) (by omega)]
      simp; omega
theorem digits_all (N : Nat) : ∀ b ∈ Lib.decDigits N, 48 ≤ b.toNat ∧ b.toNat ≤ 57 := by
  induction N using Nat.strongRecOn with
  | ind N ih =>
    rw [Lib.decDigits]
    split
    · rename_i h
      intro b hb
      rw [List.mem_singleton] at hb
      rw [hb, digN N h]; omega
    · rename_i h
      intro b hb
      rcases List.mem_append.1 hb with hb | hb
      · exact ih (N / 10) (by omega) b hb
      · rw [List.mem_singleton] at hb
        rw [hb, digN _ (Nat.mod_lt _ (by decide))]; omega
theorem digits_ne (N : Nat) : Lib.decDigits N ≠ [] := by
  rw [Lib.decDigits]; split <;> simp
theorem decLen : ∀ k N, N < 10 ^ (k + 1) → (Lib.decDigits N).length ≤ k + 1
  | 0, N, h => by rw [Lib.decDigits, dif_pos (by simpa using h)]; simp
  | k + 1, N, h => by
    rw [Lib.decDigits]
    split
    · simp
    · have := decLen k (N / 10) (Nat.div_lt_of_lt_mul (by rw [Nat.pow_succ] at h; omega))
      rw [List.length_append]; simp; omega
theorem digits_dig (N : Nat) : (Lib.decDigits N).all isDig = true := by
  rw [List.all_eq_true]
  intro b hb
  have := digits_all N b hb
  simp [isDig, this.1, this.2]
def dec (k : Int) : ByteArray := ⟨(Lib.itoa k).toArray⟩
theorem dec_list (k : Int) : (dec k).data.toList = Lib.itoa k := by simp [dec]
theorem num_dec (k : Int) (h1 : -10000000000 < k) (h2 : k < 10000000000) : numOf (dec k) = some k := by
  unfold numOf trimD
  rw [dec_list]
  have hnn : k.natAbs < 10 ^ (9 + 1) := by simp; omega
  have hl := decLen 9 k.natAbs hnn
  have hd := digits_dig k.natAbs
  have hne := digits_ne k.natAbs
  have hda := digits_all k.natAbs
  have hf := decFrom_digits k.natAbs
  unfold Lib.itoa
  by_cases hk : k < 0
  · rw [if_pos hk]
    have hp : Lib.trimPrefix (45 :: Lib.decDigits k.natAbs) [45] = Lib.decDigits k.natAbs := by simp [Lib.trimPrefix, Lib.hasPrefix]
    rw [hp, if_neg (by rintro (h | h | h); exact hne h; omega; rw [hd] at h; cases h)]
    have he : (Lib.decDigits k.natAbs).isEmpty = false := by cases hq : Lib.decDigits k.natAbs <;> simp_all
    simp [Lib.atoi, Lib.decNat, he, hf]
    omega
  · rw [if_neg hk]
    have hkn : k.toNat = k.natAbs := by omega
    rw [hkn]
    cases hq : Lib.decDigits k.natAbs with
    | nil => exact absurd hq hne
    | cons b r =>
      rw [hq] at hl hd hda hf
      have hb := hda b List.mem_cons_self
      have h45 : b ≠ 45 := by rintro rfl; revert hb; decide
      have h43 : b ≠ 43 := by rintro rfl; revert hb; decide
      have hp : Lib.trimPrefix (b :: r) [45] = b :: r := by
        unfold Lib.trimPrefix; rw [if_neg]; simp [Lib.hasPrefix]; exact fun h => h45 h.symm
      rw [hp, if_neg (by rintro (h | h | h); cases h; omega; rw [hd] at h; cases h)]
      simp [Lib.atoi, Lib.decNat, h45, h43, hf]
      omega
theorem nums_dec (k : Int) (h1 : -10000000000 < k) (h2 : k < 10000000000) : numsOf [dec k] = some [k] := by
  simp [numsOf, num_dec k h1 h2]
theorem dec_chars (k : Int) : ∀ b ∈ (dec k).data.toList, 32 < b.toNat ∧ b.toNat < 128 := by
  rw [dec_list]
  intro b hb
  unfold Lib.itoa at hb
  split at hb
  · rcases List.mem_cons.1 hb with rfl | hb
    · decide
    · have := digits_all _ b hb; omega
  · have := digits_all _ b hb; omega
theorem dec_ne (k : Int) : (dec k).data.toList ≠ [] := by
  rw [dec_list]
  unfold Lib.itoa
  split
  · simp
  · exact digits_ne _
theorem dec_size (k : Int) (h1 : -10000000000 < k) (h2 : k < 10000000000) : (dec k).size ≤ 11 := by
  have hs : (dec k).size = (dec k).data.toList.length := by simp
  rw [hs, dec_list]
  unfold Lib.itoa
  split
  · have := decLen 9 k.natAbs (by simp; omega)
    simp; omega
  · have := decLen 9 k.toNat (by simp; omega)
    omega
end Go.Kn
