/-
  Texts of numbers: what strconv.Atoi makes of them, how they are cut.
-/
import Derived.Test.YteojiklbcfbliaaGreatDoorKxNum
import Derived.Shelf.Strconv.AtoiAll
import Derived.Lib.AtoiAllCases
import Derived.Lib.SplitLaws
import Derived.Lib.CountLaws
set_option linter.unusedVariables false
set_option linter.unusedSimpArgs false
noncomputable section
namespace Go.Ry
open Go Go.Lib
theorem decFrom_le : ∀ (l : List UInt8) (acc n : Nat),decFrom acc l = some n → acc ≤ n
 | [],acc,n,h=>by simp [decFrom] at h; omega
 | b :: r,acc,n,h=>by
  unfold decFrom at h
  split at h
  ·have:=decFrom_le r _ n h; omega
  ·cases h
theorem digitVal_is {b : UInt8} {d : Nat} (h : digitVal b = some d) : 48 ≤ b.toNat ∧ b.toNat ≤ 57 ∧ d = b.toNat - 48:=by
 unfold digitVal at h
 split at h
 ·rename_i hb; cases h; exact ⟨hb.1,hb.2,rfl⟩
 ·cases h
theorem parse_dec : ∀ (l : List UInt8) (acc n : Nat),decFrom acc l = some n → n < 18446744073709551616 → parseUint10 acc l = .ok n
 | [],acc,n,h,_=>by simp [decFrom] at h; simp [parseUint10,h]
 | b :: r, acc, n, h, hn => by
  unfold decFrom at h
  split at h
  ·rename_i d hd
   obtain ⟨h1,h2,h3⟩:=digitVal_is hd
   have h4:=decFrom_le r _ n h
   unfold parseUint10
   rw [if_pos ⟨h1,h2⟩,if_neg (by omega),if_neg (by omega),← h3]
   exact parse_dec r _ n h hn
  ·cases h
theorem all_dec {l : List UInt8} {n : Nat} (hl : l ≠ []) (h : decFrom 0 l = some n) (hn : n < 9223372036854775808) : atoiAll l = .ok (n : Int):=by
 cases l with
 | nil=>exact absurd rfl hl
 | cons c r =>
  have h0:=h
  unfold decFrom at h0
  split at h0
  ·rename_i d hd
   obtain ⟨h1,h2,h3⟩:=digitVal_is hd
   have h4 : parseMag (c :: r) = .ok n:=by unfold parseMag; rw [if_neg (by simp)]; exact parse_dec _ _ _ h (by omega)
   rw [atoiAll_plain c r (by omega) (by omega),h4]
   unfold signless
   simp only
   rw [if_neg (by omega)]
  ·cases h0
theorem all_neg {l : List UInt8} {n : Nat} (hl : l ≠ []) (h : decFrom 0 l = some n) (hn : n < 9223372036854775808) : atoiAll (45 :: l) = .ok (-(n : Int)):=by
 have h4 : parseMag l = .ok n:=by unfold parseMag; rw [if_neg hl]; exact parse_dec _ _ _ h (by omega)
 unfold atoiAll
 simp only [show (45 : UInt8).toNat = 45 from rfl,or_true,if_true,h4,not_true_eq_false,false_and,if_false,true_and]
 rw [if_neg (by omega)]
theorem all_itoa (v : Int) (h1 : -9223372036854775808 < v) (h2 : v < 9223372036854775808) : atoiAll (itoa v) = .ok v:=by
 unfold itoa
 split
 ·rw [all_neg (Ev.digits_ne _) (Ev.decFrom_digits _) (by omega)]; congr 1; omega
 ·rw [all_dec (Ev.digits_ne _) (Ev.decFrom_digits _) (by omega)]; congr 1; omega
theorem all_zero (N : Nat) (hn : N < 9223372036854775808) : atoiAll (48 :: decDigits N) = .ok (N : Int):=by
 refine all_dec (by simp) ?_ hn
 have:=Ev.decFrom_digits N
 unfold decFrom
 simpa [digitVal] using this
theorem index_at : ∀ (a b : List UInt8) (c : UInt8),c ∉ a → index (a ++ c :: b) [c] = a.length
 | [],b,c,_=>by simp [index]
 | x :: a, b, c, h => by
  have ih:=index_at a b c (λh'=>h (by simp [h']))
  have hx : (c == x) = false:=by
   rw [beq_eq_false_iff_ne]; rintro rfl; exact h (by simp)
  rw [List.cons_append,index]
  simp only [List.isPrefixOf,hx,Bool.false_and,Bool.false_eq_true,if_false,ih]
  rw [if_neg (by simp)]
  simp
theorem index_no : ∀ (a : List UInt8) (c : UInt8),c ∉ a → index a [c] = -1
 | [],c,_=>by simp [index]
 | x :: a, c, h => by
  have ih:=index_no a c (λh'=>h (by simp [h']))
  have hx : (c == x) = false:=by
   rw [beq_eq_false_iff_ne]; rintro rfl; exact h (by simp)
  rw [index]
  simp only [List.isPrefixOf,hx,Bool.false_and,Bool.false_eq_true,if_false,ih]
  rfl
theorem cut_at (a b : List UInt8) (c : UInt8) (h : c ∉ a) : cut (a ++ c :: b) [c] = (a,b,true):=by
 unfold cut
 rw [index_at a b c h,if_pos (by omega)]
 simp
theorem cut_no (a : List UInt8) (c : UInt8) (h : c ∉ a) : cut a [c] = (a,[],false):=by
 unfold cut
 rw [index_no a c h,if_neg (by omega)]
theorem ba_inj {a b : ByteArray} (h : a.data.toList = b.data.toList) : a = b:=by
 cases a; cases b; congr 1; exact Array.ext' h
theorem dec_chars (v : Int) : ∀ b ∈ itoa v,b = 45 ∨ 48 ≤ b.toNat ∧ b.toNat ≤ 57:=by
 intro b hb
 unfold itoa at hb
 split at hb
 ·rcases List.mem_cons.1 hb with h | h
  ·exact .inl h
  ·exact .inr (Ev.digits_all _ b h)
 ·exact .inr (Ev.digits_all _ b hb)
end Go.Ry
