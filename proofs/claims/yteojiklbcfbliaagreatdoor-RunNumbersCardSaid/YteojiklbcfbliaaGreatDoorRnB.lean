/-
  run.number at any decimal, run.numbers at one word, run.plain at "tick", run.words at one number: walked.
-/
import Derived.Test.YteojiklbcfbliaaGreatDoorRnA
import Derived.Laws.AppendOwnNone
set_option linter.unusedVariables false
set_option linter.unusedSimpArgs false
noncomputable section
namespace Go.Ry
open Go Go.Conc Go.Proofs Go.RowKit Go.Kn Go.Kx
def Tab (w : World) : Prop := ∀ W, Below w.heap.size w W → Lib.TabIs Tryz.prog W "internal/strconv.uint64pow10" .u64 Lib.pow10Tab
theorem Tab.on {w W : World} (h : Tab w) (hb : Below w.heap.size w W) : Tab W:=λV hV=>h V (hb.trans (hV.mono hb.size))
theorem atoi_all (s : ByteArray) (n : Int) (hl : s.size ≤ 1000) (h : Lib.atoiAll s.data.toList = .ok n) (V : World) : Calls Tryz.prog 28 #[.string s] V λe w'=>e = .returned (.tuple #[.int .i64 n,.nilIface]) ∧ Below V.heap.size V w' :=
 (Any.strconv_Atoi_ok lays172 s (by omega) n h V).mono λe w' h=>⟨h.1,h.2.elim (λh=>h ▸ Below.refl _ _) λ⟨t,h⟩=>h ▸ Go.Joins.below_bytesWorld _ V 5 t (Nat.le_refl _)⟩
theorem fits_no (x : Int) (h : ¬ (-9007199254740992 ≤ x ∧ x ≤ 9007199254740992)) (w : World) : Calls Tryz.prog 15 #[.int .i64 x] w λe w'=>e = .returned (.bool false) ∧ w' = w:=by
 by_cases h1 : -9007199254740992 ≤ x
 ·have h2 : ¬ x ≤ 9007199254740992:=λh2=>h ⟨h1,h2⟩
  go_enter Tryz.func15,Tryz.ntmps15
  go_wp2
  go_ret
  exact ⟨rfl,rfl⟩
 ·go_enter Tryz.func15,Tryz.ntmps15
  go_wp2
  go_ret
  exact ⟨rfl,rfl⟩
def fitsB (x : Int) : Bool:=decide (-9007199254740992 ≤ x ∧ x ≤ 9007199254740992)
theorem fits_is (x : Int) (w : World) : Calls Tryz.prog 15 #[.int .i64 x] w λe w'=>e = .returned (.bool (fitsB x)) ∧ w' = w:=by
 by_cases h : -9007199254740992 ≤ x ∧ x ≤ 9007199254740992
 ·rw [show fitsB x = true from decide_eq_true h]; exact fits_ok x h.1 h.2 w
 ·rw [show fitsB x = false from decide_eq_false h]; exact fits_no x h w
set_option maxHeartbeats 1000000 in
set_option maxRecDepth 100000 in
theorem number_is (s : ByteArray) (x : Int) (hl : s.size ≤ 1000) (h : s.data.toList = Lib.itoa x) (h1 : -9223372036854775808 < x) (h2 : x ≤ 9223372036854775807) (w : World) (ht : Tab w) :
 Calls Tryz.prog 11 #[.string s] w λe w'=>e = .returned (.tuple #[.int .i64 x,.bool (fitsB x)]) ∧ Below w.heap.size w w':=by
 have ha:=atoi_all s x hl (by rw [h]; exact all_itoa x h1 (by omega)) w
 have hs : (⟨(Lib.itoa x).toArray⟩ : ByteArray) = s:=by rw [← h]
 have hi:=λW (hW : Below w.heap.size w W)=>itoa_ok x (by omega) (by omega) W (ht W hW)
 rw [hs] at hi
 clear hs
 obtain ⟨q,hq⟩ : ∃ q,fitsB x = q:=⟨_,rfl⟩
 have hf:=fits_is x
 rw [hq] at hf ⊢
 clear hq
 go_enter Tryz.func11,Tryz.ntmps11
 go_wp2_with (first | (go_at_call 28; refine ha.mono ?_; rintro e W2 ⟨rfl,hb⟩; clear ha) | (go_at_call 29; refine (hi W2 hb).mono ?_; rintro e W3 ⟨rfl,hb3⟩) | (go_at_call 15; refine (hf _).mono ?_; rintro e W4 ⟨rfl,hW4⟩; have h9:=hW4.symm; clear hW4; subst h9))
 go_ret2
 exact ⟨rfl,hb.trans (hb3.mono hb.size)⟩
set_option maxHeartbeats 1000000 in
set_option maxRecDepth 100000 in
theorem number_ne (s : ByteArray) (x : Int) (hl : s.size ≤ 1000) (h : Lib.atoiAll s.data.toList = .ok x) (hne : s.data.toList ≠ Lib.itoa x) (w : World) (ht : Tab w) :
 Calls Tryz.prog 11 #[.string s] w λe w'=>e = .returned (.tuple #[.int .i64 x,.bool false]) ∧ Below w.heap.size w w':=by
 have ha:=atoi_all s x hl h w
 obtain ⟨h1,h2⟩:=Lib.atoiAll_bounds h
 have hi:=λW (hW : Below w.heap.size w W)=>itoa_ok x h1 h2 W (ht W hW)
 obtain ⟨t,htt⟩ : ∃ t : ByteArray,(⟨(Lib.itoa x).toArray⟩ : ByteArray) = t:=⟨_,rfl⟩
 rw [htt] at hi
 have hts : ¬ t.toList = s.toList:=by
  intro e
  rw [ByteArray.toList_eq,ByteArray.toList_eq,← htt] at e
  exact hne e.symm
 clear htt hne
 go_enter Tryz.func11,Tryz.ntmps11
 go_wp2_with (first | (go_at_call 28; refine ha.mono ?_; rintro e W2 ⟨rfl,hb⟩; clear ha) | (go_at_call 29; refine (hi W2 hb).mono ?_; rintro e W3 ⟨rfl,hb3⟩))
 go_ret2
 exact ⟨rfl,hb.trans (hb3.mono hb.size)⟩
theorem plain_tick (w : World) : Calls Tryz.prog 31 #[.string ⟨#[116,105,99,107]⟩] w λe w'=>e = .returned (.tuple #[.int .i64 3,.int .i64 1]) ∧ w' = w:=by
 go_enter Tryz.func31,Tryz.ntmps31
 go_wp2
 go_ret2
 exact ⟨rfl,rfl⟩
end Go.Ry
