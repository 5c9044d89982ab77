/-
  The texts of the law RunNumbers: plain facts.
-/
import Derived.Test.YteojiklbcfbliaaGreatDoorRnQ
set_option linter.unusedVariables false
set_option linter.unusedSimpArgs false
noncomputable section
namespace Go.Ry
open Go Go.Conc Go.Proofs Go.RowKit Go.Kn Go.Kx
theorem itoa_len (x : Int) (h1 : -9223372036854775808 < x) (h2 : x ≤ 9223372036854775807) : (Lib.itoa x).length ≤ 20:=by
 unfold Lib.itoa
 split
 ·have:=decLen 18 x.natAbs (by omega)
  simp only [List.length_cons]
  omega
 ·have:=decLen 18 x.toNat (by omega)
  omega
theorem itoa_no (x : Int) (c : UInt8) (h : c.toNat < 45) : c ∉ Lib.itoa x:=by
 intro hc
 rcases dec_chars x c hc with h1 | h1
 ·rw [h1] at h; exact absurd h (by decide)
 ·omega
def zeroT (x : Int) : ByteArray:=⟨#[48]⟩ ++ dec x
theorem zeroT_list (x : Int) : (zeroT x).data.toList = 48 :: Lib.itoa x:=by
 unfold zeroT
 rw [append_list,dec_list]
 rfl
theorem zeroT_all (x : Int) (h0 : 0 ≤ x) (h2 : x ≤ 9223372036854775807) : Lib.atoiAll (zeroT x).data.toList = .ok x:=by
 rw [zeroT_list]
 unfold Lib.itoa
 rw [if_neg (by omega),all_zero x.toNat (by omega)]
 congr 1
 omega
theorem zeroT_ne (x : Int) : (zeroT x).data.toList ≠ Lib.itoa x:=by
 rw [zeroT_list]
 intro h
 have:=congrArg List.length h
 simp at this
theorem zeroT_no (x : Int) (c : UInt8) (h : c.toNat < 45) : c ∉ (zeroT x).data.toList:=by
 rw [zeroT_list,List.mem_cons]
 rintro (h1 | h1)
 ·rw [h1] at h; exact absurd h (by decide)
 ·exact itoa_no x c h h1
theorem dec_sz (x : Int) (h1 : -9223372036854775808 < x) (h2 : x ≤ 9223372036854775807) : (dec x).size ≤ 20:=by
 have h:=itoa_len x h1 h2
 rw [← dec_list,Array.length_toList] at h
 exact h
theorem zeroT_sz (x : Int) (h1 : -9223372036854775808 < x) (h2 : x ≤ 9223372036854775807) : (zeroT x).size ≤ 21:=by
 have h:=dec_sz x h1 h2
 unfold zeroT
 rw [ByteArray.size_append]
 have : (⟨#[48]⟩ : ByteArray).size = 1:=rfl
 omega
theorem parse_own (x : Int) (h1 : -9223372036854775808 < x) (h2 : x ≤ 9223372036854775807) (w : World) (hg : Gl w) : Calls Tryz.prog 5 #[.string (textT (dec x))] w λe w'=>Parsed w x (fitsB x) e w':=by
 have hl:=dec_sz x h1 h2
 exact parse_tick (dec x) x (fitsB x) (by rw [dec_list]; exact itoa_no x 32 (by decide)) (by rw [dec_list]; exact itoa_no x 10 (by decide)) (by omega) w hg (λW hW=>number_is (dec x) x (by omega) (dec_list x) h1 h2 W (hg.tab.on hW))
theorem parse_zero (x : Int) (h0 : 0 ≤ x) (h2 : x ≤ 9223372036854775807) (w : World) (hg : Gl w) : Calls Tryz.prog 5 #[.string (textT (zeroT x))] w λe w'=>Parsed w x false e w':=by
 have hl:=zeroT_sz x (by omega) h2
 exact parse_tick (zeroT x) x false (zeroT_no x 32 (by decide)) (zeroT_no x 10 (by decide)) (by omega) w hg (λW hW=>number_ne (zeroT x) x (by omega) (zeroT_all x h0 h2) (zeroT_ne x) W (hg.tab.on hW))
theorem print_own (x : Int) (h1 : -9223372036854775808 < x) (h2 : x ≤ 9223372036854775807) (A c : Nat) (w : World) (hg : Gl w) (hA : A < w.heap.size) (hr : w.rangeAt A 0 (actC 3 x)) :
 Calls Tryz.prog 7 #[.int .i64 3,.slice (some ⟨A,0,none⟩) 1 c] w λe w'=>Printed w (dec x) (fitsB x) e w':=by
 have hl:=dec_sz x h1 h2
 exact print_tick x (dec x) rfl (fitsB x) h1 h2 (itoa_len x h1 h2) (by rw [dec_list]; exact itoa_no x 32 (by decide)) (by rw [dec_list]; exact itoa_no x 10 (by decide)) A c w hg hA hr (λW hW=>number_is (dec x) x (by omega) (dec_list x) h1 h2 W (hg.tab.on hW))
end Go.Ry
