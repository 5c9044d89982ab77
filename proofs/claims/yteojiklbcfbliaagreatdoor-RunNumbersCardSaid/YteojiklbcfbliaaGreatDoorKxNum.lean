/-
  A part of the proof.
-/
import Derived.Test.YteojiklbcfbliaaGreatDoorKxLay2
import Derived.Test.YteojiklbcfbliaaGreatDoorEwM9
import Derived.Shelf.Strconv.Atoi
import Derived.Shelf.Strconv.AtoiErr
import Derived.Shelf.Strconv.Itoa3
import Derived.Lib.AppendIntMem
import Derived.Lib.SmallJoins
import Derived.BigGuardPart
set_option linter.unusedVariables false
set_option linter.unusedSimpArgs false
noncomputable section
namespace Go.Kx
open Go Go.Conc Go.Proofs Go.RowKit Go.Kn
theorem atoi_ok (s : ByteArray) (n : Int) (hl : s.size ≤ 18) (h : Lib.atoi s.data.toList = some n) (V : World) : Calls Tryz.prog 28 #[.string s] V λe w'=>e = .returned (.tuple #[.int .i64 n,.nilIface]) ∧ Below V.heap.size V w' :=
 (Any.strconv_Atoi { lays172 with } s n hl h V).mono λe w' h=>⟨h.1,h.2.elim λt h=>h ▸ Go.Joins.below_bytesWorld _ V 5 t (Nat.le_refl _)⟩
theorem atoi_no (s : ByteArray) (hl : s.size ≤ 18) (h : Lib.atoi s.data.toList = none) (ev : Value) (V : World) (hv : V.cell? ⟨1,0,none⟩ = some ev) (hev : ev = .nilIface ∨ ∃ te pe,ev = .iface te pe) : Calls Tryz.prog 28 #[.string s] V λe w'=>∃ t v,e = .returned (.tuple #[.int .i64 0,.iface t v]) ∧ Below V.heap.size V w' :=
 (Any.strconv_Atoi_err lays172 s hl h ev V hv hev).mono λe w' ⟨N,h1,_,_,h2⟩=>⟨_,_,h1,h2⟩
theorem itoa_ok (n : Int) (h0 : -9223372036854775808 ≤ n) (h1 : n ≤ 9223372036854775807) (V : World) (ht : Lib.TabIs Tryz.prog V "internal/strconv.uint64pow10" .u64 Lib.pow10Tab) : Calls Tryz.prog 29 #[.int .i64 n] V fun e w' => e = .returned (.string ⟨(Lib.itoa n).toArray⟩) ∧ Below V.heap.size V w' :=
 (Any.strconv_Itoa lays171 n h0 h1 V ht).mono λe w' ⟨h1,k,os,h2⟩=>⟨h1,h2 ▸ Lib.below_grow _ V (Nat.le_refl _) k os⟩
theorem fits_ok (x : Int) (h1 : -9007199254740992 ≤ x) (h2 : x ≤ 9007199254740992) (w : World) : Calls Tryz.prog 15 #[.int .i64 x] w λe w'=>e = .returned (.bool true) ∧ w' = w:=by
 go_enter Tryz.func15,Tryz.ntmps15
 go_wp2
 go_ret
 exact ⟨rfl,rfl⟩
set_option maxHeartbeats 1000000 in
set_option maxRecDepth 100000 in
theorem number_no (s : ByteArray) (hl : s.size ≤ 18) (h : Lib.atoi s.data.toList = none) (ev : Value) (w : World) (hv : w.cell? ⟨1,0,none⟩ = some ev) (hev : ev = .nilIface ∨ ∃ te pe,ev = .iface te pe) :
 Calls Tryz.prog 11 #[.string s] w λe w'=>e = .returned (.tuple #[.int .i64 0,.bool false]) ∧ Below w.heap.size w w':=by
 have ha:=atoi_no s hl h ev w hv hev
 go_enter Tryz.func11,Tryz.ntmps11
 go_wp2_with (go_at_call 28; refine ha.mono ?_; rintro e W2 ⟨t,v,rfl,hb⟩; clear ha)
 go_ret2
 exact ⟨rfl,hb⟩
set_option maxHeartbeats 1000000 in
set_option maxRecDepth 100000 in
theorem number_ok (s : ByteArray) (x : Int) (hl : s.size ≤ 18) (h : s.data.toList = Lib.itoa x) (h1 : -9007199254740992 ≤ x) (h2 : x ≤ 9007199254740992) (w : World) (ht : ∀ W, Below w.heap.size w W → Lib.TabIs Tryz.prog W "internal/strconv.uint64pow10" .u64 Lib.pow10Tab) :
 Calls Tryz.prog 11 #[.string s] w λe w'=>e = .returned (.tuple #[.int .i64 x,.bool true]) ∧ Below w.heap.size w w':=by
 have ha:=atoi_ok s x hl (by rw [h]; exact Ev.atoi_itoa x) w
 have hs : (⟨(Lib.itoa x).toArray⟩ : ByteArray) = s:=by rw [← h]
 have hi:=λW (hW : Below w.heap.size w W)=>itoa_ok x (by omega) (by omega) W (ht W hW)
 rw [hs] at hi
 clear hs
 go_enter Tryz.func11,Tryz.ntmps11
 go_wp2_with (first | (go_at_call 28; refine ha.mono ?_; rintro e W2 ⟨rfl,hb⟩; clear ha) | (go_at_call 29; refine (hi W2 hb).mono ?_; rintro e W3 ⟨rfl,hb3⟩) | (go_at_call 15; refine (fits_ok x h1 h2 _).mono ?_; rintro e W4 ⟨rfl,hW4⟩; have h9:=hW4.symm; clear hW4; subst h9))
 go_ret2
 exact ⟨rfl,hb.trans (hb3.mono hb.size)⟩
end Go.Kx
