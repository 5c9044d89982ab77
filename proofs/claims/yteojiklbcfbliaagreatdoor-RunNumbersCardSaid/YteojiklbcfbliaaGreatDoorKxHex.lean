/-
  A part of the proof.
-/
import Derived.Test.YteojiklbcfbliaaGreatDoorKxBld
set_option linter.unusedVariables false
set_option linter.unusedSimpArgs false
noncomputable section
namespace Go.Kx
open Go Go.Conc Go.Proofs Go.RowKit
open Go.Kn
def at9 (a : Act) : Nat:=match a.tmps[9]? with | some (Value.int _ k)=>k.toNat | _=>0
set_option maxHeartbeats 1000000 in
set_option maxRecDepth 100000 in
theorem hex_ok (s : ByteArray) (hs : s.size ≤ 1000000) (hs0 : 0 < s.size) (w : World) : Calls Tryz.prog 36 #[.string s] w λe w'=>e = .returned (.string (hexOf s)) ∧ Below w.heap.size w w':=by
 have hTe : s.toList.isEmpty = false:=by
  rw [ByteArray.toList_eq]
  have hl : 0 < s.data.toList.length:=by simpa using hs0
  cases hq : s.data.toList with
  | nil=>rw [hq] at hl; simp at hl
  | cons b r=>rfl
 refine calls_of_wpN Tryz.func36 rfl ?_
 simp only [Tryz.ntmps36,List.size_toArray,List.length_cons,List.length_nil,Nat.reduceAdd,Nat.reduceSub,Array.replicate_succ,
  Array.replicate_zero,List.push_toArray,List.append_toArray,List.nil_append,List.cons_append]
 refine wpN_seq (of_wp ?_)
 go_wp2
 refine wpN_seq ?_
 refine wpN_seq (of_wp ?_)
 go_wp2
 refine of_wp ?_
 go_wp2
 refine wpN_seq (of_wp ?_)
 go_wp2
 refine wpN_seq ?_
 refine wpN_seq (of_wp ?_)
 go_wp2
 refine wpN_block (wpN_loop (λa W=>∃ (i : Nat) (u1 u4 u5 u6 u7 u10 u11 u12 u13 u14 u15 u16 u17 u18 u19 u20 u21 u22 u23 u24 u25 : Value),i ≤ s.size ∧ Below w.heap.size w W ∧ Lib.IsBuilder 52 5 w.heap.size w.heap.size (Lib.byteCells (hexT s i)) W ∧ a = { tmps:=#[.string s,u1,.string ⟨#[]⟩,.pointer (some ⟨w.heap.size,0,none⟩),u4,u5,u6,u7,.int .i64 (s.size : Nat),.int .i64 (i : Nat),u10,u11,u12,u13,u14,u15,u16,u17,u18,u19,u20,u21,u22,u23,u24,u25],defers:=[] }) (λa _=>s.size - at9 a) ?_ ?_)
 ·exact ⟨0,_,_,_,_,_,_,_,_,_,_,_,_,_,_,_,_,_,_,_,_,_,Nat.zero_le _,(Below.refl _ w).alloc (Nat.le_refl _) _,Lib.fresh_isBuilder 52 5 w,rfl⟩
 ·rintro a W ⟨i,u1,u4,u5,u6,u7,u10,u11,u12,u13,u14,u15,u16,u17,u18,u19,u20,u21,u22,u23,u24,u25,hi,hb,hW,rfl⟩
  have hWs:=hb.size
  refine wpN_seq (of_wp ?_)
  go_wp2
  refine wpN_seq (of_wp ?_)
  go_wp2
  ·rename_i hlt
   have hi' : i < s.size:=by omega
   have hll:=hexT_length s i
   have hsu:=hexT_succ s i hi'
   have hlt256 : s[i].toNat < 256:=s[i].toNat_lt
   have p1:=hdPut w.heap.size (hexT s i) (hd (s[i].toNat / 16)) _ (hd_eq _ (by omega)) W hW (by omega) (by omega)
   have p2:=λ(W2 : World) (hW2 : Lib.IsBuilder 52 5 w.heap.size w.heap.size (Lib.byteCells (hexT s i ++ [hd (s[i].toNat / 16)])) W2) (hb2 : w.heap.size ≤ W2.heap.size)=>hdPut w.heap.size (hexT s i ++ [hd (s[i].toNat / 16)]) (hd (s[i].toNat % 16)) _ (hd_eq _ (by omega)) W2 hW2 (by rw [List.length_append]; simp; omega) hb2
   have hand:=and15 s[i]
   refine wpN_seq (wpN_block ?_)
   refine wpN_seq (of_wp ?_)
   go_wp2
   refine wpN_seq (of_wp ?_)
   go_wp2_with (go_at_call 63; refine p1.mono ?_; rintro e W2 ⟨rfl,hW2,hb2⟩)
   have hs2:=hb2.size
   refine of_wp ?_
   go_wp2_with (go_at_call 63; go_loud (refine (p2 W2 hW2 (by omega)).mono ?_); rintro e W3 ⟨rfl,hW3,hb3⟩)
   refine of_wp ?_
   go_wp2
   exact ⟨⟨i + 1,_,_,_,_,_,_,_,_,_,_,_,_,_,_,_,_,_,_,_,_,_,by omega,hb.trans (hb2.trans hb3),by rw [hsu]; exact hW3,rfl⟩,by simp [at9]; omega⟩
  ·have hi2 : i = s.size:=by omega
   subst hi2
   have p3:=knString w.heap.size w.heap.size (hexT s s.size) W hW hWs
   refine wpN_seq (of_wp ?_)
   go_wp2_with (go_at_call 20; refine p3.mono ?_; rintro e W2 ⟨rfl,hb2⟩)
   refine of_wp ?_
   go_wp2
   go_ret
   exact ⟨rfl,hb.trans hb2⟩
end Go.Kx
