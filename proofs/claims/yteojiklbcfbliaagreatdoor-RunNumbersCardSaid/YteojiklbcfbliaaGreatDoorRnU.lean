/-
  The law RunNumbers within the limits: walked.
-/
import Derived.Test.YteojiklbcfbliaaGreatDoorRnT
set_option linter.unusedVariables false
set_option linter.unusedSimpArgs false
noncomputable section
namespace Go.Ry
open Go Go.Conc Go.Proofs Go.RowKit Go.Kn Go.Kx
theorem textZ (m : Int) : textT (zeroT m) = (⟨#[110,111,100,101,115,32,51,10,116,105,99,107,32,48]⟩ : ByteArray) ++ dec m:=by
 refine ba_inj ?_
 unfold textT zeroT
 rw [append_list,append_list,append_list]
 rfl
theorem out_eq (x : Int) : (⟨(outL (dec x)).toArray⟩ : ByteArray) = ((⟨#[110,111,100,101,115,32,51,10,116,105,99,107,32]⟩ : ByteArray) ++ dec x) ++ ⟨#[10]⟩:=by
 refine ba_inj ?_
 rw [append_list,append_list]
 show outL (dec x) = _
 unfold outL
 rw [tickT_list]
 show ([110,111,100,101,115,32,51] ++ [10] ++ (([116,105,99,107] ++ 32 :: (dec x).data.toList) ++ [10]) : List UInt8) = _
 simp
theorem cell_lt {W : World} {g i : Nat} {v : Value} (h : W.cell? ⟨g,i,none⟩ = some v) : g < W.heap.size:=by
 rcases Nat.lt_or_ge g W.heap.size with h1 | h1
 ·exact h1
 ·unfold World.cell? at h
  rw [Array.getElem?_eq_none h1] at h
  cases h
set_option maxHeartbeats 2000000 in
set_option maxRecDepth 100000 in
theorem law_fit (x m : Int) (hm : max x (-x) = m) (hf : fitsB x = true) (w : World) (hg : Gl w) (ha : Calls Tryz.prog 4 #[] w λe w'=>e = .returned (.bool true) ∧ Below w.heap.size w w') :
 Calls Tryz.prog 3 #[.int .i64 x] w λe w'=>e = .returned (.bool true) ∧ Below w.heap.size w w':=by
 obtain ⟨hlo,hhi⟩ : -9007199254740992 ≤ x ∧ x ≤ 9007199254740992:=of_decide_eq_true hf
 have hm0 : 0 ≤ m:=by omega
 have hm1 : m ≤ 9007199254740992:=by omega
 have hds:=dec_sz x (by omega) (by omega)
 have hdm:=dec_sz m (by omega) (by omega)
 have k1:=λW (h : Below w.heap.size w W)=>dec_ok x (by omega) (by omega) W
 have k1m:=λW (h : Below w.heap.size w W)=>dec_ok m (by omega) (by omega) W
 have k2:=λW (h : Below w.heap.size w W)=>parse_own x (by omega) (by omega) W (hg.on h)
 have k2m:=λW (h : Below w.heap.size w W)=>parse_zero m hm0 (by omega) W (hg.on h)
 have k3:=λW (h : Below w.heap.size w W)=>act_print x (by omega) (by omega) w hg W h
 rw [textZ] at k2m
 rw [hf] at k2
 unfold textT at k2
 refine calls_of_wpN Tryz.func3 rfl ?_
 simp only [Tryz.ntmps3,List.size_toArray,List.length_cons,List.length_nil,Nat.reduceAdd,Nat.reduceSub,Array.replicate_succ,
  Array.replicate_zero,List.push_toArray,List.append_toArray,List.nil_append,List.cons_append]
 refine wpN_seq (of_wp ?_)
 go_wp2
 refine wpN_seq (of_wp ?_)
 go_wp2_with (go_at_call 4; refine ha.mono ?_; rintro e W1 ⟨rfl,hb1⟩; clear ha)
 refine wpN_seq (of_wp ?_)
 go_wp2
 refine wpN_seq (of_wp ?_)
 go_wp2
 refine wpN_seq (of_wp ?_)
 go_wp2_with (first | (go_at_call 6; refine (k1 W1 hb1).mono ?_; rintro e W2 ⟨rfl,hb2⟩; replace hb2:=hb1.trans (hb2.mono hb1.size)) | (go_at_call 5; refine (k2 W2 hb2).mono ?_; rintro e W3 ⟨hb3,⟨h,_⟩ | ⟨_,g,c,rfl,hgc⟩⟩; cases h; replace hb3:=hb2.trans (hb3.mono hb2.size)))
 have k4:=k3 W3 hb3
 rw [hf] at k4
 clear k2 k3
 have hgl:=cell_lt hgc
 refine wpN_seq (of_wp ?_)
 go_wp2_with (go_at_call 7; refine k4.mono ?_; rintro e W5 ⟨hb5,⟨h,_⟩ | ⟨_,rfl⟩⟩; cases h)
 have hb4 : Below W3.heap.size W3 W5:=by
  have ha:=Below.alloc (Below.refl W3.heap.size W3) (Nat.le_refl _) (.cells (actC 3 x).toArray 37)
  exact ha.trans (hb5.mono ha.size)
 have hgc5 : W5.cell? ⟨g,1,none⟩ = some (.int .i64 x):=(hb4.cell hgl).trans hgc
 have hg5 : g < W5.heap.size:=Nat.lt_of_lt_of_le hgl hb4.size
 have hb6 : Below w.heap.size w W5:=hb3.trans (hb4.mono hb3.size)
 clear hb5 k4 hb4 hgc hgl
 rw [out_eq]
 refine wpN_seq (of_wp ?_)
 go_wp2
 refine wpN_seq (of_wp ?_)
 go_wp2_with (first | (go_at_call 6; refine (k1m W5 hb6).mono ?_; rintro e W6 ⟨rfl,hb7⟩) | (go_at_call 5; refine (k2m W6 (hb6.trans (hb7.mono hb6.size))).mono ?_; rintro e W7 ⟨hb8,⟨_,rfl⟩ | ⟨h,_⟩⟩; rotate_left; cases h))
 have hgc7 : W7.cell? ⟨g,1,none⟩ = some (.int .i64 x):=(hb8.cell (Nat.lt_of_lt_of_le hg5 hb7.size)).trans ((hb7.cell hg5).trans hgc5)
 have hb9 : Below w.heap.size w W7:=(hb6.trans (hb7.mono hb6.size)).trans (hb8.mono (hb6.trans (hb7.mono hb6.size)).size)
 have k5:=k1 W7 hb9
 clear k1 k1m k2m hgc5 hg5 hb6 hb7 hb8
 refine wpN_seq (of_wp ?_)
 go_wp2_with (first | (go_at_call 8; refine (num_ok _ _).mono ?_; rintro e W9 ⟨rfl,hW9⟩; have h9:=hW9.symm; clear hW9; subst h9) | (go_at_call 6; refine k5.mono ?_; rintro e W8 ⟨rfl,hb10⟩))
 refine of_wp ?_
 go_wp2
 go_ret
 exact ⟨rfl,hb9.trans (hb10.mono hb9.size)⟩
theorem law_ok (x : Int) (h1 : -9223372036854775808 ≤ x) (h2 : x ≤ 9223372036854775807) (w : World) (hg : Gl w) (ha : Calls Tryz.prog 4 #[] w λe w'=>e = .returned (.bool true) ∧ Below w.heap.size w w') :
 Calls Tryz.prog 3 #[.int .i64 x] w λe w'=>e = .returned (.bool true) ∧ Below w.heap.size w w':=by
 by_cases h0 : x = -9223372036854775808
 ·subst h0; exact law_least w ha
 ·cases hf : fitsB x with
  | true=>exact law_fit x _ rfl hf w hg ha
  | false=>exact law_not x (by omega) h2 hf w hg ha
end Go.Ry
