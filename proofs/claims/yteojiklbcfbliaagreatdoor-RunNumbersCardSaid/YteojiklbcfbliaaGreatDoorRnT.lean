/-
  The law RunNumbers: walked.
-/
import Derived.Test.YteojiklbcfbliaaGreatDoorRnR
set_option linter.unusedVariables false
set_option linter.unusedSimpArgs false
noncomputable section
namespace Go.Ry
open Go Go.Conc Go.Proofs Go.RowKit Go.Kn Go.Kx
theorem num_ok (k : Int) (w : World) : Calls Tryz.prog 8 #[.int .i64 k] w λe w'=>e = .returned (.int .i64 k) ∧ w' = w:=by
 go_enter Tryz.func8,Tryz.ntmps8
 go_wp2
 go_ret
 exact ⟨rfl,rfl⟩
theorem law_least (w : World) (ha : Calls Tryz.prog 4 #[] w λe w'=>e = .returned (.bool true) ∧ Below w.heap.size w w') :
 Calls Tryz.prog 3 #[.int .i64 (-9223372036854775808)] w λe w'=>e = .returned (.bool true) ∧ Below w.heap.size w w':=by
 go_enter Tryz.func3,Tryz.ntmps3
 go_wp2_with (go_at_call 4; refine ha.mono ?_; rintro e W1 ⟨rfl,hb1⟩; clear ha)
 go_ret
 exact ⟨rfl,hb1⟩
theorem act_print (x : Int) (h1 : -9223372036854775808 < x) (h2 : x ≤ 9223372036854775807) (w : World) (hg : Gl w) (W : World) (h : Below w.heap.size w W) :
 Calls Tryz.prog 7 #[.int .i64 3,.slice (some ⟨W.heap.size,0,none⟩) 1 1] (W.alloc (.cells (actC 3 x).toArray 37)) λe w'=>Printed (W.alloc (.cells (actC 3 x).toArray 37)) (dec x) (fitsB x) e w' :=
 print_own x h1 h2 W.heap.size 1 _ (hg.on (h.alloc h.size _)) (by show _ < (W.heap.push _).size; rw [Array.size_push]; omega) (λj v hv=>by
  rw [Nat.zero_add,World.cell?_alloc_at (w:=W) _ _ _ _ rfl,List.getElem?_toArray]; exact hv)
set_option maxHeartbeats 1000000 in
set_option maxRecDepth 100000 in
theorem law_not (x : Int) (h1 : -9223372036854775808 < x) (h2 : x ≤ 9223372036854775807) (hf : fitsB x = false) (w : World) (hg : Gl w) (ha : Calls Tryz.prog 4 #[] w λe w'=>e = .returned (.bool true) ∧ Below w.heap.size w w') :
 Calls Tryz.prog 3 #[.int .i64 x] w λe w'=>e = .returned (.bool true) ∧ Below w.heap.size w w':=by
 have hnf : ¬ (-9007199254740992 ≤ x ∧ x ≤ 9007199254740992):=of_decide_eq_false hf
 have hds:=dec_sz x h1 h2
 have k1:=λW (h : Below w.heap.size w W)=>dec_ok x (by omega) (by omega) W
 have k2:=λW (h : Below w.heap.size w W)=>parse_own x h1 h2 W (hg.on h)
 have k3:=λW (h : Below w.heap.size w W)=>act_print x h1 h2 w hg W h
 rw [hf] at k2
 unfold textT at k2
 refine calls_of_wpN Tryz.func3 rfl ?_
 simp only [Tryz.ntmps3,List.size_toArray,List.length_cons,List.length_nil,Nat.reduceAdd,Nat.reduceSub,Array.replicate_succ,
  Array.replicate_zero,List.push_toArray,List.append_toArray,List.nil_append,List.cons_append]
 refine wpN_seq (of_wp ?_)
 go_wp2
 refine wpN_seq (of_wp ?_)
 go_wp2_with (go_at_call 4; refine ha.mono ?_; rintro e W1 ⟨rfl,hb1⟩; clear ha)
 by_cases hlo : -9007199254740992 ≤ x
 ·have hhi : ¬ x ≤ 9007199254740992:=λh=>hnf ⟨hlo,h⟩
  refine wpN_seq (of_wp ?_)
  go_wp2
  refine wpN_seq (of_wp ?_)
  go_wp2
  refine wpN_seq (of_wp ?_)
  go_wp2_with (first | (go_at_call 6; refine (k1 W1 hb1).mono ?_; rintro e W2 ⟨rfl,hb2⟩; replace hb2:=hb1.trans (hb2.mono hb1.size)) | (go_at_call 5; refine (k2 W2 hb2).mono ?_; rintro e W3 ⟨hb3,⟨_,rfl⟩ | ⟨h,_⟩⟩; rotate_left; cases h; replace hb3:=hb2.trans (hb3.mono hb2.size)))
  have k4:=k3 W3 hb3
  rw [hf] at k4
  clear k1 k2 k3
  refine wpN_seq (of_wp ?_)
  go_wp2_with (go_at_call 7; refine k4.mono ?_; rintro e W5 ⟨hb5,⟨_,rfl⟩ | ⟨h,_⟩⟩; rotate_left; cases h)
  have hb6 : Below w.heap.size w W5:=by
   have ha:=hb3.alloc hb3.size (.cells (actC 3 x).toArray 37)
   exact ha.trans (hb5.mono ha.size)
  clear hb5 k4
  refine wpN_seq (of_wp ?_)
  go_wp2_with (go_at_call 8; refine (num_ok _ _).mono ?_; rintro e W9 ⟨rfl,hW9⟩; have h9:=hW9.symm; clear hW9; subst h9)
  go_ret
  exact ⟨rfl,hb6⟩
 ·refine wpN_seq (of_wp ?_)
  go_wp2
  refine wpN_seq (of_wp ?_)
  go_wp2
  refine wpN_seq (of_wp ?_)
  go_wp2_with (first | (go_at_call 6; refine (k1 W1 hb1).mono ?_; rintro e W2 ⟨rfl,hb2⟩; replace hb2:=hb1.trans (hb2.mono hb1.size)) | (go_at_call 5; refine (k2 W2 hb2).mono ?_; rintro e W3 ⟨hb3,⟨_,rfl⟩ | ⟨h,_⟩⟩; rotate_left; cases h; replace hb3:=hb2.trans (hb3.mono hb2.size)))
  have k4:=k3 W3 hb3
  rw [hf] at k4
  clear k1 k2 k3
  refine wpN_seq (of_wp ?_)
  go_wp2_with (go_at_call 7; refine k4.mono ?_; rintro e W5 ⟨hb5,⟨_,rfl⟩ | ⟨h,_⟩⟩; rotate_left; cases h)
  have hb6 : Below w.heap.size w W5:=by
   have ha:=hb3.alloc hb3.size (.cells (actC 3 x).toArray 37)
   exact ha.trans (hb5.mono ha.size)
  clear hb5 k4
  refine wpN_seq (of_wp ?_)
  go_wp2_with (go_at_call 8; refine (num_ok _ _).mono ?_; rintro e W9 ⟨rfl,hW9⟩; have h9:=hW9.symm; clear hW9; subst h9)
  go_ret
  exact ⟨rfl,hb6⟩
end Go.Ry
