/-
  run.line at an act of one number: walked.
-/
import Derived.Test.YteojiklbcfbliaaGreatDoorRnD
import Derived.Deep.RegionWith
set_option linter.unusedVariables false
set_option linter.unusedSimpArgs false
noncomputable section
namespace Go.Ry
open Go Go.Conc Go.Proofs Go.RowKit Go.Kn Go.Kx
def msgC : List Value:=[.int .i64 0,.int .i64 0,.int .i64 0,.int .i64 0,.int .i64 0,.int .i64 0,.int .i64 0,.int .i64 0,.int .i64 0,.int .i64 0,.int .i64 0,.int .i64 0,.int .i64 0,.int .i64 0,.string ⟨#[]⟩,.slice none 0 0,.int .i64 0,.string ⟨#[]⟩,.slice none 0 0,.string ⟨#[]⟩]
theorem msgC_one : msgC.toArray.all (·.oneCell') = true:=by
 unfold msgC
 simp [Value.oneCell']
theorem msg_range (w : World) (k x : Int) : (w.alloc (.cells (actC k x).toArray 37)).rangeAt w.heap.size 4 msgC:=λj v hv=>by
 rw [World.cell?_alloc_at (w:=w) _ _ _ _ rfl]
 have e : (actC k x).drop 4 = msgC:=rfl
 rw [← e,List.getElem?_drop] at hv
 rw [List.getElem?_toArray]
 exact hv
theorem msg_there (w : World) (o : Obj) : ((w.alloc o).alloc (.cells msgC.toArray 35)).there (w.heap.size + 1) 0 msgC.toArray.size:=by
 have hs : w.heap.size + 1 = (w.alloc o).heap.size:=by
  show w.heap.size + 1 = (w.heap.push o).size
  rw [Array.size_push]
 rw [hs]
 exact alloc_there _ _ _
structure Line1 (w : World) (x : Int) (W : World) : Prop where
 below : Below w.heap.size w W
 size : w.heap.size + 2 ≤ W.heap.size
 c0 : W.cell? ⟨w.heap.size,0,none⟩ = some (.int .i64 3)
 c1 : W.cell? ⟨w.heap.size,1,none⟩ = some (.int .i64 x)
theorem line1_of (w : World) (x : Int) : Line1 w x (((w.alloc (.cells (actC 3 x).toArray 37)).alloc (.cells msgC.toArray 35)).setCells (w.heap.size + 1) 0 msgC):=by
 have hb0 : Below w.heap.size w (w.alloc (.cells (actC 3 x).toArray 37)):=Below.alloc (Below.refl _ _) (Nat.le_refl _) _
 have hb1:=Below.alloc hb0 hb0.size (.cells msgC.toArray 35)
 have hb2:=setCells_below hb1 (w.heap.size + 1) (Nat.le_succ _) msgC 0 _ hb1
 have hc : ∀ i,(((w.alloc (.cells (actC 3 x).toArray 37)).alloc (.cells msgC.toArray 35)).setCells (w.heap.size + 1) 0 msgC).cell? ⟨w.heap.size,i,none⟩ = (actC 3 x).toArray[i]?:=λi=>by
  rw [World.cell?_setCells_out _ _ _ _ _ (λh=>by have h : w.heap.size = w.heap.size + 1:=h; omega)]
  rw [World.cell?_alloc_past (w:=w.alloc _) _ _ _ (by show w.heap.size < (w.heap.push _).size; rw [Array.size_push]; omega)]
  exact World.cell?_alloc_at (w:=w) _ _ _ _ rfl
 refine ⟨hb2,?_,hc 0,hc 1⟩
 have h3:=setCells_below (Below.refl ((w.alloc (.cells (actC 3 x).toArray 37)).alloc (.cells msgC.toArray 35)).heap.size ((w.alloc (.cells (actC 3 x).toArray 37)).alloc (.cells msgC.toArray 35))) 0
 have h4 : ∀ (vs : List Value) (o : Nat) (V : World),V.heap.size ≤ (V.setCells (w.heap.size + 1) o vs).heap.size:=λvs=>by
  induction vs with
  | nil=>intro o V; exact Nat.le_refl _
  | cons v vs ih =>
   intro o V
   refine Nat.le_trans ?_ (ih (o + 1) (V.setCell ⟨w.heap.size + 1,o,none⟩ v))
   exact (Below.setCell (Below.refl 0 V) (Nat.zero_le _) v).size
 have h5:=h4 msgC 0 ((w.alloc (.cells (actC 3 x).toArray 37)).alloc (.cells msgC.toArray 35))
 rw [size_two] at h5
 exact h5
set_option maxHeartbeats 1000000 in
set_option maxRecDepth 100000 in
theorem line_tick (x : Int) (h1 : -9223372036854775808 < x) (h2 : x ≤ 9223372036854775807) (hs : (Lib.itoa x).length ≤ 20) (w : World) (hg : Gl w) :
 Calls Tryz.prog 16 #[.agg (actC 3 x).toArray] w λe w'=>e = .returned (.string (tickT ⟨(Lib.itoa x).toArray⟩)) ∧ Below w.heap.size w w':=by
 have hw:=λ(A : Nat) (W : World) (hb : Below w.heap.size w W) (hA : A < W.heap.size) (hc : W.cell? ⟨A,0,none⟩ = some (.int .i64 x))=>words_one ⟨#[116,105,99,107]⟩ x (by decide) h1 h2 hs A W (hg.tab.on hb) hA hc
 have hi35 : (Tryz.prog.info? 35).map (·.size) = some 20:=by kernel_rfl
 have hi37 : (Tryz.prog.info? 37).map (·.size) = some 24:=by kernel_rfl
 have hL:=line1_of w x
 refine calls_of_wpN Tryz.func16 rfl ?_
 simp only [Tryz.ntmps16,List.size_toArray,List.length_cons,List.length_nil,Nat.reduceAdd,Nat.reduceSub,Array.replicate_succ,
  Array.replicate_zero,List.push_toArray,List.append_toArray,List.nil_append,List.cons_append]
 refine wpN_seq (of_wp ?_)
 go_wp2
 refine wpN_seq (of_wp ?_)
 go_wp2_with (first | (refine wpList_load_mid rfl 35 (.tmp 6) rfl w.heap.size 4 rfl msgC _ ?hc Tryz.underlying35 rfl hi35 ?_; case hc=>exact msg_range w 3 x) | (refine wpList_store_mid rfl 35 (.tmp 3) (.tmp 7) rfl (w.heap.size + 1) 0 msgC.toArray rfl rfl ?ht hi35 msgC_one ?_; case ht=>exact msg_there w _))
 refine (λ(h : ∀ W,Line1 w x W → WpN Tryz.prog _ _ _ W)=>h _ hL) ?_
 clear hL
 intro W hL
 obtain ⟨hb,hsz,hc0,hc1⟩:=hL
 have hlt : w.heap.size < W.heap.size:=by omega
 refine wpN_seq (of_wp ?_)
 go_wp2
 refine wpN_seq ?_
 refine wpN_seq (of_wp ?_)
 go_wp2
 refine wpN_block ?_
 refine of_wp ?_
 go_wp2_with fail
 have hB : ∀ o p,Below w.heap.size w (((W.alloc o).alloc p).drew):=λo p=>(Below.alloc (Below.alloc hb hb.size o) (Below.alloc hb hb.size o).size p).drew
 have hcall : ∀ o,Calls Tryz.prog 14 #[.string ⟨#[116,105,99,107]⟩,.slice (some ⟨W.heap.size + 1,0,none⟩) 1 1] (((W.alloc o).alloc (.cells #[.int .i64 x] 3)).drew) λe w'=>e = .returned (.string (tickT ⟨(Lib.itoa x).toArray⟩)) ∧ Below w.heap.size w w':=λo =>
  (hw (W.heap.size + 1) _ (hB o _) (by show _ < ((W.alloc o).alloc _).heap.size; rw [size_two]; omega) (by rw [World.cell?_drew,cell_last]; rfl)).mono λe w' h=>⟨h.1,(hB o _).trans (h.2.mono (hB o _).size)⟩
 clear hw hB
 go_region_with (go_at_call 14; refine (hcall _).mono ?_; rintro e W5 ⟨rfl,hb5⟩)
 all_goals go_wp2
 all_goals go_ret
 all_goals exact ⟨rfl,hb5⟩
end Go.Ry
