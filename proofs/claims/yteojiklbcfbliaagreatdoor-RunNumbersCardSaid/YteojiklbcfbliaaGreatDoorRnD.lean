/-
  run.act at a line of "tick" and one word: walked.
-/
import Derived.Test.YteojiklbcfbliaaGreatDoorRnC
import Derived.Test.YteojiklbcfbliaaGreatDoorKxBld
import Derived.RegionTactic
import Derived.ChangeAlike
import Derived.BigRegion
import Derived.Deep.QuietTactic
import Derived.BigQuiet
import Derived.WalkSmall
import Derived.Deep.MidRow
import Derived.Laws.ResultCell
set_option linter.unusedVariables false
set_option linter.unusedSimpArgs false
noncomputable section
namespace Go.Ry
open Go Go.Conc Go.Proofs Go.RowKit Go.Kn Go.Kx
def actC (k x : Int) : List Value:=[.int .i64 k,.int .i64 x,.int .i64 0,.int .i64 0,.int .i64 0,.int .i64 0,.int .i64 0,.int .i64 0,.int .i64 0,.int .i64 0,.int .i64 0,.int .i64 0,.int .i64 0,.int .i64 0,.int .i64 0,.int .i64 0,.int .i64 0,.int .i64 0,.string ⟨#[]⟩,.slice none 0 0,.int .i64 0,.string ⟨#[]⟩,.slice none 0 0,.string ⟨#[]⟩]
def tickT (D : ByteArray) : ByteArray:=⟨#[116,105,99,107]⟩ ++ ((⟨#[32]⟩ : ByteArray) ++ D)
theorem append_list (a b : ByteArray) : (a ++ b).data.toList = a.data.toList ++ b.data.toList:=by simp
theorem tickT_list (D : ByteArray) : (tickT D).data.toList = [116,105,99,107] ++ 32 :: D.data.toList:=by
 unfold tickT
 rw [append_list,append_list]
 rfl
theorem tickT_size (D : ByteArray) : (tickT D).size = D.size + 5:=by
 unfold tickT
 rw [ByteArray.size_append,ByteArray.size_append]
 have : (⟨#[116,105,99,107]⟩ : ByteArray).size = 4:=rfl
 have : (⟨#[32]⟩ : ByteArray).size = 1:=rfl
 omega
theorem split_tick (D : ByteArray) (hD : (32 : UInt8) ∉ D.data.toList) : Lib.countB (tickT D) ⟨#[32]⟩ = 1 ∧ Lib.splitB ⟨#[32]⟩ 0 1 (tickT D) = [⟨#[116,105,99,107]⟩,D]:=by
 have h1 : Lib.indexB (tickT D) ⟨#[32]⟩ = ((4 : Nat) : Int):=by
  show Lib.index (tickT D).data.toList [32] = _
  rw [tickT_list,index_at _ _ _ (by decide)]
  rfl
 have h2 : Lib.indexB D ⟨#[32]⟩ = -1:=index_no _ _ hD
 have e1 : (tickT D).extract 0 (4 + 0) = ⟨#[116,105,99,107]⟩:=by
  refine ba_inj ?_
  rw [ByteArray.data_extract,Array.toList_extract,tickT_list]
  simp [List.extract]
 have e2 : (tickT D).extract (4 + 1) (tickT D).size = D:=by
  refine ba_inj ?_
  rw [ByteArray.data_extract,Array.toList_extract,tickT_size,tickT_list]
  show List.take (D.size + 5 - 5) D.data.toList = D.data.toList
  refine List.take_of_length_le ?_
  rw [Array.length_toList]
  exact Nat.le_refl _
 constructor
 ·rw [Lib.countB_hit _ _ 4 (by decide) h1,show (⟨#[32]⟩ : ByteArray).size = 1 from rfl,e2,Lib.countB_miss _ _ h2]
 ·rw [Lib.splitB_hit _ _ _ _ 4 h1,show (⟨#[32]⟩ : ByteArray).size = 1 from rfl,e1,e2,Lib.splitB_zero]
theorem split_ok (D : ByteArray) (hD : (32 : UInt8) ∉ D.data.toList) (hs : D.size ≤ 100) (w : World) (mx : Int) (hm : w.cell? ⟨0,0,none⟩ = some (.int .i64 mx)) :
 Calls Tryz.prog 30 #[.string (tickT D),.string ⟨#[32]⟩] w λe w'=>e = .returned (.slice (some ⟨w.heap.size,0,none⟩) 2 2) ∧ w' = w.alloc (.cells #[.string ⟨#[116,105,99,107]⟩,.string D] 9):=by
 have h:=Any.strings_Split lays146 (by kernel_rfl) (tickT D) ⟨#[32]⟩ mx w (by rw [tickT_size]; omega) hm (by decide)
 obtain ⟨e1,e2⟩:=split_tick D hD
 rw [e1,e2] at h
 exact h
structure Gl (w : World) : Prop where
 tab : Tab w
 max : ∃ mx,w.cell? ⟨0,0,none⟩ = some (.int .i64 mx)
 pos : 0 < w.heap.size
theorem Gl.on {w W : World} (h : Gl w) (hb : Below w.heap.size w W) : Gl W :=
 ⟨h.tab.on hb,let ⟨m,hm⟩:=h.max; ⟨m,(hb.cell h.pos).trans hm⟩,Nat.lt_of_lt_of_le h.pos hb.size⟩
theorem blk_first (w : World) (C : Array Value) (t : TypeId) (o : Obj) (W : World) (hb : Below ((w.alloc (.cells C t)).alloc o).heap.size ((w.alloc (.cells C t)).alloc o) W) : W.heap[w.heap.size]? = some (.cells C t (0,0)):=by
 have e : ((w.alloc (.cells C t)).alloc o).heap = (w.heap.push (.cells C t)).push o:=rfl
 have hs : ((w.alloc (.cells C t)).alloc o).heap.size = w.heap.size + 2:=by rw [e,Array.size_push,Array.size_push]
 rw [hb.block w.heap.size (by rw [hs]; omega),e,Array.getElem?_push,if_neg (by rw [Array.size_push]; omega),Array.getElem?_push,if_pos rfl]
theorem blk_cell {W : World} {b : Nat} {C : Array Value} {t : TypeId} (h : W.heap[b]? = some (.cells C t (0,0))) (i : Nat) : W.cell? ⟨b,i,none⟩ = C[i]?:=by
 unfold World.cell?
 rw [h]
 rfl
theorem blk_there {W : World} {b : Nat} {C : Array Value} {t : TypeId} (h : W.heap[b]? = some (.cells C t (0,0))) : W.there b 0 C.size:=λj hj=>by
 rw [Nat.zero_add,blk_cell h]
 refine ⟨by simp [hj],?_⟩
 unfold World.frozen?
 rw [h]
 simp
theorem alloc_there (W : World) (C : Array Value) (t : TypeId) : (W.alloc (.cells C t)).there W.heap.size 0 C.size :=
 blk_there (W:=W.alloc (.cells C t)) (t:=t) (by show (W.heap.push _)[W.heap.size]? = _; simp)
theorem setCells_below {B : Nat} {w W : World} (h : Below B w W) (b : Nat) (hb : B ≤ b) : ∀ (vs : List Value) (o : Nat) (V : World),Below B w V → Below B w (V.setCells b o vs)
 | [],o,V,hV=>hV
 | v :: vs,o,V,hV=>setCells_below h b hb vs (o + 1) (V.setCell ⟨b,o,none⟩ v) (hV.setCell hb v)
theorem cell_last (w : World) (o : Obj) (C : Array Value) (t : TypeId) (i : Nat) : ((w.alloc o).alloc (.cells C t)).cell? ⟨w.heap.size + 1,i,none⟩ = C[i]?:=by
 have hs : w.heap.size + 1 = (w.alloc o).heap.size:=by
  show w.heap.size + 1 = (w.heap.push o).size
  rw [Array.size_push]
 exact World.cell?_alloc_at (w:=w.alloc o) C t (w.heap.size + 1) i hs
theorem size_two (w : World) (o p : Obj) : ((w.alloc o).alloc p).heap.size = w.heap.size + 2:=by
 show ((w.heap.push o).push p).size = _
 rw [Array.size_push,Array.size_push]
theorem actC_one (k x : Int) : (actC k x).toArray.all (·.oneCell') = true:=by
 unfold actC
 simp [Value.oneCell']
theorem actC_size (k x : Int) : (actC k x).toArray.size = 24:=rfl
theorem results_end {fn : Func} {p u : Tmp} {ty : TypeId} (h : fn.results = #[.cell p ty,.tmp u]) {tmps : Array Value} {P : Program} {w : World} {b : Nat} {v y : Value} (hp : tmps.getD p undef = .pointer (some ⟨b,0,none⟩)) (hu : tmps.getD u undef = y)
 (hl : (loadVar ty ⟨b,0,none⟩).run P w = .ok v w) : (results fn tmps).run P w = .ok (.tuple #[v,y]) w:=by
 rw [results_cell_tmp h,hp,hu]
 have ha : (asAddr (Value.pointer (some ⟨b,0,none⟩))).run P w = .ok ⟨b,0,none⟩ w:=rfl
 rw [ha]
 show ((loadVar ty _).run P w).andThen _ = _
 rw [hl]
 rfl
theorem blk_alloc {W : World} {b : Nat} {o : Obj} (h : W.heap[b]? = some o) (p : Obj) : (W.alloc p).heap[b]? = some o:=by
 have hb : b < W.heap.size:=by
  rcases Nat.lt_or_ge b W.heap.size with h1 | h1
  ·exact h1
  ·rw [Array.getElem?_eq_none h1] at h; cases h
 show (W.heap.push p)[b]? = _
 rw [Array.getElem?_push,if_neg (by omega)]
 exact h
theorem blk_alloc_there {W : World} {b : Nat} {C : Array Value} {t : TypeId} (h : W.heap[b]? = some (.cells C t (0,0))) : ∀ o,(W.alloc o).there b 0 C.size:=λo=>blk_there (blk_alloc h o)
theorem act_there (W : World) (k x : Int) : (W.alloc (.cells (actC 0 0).toArray 37)).there W.heap.size 0 (actC k x).toArray.size:=by
 have h:=alloc_there W (actC 0 0).toArray 37
 rw [actC_size] at h ⊢
 exact h
theorem act_range (W : World) (k x : Int) : ((W.alloc (.cells (actC 0 0).toArray 37)).setCells W.heap.size 0 (actC k x)).rangeAt W.heap.size 0 (actC k x) :=
 World.rangeAt_setCells_same _ W.heap.size 0 (actC k x) (act_there W k x)
theorem act_blk {W : World} {b : Nat} (h : W.heap[b]? = some (.cells (actC 0 0).toArray 37 (0,0))) (o : Obj) (b' : Nat) (l : List Value) (k x : Int) : ((W.alloc o).setCells b' 0 l).there b 0 (actC k x).toArray.size:=by
 have h:=blk_there (blk_alloc h o)
 rw [actC_size] at h ⊢
 exact World.there_setCells h b' 0 l
set_option maxHeartbeats 2000000 in
set_option maxRecDepth 100000 in
theorem act_tick (D : ByteArray) (x : Int) (b : Bool) (hD : (32 : UInt8) ∉ D.data.toList) (hs : D.size ≤ 100) (w : World) (hg : Gl w)
 (hn : ∀ W,Below w.heap.size w W → Calls Tryz.prog 11 #[.string D] W λe w'=>e = .returned (.tuple #[.int .i64 x,.bool b]) ∧ Below W.heap.size W w') :
 Calls Tryz.prog 12 #[.string (tickT D)] w λe w'=>e = .returned (.tuple #[.agg (if b then actC 3 x else actC 0 0).toArray,.bool b]) ∧ Below w.heap.size w w':=by
 obtain ⟨mx,hm⟩:=hg.max
 have hsp:=λW (h : W.cell? ⟨0,0,none⟩ = some (.int .i64 mx))=>split_ok D hD hs W mx h
 have hp:=hg.pos
 have hb0 : ∀ o,Below w.heap.size w (w.alloc o):=λo=>Below.alloc (Below.refl _ _) (Nat.le_refl _) _
 have hb2 : ∀ o p,Below w.heap.size w ((w.alloc o).alloc p):=λo p=>Below.alloc (hb0 o) (hb0 o).size p
 have hnum : ∀ o,Calls Tryz.prog 32 #[.slice (some ⟨w.heap.size + 1,1,none⟩) 1 1] ((w.alloc o).alloc (.cells #[.string ⟨#[116,105,99,107]⟩,.string D] 9)) λe w'=>Nums1 ((w.alloc o).alloc (.cells #[.string ⟨#[116,105,99,107]⟩,.string D] 9)) x b e w':=λo =>
  numbers_one D x b (w.heap.size + 1) 1 1 _ (by rw [size_two]; omega) (by rw [cell_last]; rfl) (λW hW=>hn W ((hb2 _ _).trans (hW.mono (hb2 _ _).size)))
 clear hn
 have hi37 : (Tryz.prog.info? 37).map (·.size) = some 24:=by kernel_rfl
 cases b with
 | false =>
  go_enter Tryz.func12,Tryz.ntmps12
  go_wp2_with (first | (go_at_call 30; refine (hsp _ (((hb0 _).cell hp).trans hm)).mono ?_; rintro e W2 ⟨rfl,hW2⟩; have h9:=hW2.symm; clear hW2; subst h9) | (go_at_call 31; refine (plain_tick _).mono ?_; rintro e W4 ⟨rfl,hW4⟩; have h9:=hW4.symm; clear hW4; subst h9) | (go_at_call 32; refine (hnum _).mono ?_; rintro e W3 ⟨hb3,⟨_,rfl⟩ | ⟨h,_⟩⟩; rotate_left; cases h; have hth:=blk_there (blk_first _ _ _ _ _ hb3); have hbb:=(hb2 _ _).trans (hb3.mono (hb2 _ _).size); clear hb3 hnum hsp hb0 hb2) | (refine wpList_store_mid rfl 37 (.tmp 2) (.tmp 39) rfl w.heap.size 0 (actC 0 0).toArray rfl rfl hth hi37 (actC_one 0 0) ?_))
  have hld:=run_loadVar_mid (P:=Tryz.prog) (W3.setCells w.heap.size 0 (actC 0 0)) w.heap.size 0 37 (actC 0 0) _ (World.rangeAt_setCells_same W3 w.heap.size 0 (actC 0 0) hth) Tryz.underlying37 rfl hi37
  exact bodyPost_ret (v:=.tuple #[.agg (actC 0 0).toArray,.bool false]) (results_end rfl rfl rfl hld) rfl ⟨rfl,setCells_below hbb _ (Nat.le_refl _) _ _ _ hbb⟩
 | true =>
  go_enter Tryz.func12,Tryz.ntmps12
  go_wp2_with (first | (go_at_call 30; refine (hsp _ (((hb0 _).cell hp).trans hm)).mono ?_; rintro e W2 ⟨rfl,hW2⟩; have h9:=hW2.symm; clear hW2; subst h9) | (go_at_call 31; refine (plain_tick _).mono ?_; rintro e W4 ⟨rfl,hW4⟩; have h9:=hW4.symm; clear hW4; subst h9) | (go_at_call 32; refine (hnum _).mono ?_; rintro e W3 ⟨hb3,⟨h,_⟩ | ⟨_,g,c,rfl,hg1,hg2,hg3⟩⟩; cases h; have hbl : W3.heap[w.heap.size]? = some (.cells (actC 0 0).toArray 37 (0,0)):=blk_first _ _ _ _ _ hb3; have hth:=act_blk hbl; clear hbl; have hbb:=(hb2 _ _).trans (hb3.mono (hb2 _ _).size); clear hb3 hnum hsp hb0 hb2) | (refine wpList_store_mid rfl 37 (.tmp 9) (.tmp 44) rfl W3.heap.size 0 (actC 3 x).toArray rfl rfl ?ht hi37 (actC_one 3 x) ?_; case ht=>exact act_there W3 3 x) | (refine wpList_load_mid rfl 37 (.tmp 9) rfl W3.heap.size 0 rfl (actC 3 x) _ ?hc Tryz.underlying37 rfl hi37 ?_; case hc=>exact act_range W3 3 x) | (refine wpList_store_mid rfl 37 (.tmp 2) (.tmp 55) rfl w.heap.size 0 (actC 3 x).toArray rfl rfl ?ht hi37 (actC_one 3 x) ?_; case ht=>exact hth _ _ _ 3 x))
  have hth1:=hth (.cells (actC 0 0).toArray 37) W3.heap.size (actC 3 x) 3 x
  have hld:=run_loadVar_mid (P:=Tryz.prog) (((W3.alloc (.cells (actC 0 0).toArray 37)).setCells W3.heap.size 0 (actC 3 x)).setCells w.heap.size 0 (actC 3 x)) w.heap.size 0 37 (actC 3 x) _ (World.rangeAt_setCells_same _ w.heap.size 0 (actC 3 x) hth1) Tryz.underlying37 rfl hi37
  have hb5 : Below w.heap.size w (W3.alloc (.cells (actC 0 0).toArray 37)):=hbb.alloc hbb.size _
  have hb6:=setCells_below hbb W3.heap.size hbb.size (actC 3 x) 0 _ hb5
  have hb7:=setCells_below hbb w.heap.size (Nat.le_refl _) (actC 3 x) 0 _ hb6
  exact bodyPost_ret (v:=.tuple #[.agg (actC 3 x).toArray,.bool true]) (results_end rfl rfl rfl hld) rfl ⟨rfl,hb7⟩
end Go.Ry
