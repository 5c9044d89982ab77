/-
  The walks of (*disk.Disk).Sync, of sum.Hash, of free and Put of the vault.
-/
import Derived.Test.YteojiklbcfbliaaGreatDoorLay
import Derived.Scope
import Derived.WalkMore
import Derived.Deep.Cut
import Derived.Maps.AppendAt
set_option linter.unusedVariables false
set_option linter.unusedSimpArgs false
noncomputable section
namespace Go.Proofs
open Go.RowKit Go.Ev
set_option maxHeartbeats 2000000 in
set_option maxRecDepth 100000 in
theorem Tryz.sync_walk : SyncWalk Tryz.prog 187 := by
 intro pd od pL oL len cap pm clock C ty fr ms w c0 c1 c2 hm hL hfr hlen hne hkeys hinj hborn hclock
 go_enter Tryz.func187,Tryz.ntmps187
 go_wp2_with (first
  | (at_range; refine wpList_range_raw _ rfl _ 129 rfl 3 9 Tryz.underlying129 pm clock ms rfl hm hclock ?_; intro w0 hu hw0)
  | go_in)
 go_frame
 have hpd : pd < w.heap.size:=by
  rcases Nat.lt_or_ge pd w.heap.size with h | h
  ·exact h
  ·simp [World.cell?,Array.getElem?_eq_none h] at c0
 have hpm : pm < w.heap.size:=(Array.getElem?_eq_some_iff.1 hm).1
 have hpL : pL < w.heap.size:=(Array.getElem?_eq_some_iff.1 hL).1
 have hmL : pm ≠ pL:=λe=>by rw [e,hL] at hm; cases hm
 go_loopw [3] (λ_ wr=>∃ seen C',SyncAt pL oL pm w.heap.size C ty fr ms clock w wr seen C') (λ_ wr=>toCome ms w.heap.size wr)
 case atStart=>exact ⟨#[],C,SyncAt.start hu hw0 hL⟩
 case round =>
  obtain ⟨seen,C',hS⟩:=hrel
  go_wp2_with (first
   | (at_next; refine wpList_next_raw _ rfl _ rfl w.heap.size pm clock ms seen (λi : Nat=>.int .i64 i) Value.string (λe he=>by obtain ⟨i,s,h1,_,h2⟩:=hkeys e he; exact ⟨i,s,h1,h2⟩) hborn rfl hS.run (by omega) ?_ ?_)
   | go_in)
  ·intro h0
   have d1 : wr.cell? ⟨pd,od + 1,none⟩ = some (.map (some pm)):=by
    unfold World.cell? at c1 ⊢; rw [hS.block pd hpd hne]; exact c1
   obtain ⟨since,k0,q1,q2,_⟩:=hS.run
   have hclr : ∀ ty,(Builtin.clear_ #[129] ty #[.map (some pm)]).run Tryz.prog wr = .ok (.tuple #[]) (ChangeMaps.setBlock wr pm (.map #[] clock)):=by
    intro ty
    simp only [Builtin.clear_,List.getElem?_toArray,List.getElem?_cons_zero,Sem.run_bind,run_underlying Tryz.underlying129,Result.andThen_ok,Go.MapKept.run_getObj_map q2,Sem.run_pure,Go.MapKept.run_setObj_map _ q2]
    rfl
   go_wp2
   go_ret
   exact ⟨rfl,wr,seen,C',hS,by rw [h0]; rfl,rfl⟩
  ·intro e x y w1 he hx hy hu1 hb1 hen
   have he : e ∈ (leftOf ms seen).toList:=by simpa using he
   obtain ⟨i,s,hk1,hk2,hk3⟩:=hkeys e (left_mem.1 he).1
   have hxi : x = i:=by rw [hx] at hk1; injection hk1 with _ h; omega
   subst hxi
   have hL1 : w1.heap[pL]? = some (.cells C' ty fr):=(hb1.block pL (by omega)).trans hS.L
   have d0 : w1.cell? ⟨pd,od,none⟩ = some (.slice (some ⟨pL,oL,none⟩) len cap):=by
    unfold World.cell? at c0 ⊢; rw [hb1.block pd (by omega),hS.block pd hpd hne]; exact c0
   obtain ⟨old,hold⟩ : ∃ old,C'[oL + x]? = some old:=⟨_,Array.getElem?_eq_getElem (by rw [hS.size]; omega)⟩
   have d1 : w1.cell? ⟨pL,oL + x,none⟩ = some old:=by rw [Lib.cell_of_heap hL1]; exact hold
   have f1 : w1.frozen? ⟨pL,oL + x,none⟩ = false:=by
    simp only [World.frozen?,hL1]
    exact hfr.no (by omega)
   go_wp2
   exact hS.step hpL hmL he hx hy hu1 hb1 hlen hk2 hinj hborn
set_option maxHeartbeats 1000000 in
set_option maxRecDepth 100000 in
theorem Tryz.sync_fused : SyncFused Tryz.prog 187:=by
 intro pd od a w c2
 go_enter Tryz.func187,Tryz.ntmps187
 go_wp2
 go_ret
 exact ⟨rfl,rfl⟩
set_option maxHeartbeats 1000000 in
set_option maxRecDepth 100000 in
theorem Tryz.hash_walk : HashWalk Tryz.prog 186:=by
 intro s w hs
 go_enter Tryz.func186,Tryz.ntmps186
 go_wp2
 go_loop [3,7] (λx i=>∃ k : Nat,k ≤ s.size ∧ i = .int .i64 k ∧ x = .int .u64 (Int.ofNat (hashL (s.data.toList.take k) 14695981039346656037))) (λ_ i=>s.size - (intOf i).toNat)
 case atStart=>exact ⟨0,Nat.zero_le _,rfl,rfl⟩
 case round =>
  obtain ⟨k,hk,rfl,rfl⟩:=hrel
  have hx:=hashL_lt (s.data.toList.take k) (x:=14695981039346656037) (by decide)
  go_wp2
  ·have h : k < s.size:=by assumption
   go_round
   case rel=>exact ⟨k + 1,h,by go_num,by rw [hash_take h,← hash_round hx (s[k]).toNat_lt]⟩
   case measure=>simp [intOf]; omega
  ·have h : ¬ k < s.size:=by omega
   go_ret
   exact ⟨by rw [hash_all hk h]; rfl,rfl⟩
open Go.Maps
theorem Tryz.infoInt : (Tryz.prog.info? 3).map (λi=>(i.zero,i.size,i.bytes)) = some (some (.int .i64 0),1,8):=by kernel_rfl
theorem Tryz.zeroBool (w : World) : (zeroValue 4).run Tryz.prog w = .ok (.bool false) w:=by kernel_rfl
set_option maxHeartbeats 4000000 in
set_option maxRecDepth 100000 in
theorem Tryz.free_walk : FreeWalk Tryz.prog 266 3 := by
 intro pd od pm clock first after n ms B us w c2 c3 c5 hm hfile hborn hclock hus hafter hfa
 have hmm:=@run_makeMap Tryz.prog
 obtain ⟨i0,hi,hz0,hz1,hz2⟩:=info_parts Tryz.infoInt
 have hpd : pd < w.heap.size:=by
  rcases Nat.lt_or_ge pd w.heap.size with h | h
  ·exact h
  ·simp [World.cell?,Array.getElem?_eq_none h] at c2
 have hpm : pm < w.heap.size:=(Array.getElem?_eq_some_iff.1 hm).1
 go_enter Tryz.func266,Tryz.ntmps266
 have hm1 : (w.alloc (.map #[] 0)).heap[pm]? = some (.map ms clock):=(Below.heap_alloc w _ pm hpm).trans hm
 go_wp2
 refine wp_scope_straight ?_
 go_wp2_with (first
  | (at_range; refine wpList_range_raw _ rfl _ 220 rfl 3 222 Tryz.underlying220 pm clock ms rfl hm1 hclock ?_; intro w0 hu hw0)
  | go_in)
 have hsz : (w.alloc (.map #[] 0)).heap.size = w.heap.size + 1:=by simp
 rw [hsz] at hu ⊢
 go_frame
 go_loopw [18] (λ_ wr=>∃ seen,FreeA w wr pm clock ms B seen) (λ_ wr=>toCome ms (w.heap.size + 1) wr)
 case atStart=>exact ⟨#[],FreeA.start hu hw0⟩
 case round =>
  obtain ⟨seen,hA⟩:=hrel
  go_wp2_with (first
   | (at_next; refine wpList_next_raw _ rfl _ rfl (w.heap.size + 1) pm clock ms seen (λi : Int=>.int .i64 i) mkFile (λe he=>by obtain ⟨⟨⟨i,hi⟩,n,h,ao,cap,hv,_⟩,_⟩:=hfile e he; exact ⟨i,⟨n,h,ao,_,cap⟩,hi,hv⟩) hborn rfl hA.run (by omega) ?_ ?_)
   | go_in)
  ·intro h0
   have h0 : (leftOf ms seen).size = 0:=by simpa using h0
   have hU:=hA.all h0 hus
   have d2 : wr.cell? ⟨pd,od + 2,none⟩ = some (.int .i64 first):=(hA.below.cell (by exact hpd)).trans c2
   go_wp2
   go_step3
   go_wp2
   go_loopw [10,11] (λv b wr=>∃ (bN : Nat) (acc : List Nat) (ao : Option Addr) (cap : Nat),b = .int .i64 bN ∧ v = .slice ao acc.length cap ∧ FreeC w wr 3 us n after first bN acc (.slice ao acc.length cap)) (λ_ b _=>after - (intOf b).toNat)
   case atStart=>exact ⟨first,[],none,0,rfl,rfl,hfa,World.ownsRow_nil _ _ _ _,hU,hA.below,hA.size,rfl,λ_=>rfl,Nat.zero_le _⟩
   case round =>
    obtain ⟨bN,acc,ao,cap,rfl,rfl,hC⟩:=hrel
    have d3 : wr.cell? ⟨pd,od + 3,none⟩ = some (.int .i64 after):=(hC.below.cell (by exact hpd)).trans c3
    have hle:=hC.le
    have hlen:=hC.len
    go_wp2_with (first
     | (at_lookup; refine wpList_used_get _ rfl _ _ 367 3 4 rfl Tryz.underlying367 Tryz.underlying3 (Tryz.zeroBool _) w.heap.size _ _ rfl rfl hC.used ?_; intro d hd)
     | (at_builtin; refine wpList_append_own _ rfl _ _ 80 rfl w.heap.size 3 i0 (.int .i64 0) 1 8 Tryz.underlying80 hi hz0 hz1 hz2 rfl (by decide) _ _ _ rfl (hC.own.alloc _) ⟨wr.heap.size,0,none⟩ 1 1 [.int .i64 bN] rfl rfl (cell_one_new _ _ _) (ints_oneCell .i64 [(bN : Int)]) (by unfold maxLen; omega) (by omega) (by have:=hC.size; simp; omega) ?_; intro v' w2 hown' hgrow2 hnil2)
     | go_in)
    ·have hn : acc.length = n:=by
      have h : ((acc.length : Int) == (n : Int)) = true:=by assumption
      have h2 : (acc.length : Int) = n:=by simpa using h
      omega
     rw [Exit.noGoto_ret]
     go_ret
     exact ⟨_,rfl,by rw [← hC.go,freeGo_stop hn]; exact hC.own,hC.below,λh=>hC.nil (by rw [← hC.go,freeGo_stop hn] at h; exact h)⟩
    ·have hb : bN < after:=by assumption
     have hn : acc.length ≠ n:=by
      have h : ((acc.length : Int) == (n : Int)) = false:=by assumption
      have h2 : ¬ (acc.length : Int) = n:=by simpa using h
      omega
     have hu : (bN : Int) ∈ us:=hd.1 (by assumption)
     go_roundw
     case rel=>exact ⟨bN + 1,acc,ao,cap,by go_num,rfl,hC.skip hb hn hu⟩
     case measure=>simp [intOf]; omega
    ·have hb : bN < after:=by assumption
     have hn : acc.length ≠ n:=by
      have h : ((acc.length : Int) == (n : Int)) = false:=by assumption
      have h2 : ¬ (acc.length : Int) = n:=by simpa using h
      omega
     have hu : ¬ (bN : Int) ∈ us:=λh=>by
      have h1:=hd.2 h
      have h2 : d = false:=by assumption
      rw [h1] at h2; cases h2
     obtain ⟨ao',cap',hv'⟩:=own_slice hown'
     subst hv'
     have hP:=hC.put hb hn hu hown' hgrow2
     go_roundw
     case rel=>exact ⟨bN + 1,acc ++ [bN],ao',cap',by go_num,by simp,by simpa using hP⟩
     case measure=>simp [intOf]; omega
    ·have he : bN = after:=by omega
     have hgo:=hC.go
     rw [he,Nat.sub_self,freeGo_end] at hgo
     rw [Exit.noGoto_ret]
     go_ret
     exact ⟨_,rfl,by rw [← hgo]; exact hC.own,hC.below,λh=>hC.nil (by rw [← hgo] at h; exact h)⟩
  ·intro e x y1 y2 y3 y4 y5 w1 he hx hy hu1 hb1 hen
   have he : e ∈ (leftOf ms seen).toList:=by simpa using he
   have hB:=hA.begin hu1 hb1
   obtain ⟨⟨_,n',h',ao,cap,hval,hbs⟩,hbl⟩:=hfile e (left_mem.1 he).1
   rw [hval] at hy
   injection hy with hy
   have hy' : [Value.int .i64 n',.int .u64 h',.slice ao (B e).length cap] = [Value.int .i64 y1,.int .u64 y2,.slice y3 y4 y5]:=congrArg Array.toList hy
   injection hy' with e1 hy'
   injection hy' with e2 hy'
   injection hy' with e3 _
   injection e3 with e3 e4 e5
   subst e3 e4 e5
   have hwo:=hA.run.toCome
   rcases hbs with hnil | ⟨g,oo,hao,hg,hcells⟩
   ·rw [hnil] at hen hval
    go_wp2
    refine wp_loop_rounds 1 ?_
    rw [rounds_succ]
    go_wp2
    go_roundw
    case rel=>exact ⟨_,((hB.same hpm ((Below.refl _ w1).alloc hB.size _)).done (by rw [hnil]; simp) he hborn).1⟩
    case measure=>rw [hwo]; exact ((hB.same hpm ((Below.refl _ w1).alloc hB.size _)).done (by rw [hnil]; simp) he hborn).2
   ·subst hao
    go_wp2
    go_loopw [25] (λi wr=>∃ k : Nat,k ≤ (B e).length ∧ i = .int .i64 k ∧ FreeB w wr pm clock ms B seen e k) (λi _=>(B e).length - (intOf i).toNat)
    case atStart=>exact ⟨0,Nat.zero_le _,rfl,hB.same hpm ((Below.refl _ w1).alloc hB.size _)⟩
    case round =>
     obtain ⟨k,hk,rfl,hBk⟩:=hrel
     have hc : k < (B e).length → wr.cell? ⟨g,oo + k,none⟩ = some (.int .i64 ((B e).getD k 0)):=λhlt=>(hBk.below.cell (by exact hg)).trans (hcells k _ (by simp [List.getElem?_eq_getElem hlt]))
     go_wp2_with (first
      | (at_mapUpdate; refine wpList_used_put _ rfl _ _ _ 367 3 4 rfl Tryz.underlying367 Tryz.underlying3 w.heap.size _ _ rfl rfl rfl hBk.used ?_; intro w2 hu2 hb2)
      | go_in)
     ·have hlt : k < (B e).length:=by assumption
      go_roundw
      case rel=>exact ⟨k + 1,hlt,by go_num,hBk.step hpm (by simp [List.getElem?_eq_getElem hlt]) hu2 hb2⟩
      case measure=>simp [intOf]; omega
     ·have hD:=hBk.done (by omega) he hborn
      go_roundw
      case rel=>exact ⟨_,hD.1⟩
      case measure=>rw [hwo]; exact hD.2
def Tryz.putRest : Code:=Go.Ev.Code.behind 4 (match Tryz.f206.body with | some c=>c | none=>.skip)
set_option maxHeartbeats 4000000 in
set_option maxRecDepth 100000 in
theorem Tryz.put_walk : PutWalk Tryz.prog 206 111 Tryz.f206 Tryz.putRest 286 := by
 intro pd od pm clock r s ms w post c5 hm hfile hborn hclock hms hr1 hr2 hs hrest
 have hpd : pd < w.heap.size:=by
  rcases Nat.lt_or_ge pd w.heap.size with h | h
  ·exact h
  ·simp [World.cell?,Array.getElem?_eq_none h] at c5
 have hpm : pm < w.heap.size:=(Array.getElem?_eq_some_iff.1 hm).1
 have hm1 : (w.alloc (.cells #[.int .i64 r,.string s] 286)).heap[pm]? = some (.map ms clock):=(Below.heap_alloc w _ pm hpm).trans hm
 go_enter Tryz.func206,Tryz.ntmps206
 go_wp2_with (first
  | (at_range; refine wpList_range_raw _ rfl _ 220 rfl 3 222 Tryz.underlying220 pm clock ms rfl hm1 hclock ?_; intro w0 hu hw0)
  | go_in)
 have hsz : (w.alloc (.cells #[.int .i64 r,.string s] 286)).heap.size = w.heap.size + 1:=by simp
 rw [hsz] at hu ⊢
 go_frame
 rename_i K hK
 have HK : Hold (∀ a w,Code.wp Tryz.prog Tryz.putRest (bodyPost Tryz.prog Tryz.f206 post) a w → K a w):=⟨hK⟩
 clear hK
 go_loopw [5,39] (λz _ wr=>∃ seen,PutA w wr 286 r s pm clock ms seen ∧ z = .int .i64 (s.size + 64 + sumOn (sizeOn r) ms.toList seen)) (λ_ _ wr=>toCome ms (w.heap.size + 1) wr)
 case atStart=>exact ⟨#[],PutA.start hu hw0,by rw [sumOn_none]; simp⟩
 case round =>
  obtain ⟨seen,hA,rfl⟩:=hrel
  go_upto_region 8 with (first
   | (at_next; refine wpList_next_raw _ rfl _ rfl (w.heap.size + 1) pm clock ms seen (λi : Int=>.int .i64 i) mkFile (λe he=>by obtain ⟨⟨i,hi⟩,y,hy,_⟩:=hfile e he; exact ⟨i,y,hi,hy⟩) hborn rfl hA.run (by omega) ?_ ?_)
   | fail)
  ·intro h0
   have h0 : (leftOf ms seen).size = 0:=by simpa using h0
   go_wp2
   have hall : ∀ x ∈ ms.toList,seen.contains x.born = true:=λx hx=>by
    cases hc : seen.contains x.born with
    | true=>rfl
    | false =>
     have:=left_mem.2 ⟨hx,hc⟩
     rw [Array.eq_empty_of_size_eq_zero h0] at this
     simp at this
   refine HK.out _ _ (hrest _ _ rfl rfl rfl ?_ rfl hA.below (by have:=hA.size; omega) hA.box)
   rw [← sumOn_all seen ms.toList hall]
   rfl
  ·intro e x y1 y2 y3 y4 y5 w1 he hx hy hu1 hb1 hen
   have he : e ∈ (leftOf ms seen).toList:=by simpa using he
   have hmem:=(left_mem.1 he).1
   have hsn:=(left_mem.1 he).2
   have hbx : w1.heap[w.heap.size]? = some (.cells #[.int .i64 r,.string s] 286 (0,0)):=(hb1.block _ (by omega)).trans hA.box
   have hbx2 : (w1.alloc (.cells #[.int .i64 y1,.int .u64 y2,.slice y3 y4 y5] 222)).heap[w.heap.size]? = some (.cells #[.int .i64 r,.string s] 286 (0,0)):=(Below.heap_alloc w1 _ _ (by have:=hA.size; have:=hb1.size; omega)).trans hbx
   have c0 : (w1.alloc (.cells #[.int .i64 y1,.int .u64 y2,.slice y3 y4 y5] 222)).cell? ⟨w.heap.size,0,none⟩ = some (.int .i64 r):=by rw [Lib.cell_of_heap hbx2]; rfl
   obtain ⟨_,y,hval,hy1,hy2⟩:=hfile e hmem
   have hyy : y.1 = y1 ∧ 0 ≤ y1 ∧ y1 ≤ 1073741824:=by
    rw [hval] at hy
    injection hy with hy
    have hy':=congrArg Array.toList hy
    injection hy' with e1 _
    injection e1 with _ e1
    exact ⟨e1,by omega,by omega⟩
   have hP:=hA.step (o:=.cells #[.int .i64 y1,.int .u64 y2,.slice y3 y4 y5] 222) hpm he hu1 hb1
   have hsum:=sumOn_push (g:=sizeOn r) seen e hsn ms.toList hborn hmem
   have hg : sizeOn r e = if x = r then 0 else y1 + 64:=by
    unfold sizeOn
    rw [hx,hy]
    rfl
   have hgl : ∀ e ∈ ms.toList,0 ≤ sizeOn r e ∧ sizeOn r e ≤ 2147483648:=λe he=>by
    obtain ⟨⟨i,hi⟩,y,hy,h1,h2⟩:=hfile e he
    unfold sizeOn
    rw [hi,hy]
    show 0 ≤ (if i = r then (0 : Int) else y.1 + 64) ∧ (if i = r then (0 : Int) else y.1 + 64) ≤ 2147483648
    split <;> omega
   have hle:=sumOn_le (g:=sizeOn r) seen ms.toList hgl
   have hl : ms.toList.length = ms.size:=by simp
   rw [hl] at hle
   go_wp2
   ·have hne : ¬ x = r:=by
     have h : (x != r) = true:=by assumption
     simpa using h
    rw [if_neg hne] at hg
    go_roundw
    case rel=>exact ⟨_,hP.1,by rw [hsum,hg]; congr 1; omega⟩
    case measure=>exact hP.2
   ·have heq : x = r:=by
     have h : (x != r) = false:=by assumption
     simpa using h
    rw [if_pos heq] at hg
    go_roundw
    case rel=>exact ⟨_,hP.1,by rw [hsum,hg]; congr 1; omega⟩
    case measure=>exact hP.2
end Go.Proofs
