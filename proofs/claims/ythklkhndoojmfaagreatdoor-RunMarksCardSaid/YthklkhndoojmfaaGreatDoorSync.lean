/-
  The walks of (*disk.Disk).Sync, of sum.Hash, of free and Put of the vault.
-/
import Derived.Test.YthklkhndoojmfaaGreatDoorLay
import Derived.Scope
import Derived.WalkMore
import Derived.Deep.Cut
import Derived.Maps.AppendAt
set_option linter.unusedVariables false
set_option linter.unusedSimpArgs false
noncomputable section
namespace Go.Proofs
open Go.RowKit Go.Ev
set_option maxHeartbeats 2000000 in
set_option maxRecDepth 100000 in
theorem Tryz.sync_walk:SyncWalk Tryz.prog 175:=by
 intro pd od pL oL len cap pm clock C ty fr ms w c0 c1 c2 hm hL hfr hlen hne hkeys hinj hborn hclock
 go_enter Tryz.func175,Tryz.ntmps175
 go_wp2_with (first
  |(at_range;refine wpList_range_raw _ rfl _ 123 rfl 3 9 Tryz.underlying123 pm clock ms rfl hm hclock ?_;intro w0 hu hw0)
  |go_in)
 go_frame
 have hpd:pd<w.heap.size:=by
  rcases Nat.lt_or_ge pd w.heap.size with h|h
  ·exact h
  ·simp[World.cell?,Array.getElem?_eq_none h]at c0
 have hpm:pm<w.heap.size:=(Array.getElem?_eq_some_iff.1 hm).1
 have hpL:pL<w.heap.size:=(Array.getElem?_eq_some_iff.1 hL).1
 have hmL:pm≠pL:=λe=>by rw[e,hL]at hm;cases hm
 go_loopw [3] (λ_ wr=>∃seen C',SyncAt pL oL pm w.heap.size C ty fr ms clock w wr seen C') (λ_ wr=>toCome ms w.heap.size wr)
 case atStart=>exact⟨#[],C,SyncAt.start hu hw0 hL⟩
 case round=>
  obtain⟨seen,C',hS⟩:=hrel
  go_wp2_with (first
   |(at_next;refine wpList_next_raw _ rfl _ rfl w.heap.size pm clock ms seen (λi:Nat=>.int .i64 i) Value.string (λe he=>by obtain⟨i,s,h1,_,h2⟩:=hkeys e he;exact⟨i,s,h1,h2⟩) hborn rfl hS.run (by omega) ?_ ?_)
   |go_in)
  ·intro h0
   have d1:wr.cell? ⟨pd,od+1,none⟩=some (.map (some pm)):=by
    unfold World.cell? at c1⊢;rw[hS.block pd hpd hne];exact c1
   obtain⟨since,k0,q1,q2,_⟩:=hS.run
   have hclr:∀ty,(Builtin.clear_ #[123] ty #[.map (some pm)]).run Tryz.prog wr=.ok (.tuple #[]) (ChangeMaps.setBlock wr pm (.map #[] clock)):=by
    intro ty
    simp only[Builtin.clear_,List.getElem?_toArray,List.getElem?_cons_zero,Sem.run_bind,run_underlying Tryz.underlying123,Result.andThen_ok,Go.MapKept.run_getObj_map q2,Sem.run_pure,Go.MapKept.run_setObj_map _ q2]
    rfl
   go_wp2
   go_ret
   exact⟨rfl,wr,seen,C',hS,by rw[h0];rfl,rfl⟩
  ·intro e x y w1 he hx hy hu1 hb1 hen
   have he:e∈(leftOf ms seen).toList:=by simpa using he
   obtain⟨i,s,hk1,hk2,hk3⟩:=hkeys e (left_mem.1 he).1
   have hxi:x=i:=by rw[hx]at hk1;injection hk1 with _ h;omega
   subst hxi
   have hL1:w1.heap[pL]?=some (.cells C' ty fr):=(hb1.block pL (by omega)).trans hS.L
   have d0:w1.cell? ⟨pd,od,none⟩=some (.slice (some ⟨pL,oL,none⟩) len cap):=by
    unfold World.cell? at c0⊢;rw[hb1.block pd (by omega),hS.block pd hpd hne];exact c0
   obtain⟨old,hold⟩:∃old,C'[oL+x]?=some old:=⟨_,Array.getElem?_eq_getElem (by rw[hS.size];omega)⟩
   have d1:w1.cell? ⟨pL,oL+x,none⟩=some old:=by rw[Lib.cell_of_heap hL1];exact hold
   have f1:w1.frozen? ⟨pL,oL+x,none⟩=false:=by
    simp only[World.frozen?,hL1]
    exact hfr.no (by omega)
   go_wp2
   exact hS.step hpL hmL he hx hy hu1 hb1 hlen hk2 hinj hborn
set_option maxHeartbeats 1000000 in
set_option maxRecDepth 100000 in
theorem Tryz.sync_fused:SyncFused Tryz.prog 175:=by
 intro pd od a w c2
 go_enter Tryz.func175,Tryz.ntmps175
 go_wp2
 go_ret
 exact⟨rfl,rfl⟩
set_option maxHeartbeats 1000000 in
set_option maxRecDepth 100000 in
theorem Tryz.hash_walk:HashWalk Tryz.prog 174:=by
 intro s w hs
 go_enter Tryz.func174,Tryz.ntmps174
 go_wp2
 go_loop [3,7] (λx i=>∃k:Nat,k≤s.size∧i=.int .i64 k∧x=.int .u64 (Int.ofNat (hashL (s.data.toList.take k) 14695981039346656037))) (λ_ i=>s.size-(intOf i).toNat)
 case atStart=>exact⟨0,Nat.zero_le _,rfl,rfl⟩
 case round=>
  obtain⟨k,hk,rfl,rfl⟩:=hrel
  have hx:=hashL_lt (s.data.toList.take k) (x:=14695981039346656037) (by decide)
  go_wp2
  ·have h:k<s.size:=by assumption
   go_round
   case rel=>exact⟨k+1,h,by go_num,by rw[hash_take h,←hash_round hx (s[k]).toNat_lt]⟩
   case measure=>simp[intOf];omega
  ·have h:¬k<s.size:=by omega
   go_ret
   exact⟨by rw[hash_all hk h];rfl,rfl⟩
open Go.Maps
end Go.Proofs
