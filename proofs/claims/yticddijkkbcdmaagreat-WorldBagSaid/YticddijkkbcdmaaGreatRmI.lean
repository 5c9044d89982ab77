/-
  What the walks share.
-/
import Derived.Test.YticddijkkbcdmaaGreatEwM9
import Derived.Test.YticddijkkbcdmaaGreatProg
import Derived.RegionTactic
import Derived.ChangeAlike
import Derived.BigRegion
import Derived.Deep.QuietTactic
import Derived.BigQuiet
import Derived.WalkSmall
import Derived.Deep.MidRow
import Derived.Deep.RegionWith
import Derived.Laws.ResultCell
import Derived.Maps.AppendAt
import Derived.Deep.RegionLaw
import Derived.Lib.SliceRun
import Derived.Shelf.RegionOpenPlain
import Derived.StillTail
import Derived.OrdersHeld
import Derived.Deep.AppendLies
import Derived.Deep.RegionHeld3
set_option linter.unusedVariables false
set_option linter.unusedSimpArgs false
noncomputable section
namespace Go.Ry
open Go Go.Conc Go.Proofs Go.RowKit Go.Kn
def actC (k x:Int):List Value:=[.int .i64 k,.int .i64 x,.int .i64 0,.int .i64 0,.int .i64 0,.int .i64 0,.int .i64 0,.int .i64 0,.int .i64 0,.int .i64 0,.int .i64 0,.int .i64 0,.int .i64 0,.int .i64 0,.int .i64 0,.int .i64 0,.int .i64 0,.int .i64 0,.string ⟨#[]⟩,.slice none 0 0,.int .i64 0,.string ⟨#[]⟩,.slice none 0 0,.string ⟨#[]⟩]
theorem blk_cell {W:World} {b:Nat} {C:Array Value} {t:TypeId} (h:W.heap[b]?=some (.cells C t (0,0))) (i:Nat):W.cell? ⟨b,i,none⟩=C[i]?:=by
 unfold World.cell?
 rw[h]
 rfl
theorem blk_there {W:World} {b:Nat} {C:Array Value} {t:TypeId} (h:W.heap[b]?=some (.cells C t (0,0))):W.there b 0 C.size:=λj hj=>by
 rw[Nat.zero_add,blk_cell h]
 refine⟨by simp[hj],?_⟩
 unfold World.frozen?
 rw[h]
 simp
theorem alloc_there (W:World) (C:Array Value) (t:TypeId):(W.alloc (.cells C t)).there W.heap.size 0 C.size:=
 blk_there (W:=W.alloc (.cells C t)) (t:=t) (by show(W.heap.push _)[W.heap.size]?=_;simp)
theorem setCells_below {B:Nat} {w W:World} (h:Below B w W) (b:Nat) (hb:B≤b):∀(vs:List Value) (o:Nat) (V:World),Below B w V→Below B w (V.setCells b o vs)
 |[],o,V,hV=>hV
 |v::vs,o,V,hV=>setCells_below h b hb vs (o+1) (V.setCell ⟨b,o,none⟩ v) (hV.setCell hb v)
theorem size_two (w:World) (o p:Obj):((w.alloc o).alloc p).heap.size=w.heap.size+2:=by
 show((w.heap.push o).push p).size=_
 rw[Array.size_push,Array.size_push]
theorem results_end {fn:Func} {p u:Tmp} {ty:TypeId} (h:fn.results=#[.cell p ty,.tmp u]) {tmps:Array Value} {P:Program} {w:World} {b:Nat} {v y:Value} (hp:tmps.getD p undef=.pointer (some ⟨b,0,none⟩)) (hu:tmps.getD u undef=y)
 (hl:(loadVar ty ⟨b,0,none⟩).run P w=.ok v w):(results fn tmps).run P w=.ok (.tuple #[v,y]) w:=by
 rw[results_cell_tmp h,hp,hu]
 have ha:(asAddr (Value.pointer (some ⟨b,0,none⟩))).run P w=.ok ⟨b,0,none⟩ w:=rfl
 rw[ha]
 show((loadVar ty _).run P w).andThen _=_
 rw[hl]
 rfl
end Go.Ry
set_option linter.unusedVariables false
set_option linter.unusedSimpArgs false
noncomputable section
namespace Go.Rm
open Go Go.Conc Go.Proofs Go.RowKit Go.Kn Go.Ry
structure Keep (F:Nat→Prop) (w w':World):Prop where
 os:w'.os=w.os
 tape:w'.tape=w.tape
 output:w'.output=w.output
 size:w.heap.size≤w'.heap.size
 block:∀k,k<w.heap.size→¬F k→w'.heap[k]?=w.heap[k]?
theorem Keep.refl (F:Nat→Prop) (w:World):Keep F w w:=⟨rfl,rfl,rfl,Nat.le_refl _,λ_ _ _=>rfl⟩
theorem Keep.trans {F:Nat→Prop} {a b c:World} (h:Keep F a b) (k:Keep F b c):Keep F a c:=
 ⟨k.os.trans h.os,k.tape.trans h.tape,k.output.trans h.output,Nat.le_trans h.size k.size,λi hi hn=>(k.block i (Nat.lt_of_lt_of_le hi h.size) hn).trans (h.block i hi hn)⟩
theorem Keep.mono {F G:Nat→Prop} {a b:World} (h:Keep F a b) (hg:∀k,k<a.heap.size→F k→G k):Keep G a b:=
 ⟨h.os,h.tape,h.output,h.size,λi hi hn=>h.block i hi λhf=>hn (hg i hi hf)⟩
theorem Keep.of_below {B:Nat} {F:Nat→Prop} {a b:World} (h:Below B a b) (hF:∀k,k<a.heap.size→B≤k→F k):Keep F a b:=
 ⟨h.os,h.tape,h.output,h.size,λi hi hn=>h.block i (by rcases Nat.lt_or_ge i B with h1|h1;exact h1;exact absurd (hF i hi h1) hn)⟩
theorem Keep.below {B:Nat} {F:Nat→Prop} {a b:World} (h:Keep F a b) (hB:B≤a.heap.size) (hF:∀k,k<B→¬F k):Below B a b:=
 ⟨h.os,h.tape,h.output,h.size,λi hi=>h.block i (by omega) (hF i hi)⟩
theorem Keep.grown {F:Nat→Prop} {a b:World} {row:Option Nat} (h:a.grownBy b row) (hF:∀k,row=some k→F k):Keep F a b:=
 ⟨h.os,h.tape,h.output,h.size,λi hi hn=>h.block i hi λe=>hn (hF i e.symm)⟩
theorem Keep.setCell {F:Nat→Prop} (w:World) (p:Addr) (u:Value) (hF:F p.block):Keep F w (w.setCell p u):=
 ⟨rfl,rfl,rfl,by simp,λi hi hn=>Below.heap_setCell _ _ _ _ (λe=>hn (e▸hF))⟩
theorem Keep.alloc {F:Nat→Prop} (w:World) (o:Obj):Keep F w (w.alloc o):=
 ⟨rfl,rfl,rfl,by simp,λi hi hn=>Below.heap_alloc _ _ _ hi⟩
theorem Keep.drew {F:Nat→Prop} (w:World):Keep F w w.drew:=⟨rfl,rfl,rfl,Nat.le_refl _,λ_ _ _=>rfl⟩
theorem Keep.setCells {F:Nat→Prop} {b:Nat} (hF:F b):∀(vs:List Value) (o:Nat) (w:World),Keep F w (w.setCells b o vs)
 |[],o,w=>Keep.refl _ _
 |v::vs,o,w=>(Keep.setCell w ⟨b,o,none⟩ v hF).trans (Keep.setCells hF vs (o+1) _)
theorem Keep.cell {F:Nat→Prop} {a b:World} (h:Keep F a b) {p:Addr} {v:Value} (hv:a.cell? p=some v) (hn:¬F p.block):b.cell? p=some v:=
 (World.cell?_of_block (w:=a) (h.block p.block (World.block_lt_of_cell? a p hv) hn)).trans hv
theorem Keep.blk {F:Nat→Prop} {a b:World} (h:Keep F a b) {k:Nat} {o:Obj} (hv:a.heap[k]?=some o) (hn:¬F k):b.heap[k]?=some o:=
 (h.block k (Array.getElem?_eq_some_iff.1 hv).1 hn).trans hv
theorem Keep.row {F:Nat→Prop} {a b:World} (h:Keep F a b) {base:Nat} {e:TypeId} {size:Nat} {v:Value} {n:Nat} {xs:List Value} (hr:a.ownsRow base e size v n xs) (hn:∀k,v.ownBlock=some k→¬F k):b.ownsRow base e size v n xs:=by
 refine⟨hr.1,?_⟩
 rcases hr.2 with h0|⟨g,cap,cur,rfl,hb,hgg,rest⟩
 ·exact .inl h0
 ·exact .inr ⟨g,cap,cur,rfl,hb,h.blk hgg (hn g rfl),rest⟩
theorem blk_setCell {w:World} {g:Nat} {C:Array Value} {ty:TypeId} {fr:Nat×Nat} (h:w.heap[g]?=some (.cells C ty fr)) (i:Nat) (v:Value):(w.setCell ⟨g,i,none⟩ v).heap[g]?=some (.cells (C.setIfInBounds i v) ty fr):=by
 simp only[World.setCell,Array.getElem?_modify,h]
 rfl
theorem blk_setCells {g:Nat} {ty:TypeId} {fr:Nat×Nat}:∀(vs:List Value) (o:Nat) (w:World) (C:Array Value),w.heap[g]?=some (.cells C ty fr)→∃C',(w.setCells g o vs).heap[g]?=some (.cells C' ty fr)∧C'.size=C.size
 |[],o,w,C,h=>⟨C,h,rfl⟩
 |v::vs,o,w,C,h=>by
  obtain⟨C',h1,h2⟩:=blk_setCells vs (o+1) _ _ (blk_setCell h o v)
  exact⟨C',h1,by rw[h2];simp⟩
theorem cell_blk {w:World} {g:Nat} {C:Array Value} {ty:TypeId} {fr:Nat×Nat} (h:w.heap[g]?=some (.cells C ty fr)) (i:Nat):w.cell? ⟨g,i,none⟩=C[i]?:=by
 unfold World.cell?
 rw[h]
 rfl
theorem frozen_blk {w:World} {g:Nat} {C:Array Value} {ty:TypeId} (h:w.heap[g]?=some (.cells C ty (0,0))) (i:Nat):w.frozen? ⟨g,i,none⟩=false:=by
 unfold World.frozen?
 rw[h]
 simp
theorem row_of_cells {w:World} {base g:Nat} {e:TypeId} {size n cap:Nat} {C:Array Value} {xs:List Value} (hb:base≤g) (h:w.heap[g]?=some (.cells C e (0,0))) (hn:n≤cap) (hm:cap≤maxLen) (hs:C.size=cap*size) (hl:xs.length=n*size)
 (hc:∀i,i<n*size→w.cell? ⟨g,i,none⟩=xs[i]?):w.ownsRow base e size (.slice (some ⟨g,0,none⟩) n cap) n xs:=by
 refine⟨hl,.inr ⟨g,cap,C,rfl,hb,h,hn,hm,hs,?_⟩⟩
 have hle:n*size≤C.size:=by rw[hs];exact Nat.mul_le_mul_right _ hn
 refine List.ext_getElem? λi=>?_
 rw[List.getElem?_take]
 split
 ·rename_i hi
  rw[←hc i hi,cell_blk h,Array.getElem?_toList]
 ·rename_i hi
  rw[List.getElem?_eq_none (by omega)]
theorem laid (X Y:List Value) (h:X.length=Y.length):List.foldl (λ(cs:Array Value) (p:Value×Nat)=>cs.setIfInBounds p.snd p.fst) X.toArray Y.zipIdx=Y.toArray:=by
 have key:∀(Y:List Value) (k:Nat) (X:List Value),X.length=k+Y.length→List.foldl (λ(cs:Array Value) (p:Value×Nat)=>cs.setIfInBounds p.snd p.fst) X.toArray (Y.zipIdx k)=(X.take k++Y).toArray:=by
  intro Y
  induction Y with
  |nil=>intro k X h;simp at h;simp[h.symm]
  |cons y Y ih=>
   intro k X h
   simp only[List.length_cons]at h
   rw[List.zipIdx_cons,List.foldl_cons]
   have e:X.toArray.setIfInBounds k y=(X.set k y).toArray:=by simp
   rw[e,ih (k+1) (X.set k y) (by simp;omega)]
   congr 1
   rw[List.take_succ_eq_append_getElem (by simp;omega),List.take_set_of_le (Nat.le_refl k)]
   simp
 have:=key Y 0 X (by omega)
 simpa using this
end Go.Rm
set_option linter.unusedVariables false
set_option linter.unusedSimpArgs false
noncomputable section
namespace Go.Rm
open Go Go.Conc Go.Proofs Go.RowKit Go.Kn Go.Ry
theorem zeroRow (zs:List Value) (h:0<zs.length):(Builtin.zeroCells zs.toArray 1).toList=zs:=by
 unfold Builtin.zeroCells
 apply List.ext_getElem
 ·simp
 ·intro i h1 h2
  simp[Nat.mod_eq_of_lt h2,h2]
theorem run_clear_row {P:Program} (w:World) (t e ty:TypeId) (z:Value) (zs:List Value) (ht:P.underlying t=some (.slice e)) (hv:∀w,(zeroValue e).run P w=.ok z w) (hz:z.cells=zs.toArray) (h0:0<zs.length) (h1:∀v∈zs,v.oneCell'=true) (b o c:Nat)
 (hc:∀j,j<zs.length→(w.cell? ⟨b,o+j,none⟩).isSome=true) (hf:∀j,j<zs.length→w.frozen? ⟨b,o+j,none⟩=false):
 (Builtin.clear_ #[t] ty #[.slice (some ⟨b,o,none⟩) 1 c]).run P w=.ok (.tuple #[]) (w.setCells b o zs):=by
 have hst:=run_storeCells_cells (P:=P) b o zs 0 w (by simpa using hc) (by simpa using hf) h1
 simp only[Nat.add_zero]at hst
 simp[Builtin.clear_,run_underlying ht,hv,hz,zeroRow zs h0,hst]
def zM:List Value:=[.int .i64 0,.int .i64 0,.int .i64 0,.int .i64 0,.int .i64 0,.int .i64 0,.int .i64 0,.int .i64 0,.int .i64 0,.int .i64 0,.int .i64 0,.int .i64 0,.int .i64 0,.int .i64 0,.string ⟨#[]⟩,.slice none 0 0,.int .i64 0,.string ⟨#[]⟩,.slice none 0 0,.string ⟨#[]⟩]
theorem zM_one:∀v∈zM,v.oneCell'=true:=λv hv=>List.all_eq_true.1 (by simp[zM,Value.oneCell']:zM.all (·.oneCell')=true) v hv
theorem zero_msg (w:World):(zeroValue 34).run Tryz.prog w=.ok (.agg zM.toArray) w:=by
 have hinfo:(Tryz.prog.info? 34).map (λi=>i.zero)=some (some (.agg zM.toArray)):=by kernel_rfl
 cases hi:Tryz.prog.info? 34 with
 |none=>rw[hi]at hinfo;cases hinfo
 |some i=>
  rw[hi]at hinfo
  have hz:i.zero=some (.agg zM.toArray):=by simpa using hinfo
  simp[zeroValue,typeInfo,hi,hz,Sem.run_bind]
set_option maxHeartbeats 4000000 in
set_option maxRecDepth 1000000 in
theorem delete_ok (base g cap b k:Nat) (xs:List Value) (w:World) (hrow:w.ownsRow base 34 20 (.slice (some ⟨g,0,none⟩) b cap) b xs) (hk:k<b) (h1:∀u∈xs,u.oneCell'=true):
 Calls Tryz.prog 82 #[.slice (some ⟨g,0,none⟩) b cap,.int .i64 k,.int .i64 ((k+1:Nat):Int)] w λe w'=>e=.returned (.slice (some ⟨g,0,none⟩) (b-1:Nat) cap)∧
  w'.ownsRow base 34 20 (.slice (some ⟨g,0,none⟩) (b-1) cap) (b-1) (xs.take (k*20)++xs.drop ((k+1)*20))∧Keep (λi=>i=g) w w':=by
 obtain⟨hlen,hcase⟩:=hrow
 obtain⟨C,hbase,hblk,hbc,hcm,hCs,htake⟩:∃C,base≤g∧w.heap[g]?=some (.cells C 34 (0,0))∧b≤cap∧cap≤maxLen∧C.size=cap*20∧C.toList.take (b*20)=xs:=by
  rcases hcase with⟨h,_⟩|⟨g',cap',C,h,r⟩
  ·cases h
  ·cases h;exact⟨C,r⟩
 have hinfoM:(Tryz.prog.info? 34).map (λi=>(i.zero,i.size,i.bytes))=some (some (.agg zM.toArray),20,216):=by kernel_rfl
 obtain⟨iM,hiM,hzM,hsM,hbM⟩:=info_parts hinfoM
 have hcell:∀i,i<b*20→w.cell? ⟨g,i,none⟩=xs[i]?:=λi hi=>by
  rw[cell_blk hblk,←htake,List.getElem?_take,if_pos hi,Array.getElem?_toList]
 have hsome:∀(W:World) C',W.heap[g]?=some (.cells C' 34 (0,0))→C'.size=C.size→∀i,i<b*20→(W.cell? ⟨g,i,none⟩).isSome=true∧W.frozen? ⟨g,i,none⟩=false:=λW C' h hs i hi=>by
  rw[cell_blk h]
  refine⟨?_,frozen_blk h i⟩
  have:i<C'.size:=by rw[hs,hCs];exact Nat.lt_of_lt_of_le hi (Nat.mul_le_mul_right _ hbc)
  simp[this]
 obtain⟨news,hnews⟩:∃news,news=xs.drop ((k+1)*20):=⟨_,rfl⟩
 have hnl:news.length=(b-(k+1))*20:=by rw[hnews,List.length_drop,hlen,Nat.sub_mul]
 obtain⟨A,hA,hsrc⟩:∃A:Addr,(if cap=k+1 then some (⟨g,0,none⟩:Addr)else some ⟨g,(k+1)*20,none⟩)=some A∧Hid (∀t u,news[t]?=some u→w.drew.cell? (A.add t)=some u):=by
  by_cases h:cap=k+1
  ·refine⟨⟨g,0,none⟩,by simp[h],λt u hu=>?_⟩
   have h0:news.length=0:=by rw[hnl];have:b-(k+1)=0:=by omega
                             rw[this]
   rw[List.length_eq_zero_iff.1 h0]at hu
   simp at hu
  ·refine⟨⟨g,(k+1)*20,none⟩,by simp[h],λt u hu=>?_⟩
   have ht:t<news.length:=(List.getElem?_eq_some_iff.1 hu).1
   rw[hnews,List.getElem?_drop]at hu
   rw[Addr.add_mid]
   show w.cell? _=_
   rw[hcell _ (by omega)]
   exact hu
 have s1:Hid (news.length=(b-(k+1))*20):=hnl
 have s2:Hid (∀u∈news,u.oneCell'=true):=λu hu=>h1 u (List.mem_of_mem_drop (hnews▸hu))
 have s3:Hid (∀t,t<news.length→(w.drew.cell? ⟨g,0+k*20+t,none⟩).isSome=true∧w.drew.frozen? ⟨g,0+k*20+t,none⟩=false):=λt ht=>by
  have:=hsome w C hblk rfl (0+k*20+t) (by rw[hnl]at ht;omega)
  exact this
 obtain⟨W1,hW1⟩:∃W1,W1=w.drew.setCells g (0+k*20) news:=⟨_,rfl⟩
 obtain⟨C1,hC1,hC1s⟩:∃C1,W1.heap[g]?=some (.cells C1 34 (0,0))∧C1.size=C.size:=by
  rw[hW1];exact blk_setCells news _ w.drew C hblk
 have hcl:∀ty,(Builtin.clear_ #[37] ty #[.slice (some ⟨g,(k+(b-(k+1)))*20,none⟩) (b-(k+(b-(k+1)))) (cap-(k+(b-(k+1))))]).run Tryz.prog W1=.ok (.tuple #[]) (W1.setCells g ((k+(b-(k+1)))*20) zM):=λty=>by
  rw[show b-(k+(b-(k+1)))=1 by omega]
  exact run_clear_row W1 _ 34 ty _ zM Tryz.underlying37 zero_msg rfl (by decide) zM_one g _ _
   (fun j hj=>(hsome W1 C1 hC1 hC1s _ (by have:zM.length=20:=rfl
                                          omega)).1) (λj hj=>frozen_blk hC1 _)
 have mixed:Tryz.prog.follows .mixedOrders=true:=by kernel_rfl
 have hkb:(0:Int)≤(k:Int)+1∧(k:Int)+1≤(b:Int):=by omega
 have hkb1:(k:Int)+1≤(b:Int):=hkb.2
 have hW:Hid (W1=w.drew.setCells g (0+k*20) news):=hW1
 have hkc:k≤cap:=by omega
 have hkc1:k+1≤cap:=by omega
 have hb1:k+(b-(k+1))≤cap:=by omega
 have hfin:(W1.setCells g ((k+(b-(k+1)))*20) zM).ownsRow base 34 20 (.slice (some ⟨g,0,none⟩) (b-1) cap) (b-1) (xs.take (k*20)++xs.drop ((k+1)*20))∧Keep (λi=>i=g) w (W1.setCells g ((k+(b-(k+1)))*20) zM):=by
  obtain⟨C2,hC2,hC2s⟩:=blk_setCells zM ((k+(b-(k+1)))*20) W1 C1 hC1
  refine⟨row_of_cells hbase hC2 (by omega) hcm (by rw[hC2s,hC1s,hCs]) ?_ λi hi=>?_,?_⟩
  ·simp only[List.length_append,List.length_take,List.length_drop,hlen]
   omega
  ·rw[World.cell?_setCells_out _ _ _ _ _ (λ_ _=>.inl (by show i<_;omega)),hW1]
   by_cases h:i<k*20
   ·rw[World.cell?_setCells_out _ _ _ _ _ (λ_ _=>.inl (by show i<_;omega))]
    show w.cell? _=_
    rw[hcell i (by omega),List.getElem?_append_left (by rw[List.length_take,hlen];omega),List.getElem?_take,if_pos h]
   ·have hr:=World.rangeAt_setCells_same w.drew g (0+k*20) news s3
    have hi2:i-k*20<news.length:=by rw[hnl];omega
    have e1:=hr (i-k*20) news[i-k*20] (List.getElem?_eq_getElem hi2)
    rw[show 0+k*20+(i-k*20)=i by omega]at e1
    rw[e1,List.getElem?_append_right (by rw[List.length_take,hlen];omega),List.length_take,hlen,Nat.min_eq_left (by omega),←hnews,List.getElem?_eq_getElem hi2]
  ·have hk1:Keep (λi=>i=g) w W1:=by rw[hW1];exact(Keep.drew w).trans (Keep.setCells (F:=λi=>i=g) rfl _ _ _)
   exact hk1.trans (Keep.setCells (F:=λi=>i=g) rfl _ _ _)
 have hfin':Hid (type_of%hfin):=hfin
 clear hfin hW1 hC1 hC1s hcell hsome hnews hnl hblk htake hCs hcase h1
 go_enter Tryz.func82,Tryz.ntmps82
 go_wp2_with fail
 go_region_law_o (refine step_append_room rfl (.tmp 22) (.tmp 25) 37 rfl 34 iM 20 Tryz.underlying37 hiM hsM g 0 k cap (by simp[Act.eval,Act.put]) A (b-(k+1)) (cap-(k+1)) news (by simp[Act.eval,Act.put]) s1.out hsrc.out s2.out (by omega) s3.out ?_;rw[←hW.out])
 go_wp2
 go_ret
 exact⟨by rw[show k+(b-(k+1))=b-1 by omega];rfl,hfin'⟩
end Go.Rm
set_option linter.unusedVariables false
set_option linter.unusedSimpArgs false
noncomputable section
namespace Go.Rm
open Go Go.Conc Go.Proofs Go.RowKit Go.Kn Go.Ry
structure Geo where
 A:Nat
 oA:Nat
 nA:Nat
 tA:TypeId
 fA:Nat×Nat
 B:Nat
 oB:Nat
 nB:Nat
 tB:TypeId
 fB:Nat×Nat
 base:Nat
 nd:Value
 dk:Value
def Thaw (f:Nat×Nat) (i:Nat):Prop:=(decide (f.1≤i)&&decide (i<f.2))=false
theorem frozen_thaw {w:World} {g i:Nat} {C:Array Value} {ty:TypeId} {f:Nat×Nat} (h:w.heap[g]?=some (.cells C ty f)) (hf:Thaw f i):w.frozen? ⟨g,i,none⟩=false:=by
 unfold World.frozen?
 rw[h]
 exact hf
structure Bst (G:Geo) (W:World) (b:Nat) (bv:Value) (xs:List Value):Prop where
 blk:∃C,W.heap[G.B]?=some (.cells C G.tB G.fB)∧C.size=G.nB∧C[G.oB]?=some bv
 thaw:Thaw G.fB G.oB
 lt:G.B<G.base
 le:G.base≤W.heap.size
 row:W.ownsRow G.base 34 20 bv b xs
 one:∀u∈xs,u.oneCell'=true
theorem Bst.cell {G:Geo} {W:World} {b:Nat} {bv:Value} {xs:List Value} (h:Bst G W b bv xs):W.cell? ⟨G.B,G.oB,none⟩=some bv:=by
 obtain⟨C,h1,_,h2⟩:=h.blk
 rw[cell_blk h1];exact h2
theorem Bst.free {G:Geo} {W:World} {b:Nat} {bv:Value} {xs:List Value} (h:Bst G W b bv xs):W.frozen? ⟨G.B,G.oB,none⟩=false:=by
 obtain⟨C,h1,_⟩:=h.blk
 exact frozen_thaw h1 h.thaw
theorem Bst.keep {G:Geo} {W W':World} {F:Nat→Prop} {b:Nat} {bv:Value} {xs:List Value} (h:Bst G W b bv xs) (hk:Keep F W W') (hB:¬F G.B) (hr:∀k,bv.ownBlock=some k→¬F k):Bst G W' b bv xs:=by
 obtain⟨C,h1,h2,h3⟩:=h.blk
 exact⟨⟨C,hk.blk h1 hB,h2,h3⟩,h.thaw,h.lt,Nat.le_trans h.le hk.size,hk.row h.row hr,h.one⟩
theorem row_val {W:World} {base:Nat} {e:TypeId} {size:Nat} {v:Value} {n:Nat} {xs:List Value} (h:W.ownsRow base e size v n xs):∃ao c,v=.slice ao n c:=by
 rcases h.2 with⟨rfl,rfl⟩|⟨g,cap,cur,rfl,_⟩
 ·exact⟨_,_,rfl⟩
 ·exact⟨_,_,rfl⟩
structure Wst (G:Geo) (W:World) (b:Nat) (bv:Value) (xs:List Value) (sv:Value) (ns:Nat) (ss:List Value) (t:Int):Prop where
 bag:Bst G W b bv xs
 blk:∃C,W.heap[G.A]?=some (.cells C G.tA G.fA)∧C.size=G.nA∧C[G.oA]?=some G.nd∧C[G.oA+1]?=some G.dk∧C[G.oA+2]?=some (.pointer (some ⟨G.B,G.oB,none⟩))∧C[G.oA+3]?=some (.slice none 0 0)∧C[G.oA+4]?=some sv∧C[G.oA+5]?=some (.int .i64 t)
 thaw:∀i,i<6→Thaw G.fA (G.oA+i)
 lt:G.A<G.base
 ne:G.A≠G.B
 sent:W.ownsRow G.base 67 21 sv ns ss
 apart:∀k,bv.ownBlock=some k→sv.ownBlock≠some k
end Go.Rm
set_option linter.unusedVariables false
set_option linter.unusedSimpArgs false
noncomputable section
namespace Go.Rm
open Go
section
variable {P:Program} {ops:Array Oper} {Q:Exit→Act→World→Prop} {md:Region.Mode} {S:World→Prop} {n g:Nat} {L:Array Bool→Act→World→Prop}
def wpAnyT (P:Program) (md:Region.Mode) (ops:Array Oper) (Q:Exit→Act→World→Prop) (S:World→Prop) (n:Nat) (L:Array Bool→Act→World→Prop):Nat→Array Bool→Act→World→Prop
 |0,listed,a,w=>L listed a w
 |f+1,listed,a,w=>Region.ready md ops listed≠[]∧∀i∈Region.ready md ops listed,i<n∧wpOp P ops Q i (λa' w'=>S w'∧wpAnyT P md ops Q S n L f (listed.setIfInBounds i true) a' w') a w
theorem wpAny_of_headT (hL:∀listed a w,L listed a w→wpAny P md ops Q g listed a w):∀(f:Nat) (listed:Array Bool) (a:Act) (w:World),wpAnyT P md ops Q S n L f listed a w→wpAny P md ops Q (f+g) listed a w
 |0,listed,a,w,h=>by rw[Nat.zero_add];exact hL _ _ _ h
 |f+1,listed,a,w,h=>by
  rw[show f+1+g=(f+g)+1 by omega]
  exact⟨λh0=>absurd h0 h.1,λi hi=>wpOp_mono (λa' w' h'=>wpAny_of_headT hL f _ a' w' h'.2) (h.2 i hi).2⟩
theorem wpAnyT_first {i:Nat} {oi:Oper} {v:Value} (hi:ops[i]?=some oi) (hsel:∀(j:Nat) (o:Oper) cs b,ops[j]?=some o→o.op≠.select cs b) (hQ:∀c a a' w,Q (.panic c) a w→Q (.panic c) a' w)
 (hs:Region.sinkB md ops n=true) (hc:Region.chainB md ops n=true) (hn:n<ops.size) (hin:i<n) (hdone:∀listed a w,L listed a w→∀j∈Region.ready md ops listed,n≤j):
 ∀(f:Nat) (listed:Array Bool) (a:Act) (w:World),HeadInv md ops n listed→
  (∀j oj,ops[j]?=some oj→j≠i→listed.getD j true=false→(∀e∈oj.after,Region.binds md e=true→e.on≠i)→oi.apart ops oj=true)→
  i∈Region.ready md ops listed→YieldsIf P ops S oi v a→S w→
  wpAnyT P md ops Q S n L f (listed.setIfInBounds i true) (a.put oi.dst v) w→wpAnyT P md ops Q S n L (f+1) listed a w:=by
 intro f
 induction f with
 |zero=>
  intro listed a w inv _ hr hy hS H
  have hun:=(mem_ready.1 hr).1
  refine⟨λh=>(by rw[h]at hr;cases hr),λj hj=>?_⟩
  have hjn:j<n:=by
   rcases Nat.lt_or_ge j n with h|h
   ·exact h
   ·exact absurd hj (tail_waits hs hc hn inv _ i rfl hin hun j h)
  refine⟨hjn,?_⟩
  by_cases hji:j=i
  ·subst hji;exact hy.wpOp hi hS ⟨hS,H⟩
  ·have:=hdone _ _ _ H j (ready_mono hj hji)
   omega
 |succ f ih=>
  intro listed a w inv hfree hr hy hS H
  have hun:=(mem_ready.1 hr).1
  refine⟨λh=>(by rw[h]at hr;cases hr),λj hj=>?_⟩
  have hjn:j<n:=by
   rcases Nat.lt_or_ge j n with h|h
   ·exact h
   ·exact absurd hj (tail_waits hs hc hn inv _ i rfl hin hun j h)
  refine⟨hjn,?_⟩
  by_cases hji:j=i
  ·subst hji;exact hy.wpOp hi hS ⟨hS,H⟩
  ·have h1:=(H.2 j (ready_mono hj hji)).2
   obtain⟨hjun,oj,hoj,hall⟩:=mem_ready.1 hj
   have hnot:∀e∈oj.after,Region.binds md e=true→e.on≠i:=λe he hb heq=>by
    have h1:=hall e he hb
    rw[heq,getD_both hun]at h1
    cases h1
   have h2:=wpOp_putIf hoj (hfree j oj hoj hji hjun hnot) (λcs b=>hsel i oi cs b hi) (λcs b=>hsel j oj cs b hoj) (λc a w h=>hQ c _ _ w h) hy h1
   have hfree':∀k ok,ops[k]?=some ok→k≠i→(listed.setIfInBounds j true).getD k true=false→
    (∀e∈ok.after,Region.binds md e=true→e.on≠i)→oi.apart ops ok=true:=λk ok hk hki hun hno=>by
    refine hfree k ok hk hki ?_ hno
    by_cases hjk:j=k
    ·subst hjk;exact hjun
    ·rw[getD_set_ne true hjk]at hun;exact hun
   refine wpOp_mono (λa' w' h3=>⟨h3.2.1,ih (listed.setIfInBounds j true) a' w' (inv.set hj hjn) hfree' (ready_mono hr (Ne.symm hji)) h3.1 h3.2.1 ?_⟩) h2
   rw[Array.setIfInBounds_comm _ _ hji]
   exact h3.2.2
def HeadY (P:Program) (ops:Array Oper) (S:World→Prop):List Nat→(Act→Prop)→Act→Prop
 |[],K,a=>K a
 |k::ks,K,a=>∃o,ops[k]?=some o∧∃v,YieldsIf P ops S o v a∧HeadY P ops S ks K (a.put o.dst v)
def MidS (P:Program) (ops:Array Oper) (Q:Exit→Act→World→Prop) (S:World→Prop) (K:Act→World→Prop):List Nat→Act→World→Prop
 |[],a,w=>K a w
 |k::ks,a,w=>wpOp P ops Q k (λa' w'=>S w'∧MidS P ops Q S K ks a' w') a w
def midB (md:Region.Mode) (ops:Array Oper) (g n:Nat):List Nat→Array Bool→Bool
 |[],listed=>Region.seqB md ops g n listed
 |k::ks,listed=>decide (Region.ready md ops listed=[k])&&decide (k<n)&&midB md ops g n ks (listed.setIfInBounds k true)
def headB (md:Region.Mode) (ops:Array Oper) (g n:Nat) (mid:List Nat):List Nat→Array Bool→Bool
 |[],listed=>midB md ops g n mid listed
 |k::ks,listed=>(Region.ready md ops listed).contains k&&decide (k<n)&&Region.free md ops listed k&&headB md ops g n mid ks (listed.setIfInBounds k true)
theorem wpAnyT_mid {K:Act→World→Prop}:∀(ks:List Nat) (listed:Array Bool) (a:Act) (w:World),midB md ops g n ks listed=true→MidS P ops Q S K ks a w→
 wpAnyT P md ops Q S n (λlisted' a' w'=>Region.seqB md ops g n listed'=true∧K a' w') ks.length listed a w
 |[],listed,a,w,hB,h=>⟨hB,h⟩
 |k::ks,listed,a,w,hB,h=>by
  simp only[midB,Bool.and_eq_true,decide_eq_true_eq]at hB
  refine⟨λh1=>(by rw[hB.1.1]at h1;cases h1),λi hi=>?_⟩
  rw[hB.1.1]at hi
  have hik:i=k:=by simpa using hi
  subst hik
  exact⟨hB.1.2,wpOp_mono (λa' w' h'=>⟨h'.1,wpAnyT_mid ks _ a' w' hB.2 h'.2⟩) h⟩
theorem wpAnyT_head {mid:List Nat} {K:Act→World→Prop} (hsel:Region.noSelect ops=true) (hQ:∀c a a' w,Q (.panic c) a w→Q (.panic c) a' w) (hs:Region.sinkB md ops n=true) (hc:Region.chainB md ops n=true) (hn:n<ops.size) (w:World) (hS:S w):
 ∀(ks:List Nat) (listed:Array Bool) (a:Act),HeadInv md ops n listed→headB md ops g n mid ks listed=true→HeadY P ops S ks (λa'=>MidS P ops Q S K mid a' w) a→
 wpAnyT P md ops Q S n (λlisted' a' w'=>Region.seqB md ops g n listed'=true∧K a' w') (ks.length+mid.length) listed a w
 |[],listed,a,inv,hB,h=>by
  rw[List.length_nil,Nat.zero_add]
  exact wpAnyT_mid mid listed a w hB h
 |k::ks,listed,a,inv,hB,h=>by
  simp only[headB,Bool.and_eq_true,decide_eq_true_eq]at hB
  obtain⟨⟨⟨hr,hkn⟩,hf⟩,hB'⟩:=hB
  obtain⟨o,h0,v,hy,hK⟩:=h
  have hr':k∈Region.ready md ops listed:=by simpa using hr
  have e1:(k::ks).length+mid.length=(ks.length+mid.length)+1:=by simp only[List.length_cons];omega
  rw[e1]
  exact wpAnyT_first h0 (Region.noSelect_spec hsel) hQ hs hc hn hkn (λlisted' a' w' hL=>seqB_ready hL.1) (ks.length+mid.length) listed a w inv (Region.free_spec h0 hf) hr' hy hS
   (wpAnyT_head hsel hQ hs hc hn w hS ks _ _ (inv.set hr' hkn) hB' hK)
def headTail (ops:Array Oper) (n:Nat) (ks mid:List Nat):Bool:=
 Region.noSelect ops&&decide (n<ops.size)&&decide (ks.length+mid.length=n)&&Region.sinkB .any ops n&&Region.chainB .any ops n&&headB .any ops (ops.size-n) n mid ks (Array.replicate ops.size false)
theorem wp_region_head {id:Nat} {a:Act} {w:World} {l:List Oper} (n:Nat) (ks mid:List Nat) (S:World→Prop) (hm:P.follows .mixedOrders=true) (hB:headTail l.toArray n ks mid=true) (hQ:∀c a a' w,Q (.panic c) a w→Q (.panic c) a' w) (hS:S w.drew)
 (h:HeadY P l.toArray S ks (λa'=>MidS P l.toArray Q S (λa w=>wpList P l.toArray Q (l.drop n) a w) mid a' w.drew) a):(Code.region id l.toArray true).wp P Q a w:=by
 simp only[headTail,Bool.and_eq_true,decide_eq_true_eq]at hB
 obtain⟨⟨⟨⟨⟨hsel,hn⟩,hpn⟩,hs⟩,hc⟩,hlex⟩:=hB
 have hn':n<l.length:=by simpa using hn
 have hdl:(l.drop n).length=l.toArray.size-n:=by simp
 have inv0:HeadInv .any l.toArray n (Array.replicate l.toArray.size false):=
  ⟨by simp,λj oj _ hl=>(by rw[getD_replicate_false]at hl;cases hl),λt _ ht=>getD_in (by simpa using ht) (getD_replicate_false _ _)⟩
 have H:=wpAnyT_head (md:=.any) (g:=l.toArray.size-n) (mid:=mid) hsel hQ hs hc hn w.drew hS ks _ a inv0 hlex h
 refine wp_region_any hm ?_
 have:=wpAny_of_headT (Q:=Q) (g:=l.toArray.size-n) (λlisted a' w' hL=>by
  have:=wpAny_of_seq (md:=.any) (Q':=Q) (l.drop n) n listed a' w' (λj=>by simp[List.getElem?_drop]) (by rw[hdl];exact hL.1) hL.2
  rwa [hdl]at this) _ _ _ _ H
 rw[hpn,show n+(l.toArray.size-n)=l.toArray.size by omega]at this
 exact this
theorem head_nil {K:Act→Prop} {a:Act} (h:K a):HeadY P ops S [] K a:=h
theorem mid_cons {K:Act→World→Prop} {k:Nat} {ks:List Nat} {a:Act} {w:World} (h:wpOp P ops Q k (λa' w'=>S w'∧MidS P ops Q S K ks a' w') a w):MidS P ops Q S K (k::ks) a w:=h
theorem mid_nil {K:Act→World→Prop} {a:Act} {w:World} (h:K a w):MidS P ops Q S K [] a w:=h
theorem wpOp_step {k:Nat} {o:Oper} {K:Act→World→Prop} {a:Act} {w:World} (ho:ops[k]?=some o) (h:∀K':Act→World→Prop,(∀a w,K a w→K' a w)→if Region.wanted o (yielded ops a.tmps)=true then Oper.wp P o a w K' Q else K' (a.put o.dst undef) w):wpOp P ops Q k K a w:=by
 have h1:=h K λ_ _ h=>h
 unfold wpOp
 simp only[ho]
 split
 ·rename_i hw;rw[if_pos hw]at h1;exact .inl h1
 ·rename_i hw;rw[if_neg hw]at h1;exact h1
theorem y_move {o:Oper} {a:Act} (x:Operand) (hg:o.guard=none) (ho:o.op=.move x):YieldsIf P ops S o (a.eval x) a:=
 .inl ⟨by simp[Region.wanted,hg],λw _=>by simp[execOp,ho]⟩
theorem y_run {o:Oper} {a:Act} {v:Value} (hg:o.guard=none) (h:∀w,S w→(execOp a.eval o).run P w=.ok (.value v) w):YieldsIf P ops S o v a:=
 .inl ⟨by simp[Region.wanted,hg],h⟩
def StepS (P:Program) (ops:Array Oper) (Q:Exit→Act→World→Prop) (S:World→Prop) (K:Act→World→Prop):List (Nat×Bool)→Act→World→Prop
 |[],a,w=>K a w
 |(k,true)::ks,a,w=>∃o,ops[k]?=some o∧∃v,YieldsIf P ops S o v a∧StepS P ops Q S K ks (a.put o.dst v) w
 |(k,false)::ks,a,w=>wpOp P ops Q k (λa' w'=>S w'∧StepS P ops Q S K ks a' w') a w
def stepB (md:Region.Mode) (ops:Array Oper) (g n:Nat):List (Nat×Bool)→Array Bool→Bool
 |[],listed=>Region.seqB md ops g n listed
 |(k,true)::ks,listed=>(Region.ready md ops listed).contains k&&decide (k<n)&&Region.free md ops listed k&&stepB md ops g n ks (listed.setIfInBounds k true)
 |(k,false)::ks,listed=>decide (Region.ready md ops listed=[k])&&decide (k<n)&&stepB md ops g n ks (listed.setIfInBounds k true)
theorem wpAnyT_steps {K:Act→World→Prop} (hsel:Region.noSelect ops=true) (hQ:∀c a a' w,Q (.panic c) a w→Q (.panic c) a' w) (hs:Region.sinkB md ops n=true) (hc:Region.chainB md ops n=true) (hn:n<ops.size):
 ∀(ks:List (Nat×Bool)) (listed:Array Bool) (a:Act) (w:World),S w→HeadInv md ops n listed→stepB md ops g n ks listed=true→StepS P ops Q S K ks a w→
 wpAnyT P md ops Q S n (λlisted' a' w'=>Region.seqB md ops g n listed'=true∧K a' w') ks.length listed a w
 |[],listed,a,w,_,inv,hB,h=>⟨hB,h⟩
 |(k,true)::ks,listed,a,w,hS,inv,hB,h=>by
  simp only[stepB,Bool.and_eq_true,decide_eq_true_eq]at hB
  obtain⟨⟨⟨hr,hkn⟩,hf⟩,hB'⟩:=hB
  obtain⟨o,h0,v,hy,hK⟩:=h
  have hr':k∈Region.ready md ops listed:=by simpa using hr
  exact wpAnyT_first h0 (Region.noSelect_spec hsel) hQ hs hc hn hkn (λlisted' a' w' hL=>seqB_ready hL.1) ks.length listed a w inv (Region.free_spec h0 hf) hr' hy hS
   (wpAnyT_steps hsel hQ hs hc hn ks _ _ _ hS (inv.set hr' hkn) hB' hK)
 |(k,false)::ks,listed,a,w,hS,inv,hB,h=>by
  simp only[stepB,Bool.and_eq_true,decide_eq_true_eq]at hB
  obtain⟨⟨hr,hkn⟩,hB'⟩:=hB
  refine⟨λh1=>(by rw[hr]at h1;cases h1),λi hi=>?_⟩
  have hi':=hi
  rw[hr]at hi
  have hik:i=k:=by simpa using hi
  subst hik
  exact⟨hkn,wpOp_mono (λa' w' h'=>⟨h'.1,wpAnyT_steps hsel hQ hs hc hn ks _ _ _ h'.1 (inv.set hi' hkn) hB' h'.2⟩) h⟩
def stepsB (ops:Array Oper) (n:Nat) (ks:List (Nat×Bool)):Bool:=
 Region.noSelect ops&&decide (n<ops.size)&&decide (ks.length=n)&&Region.sinkB .any ops n&&Region.chainB .any ops n&&stepB .any ops (ops.size-n) n ks (Array.replicate ops.size false)
theorem wp_region_steps {id:Nat} {a:Act} {w:World} {l:List Oper} (n:Nat) (ks:List (Nat×Bool)) (S:World→Prop) (hm:P.follows .mixedOrders=true) (hB:stepsB l.toArray n ks=true) (hQ:∀c a a' w,Q (.panic c) a w→Q (.panic c) a' w) (hS:S w.drew)
 (h:StepS P l.toArray Q S (λa w=>wpList P l.toArray Q (l.drop n) a w) ks a w.drew):(Code.region id l.toArray true).wp P Q a w:=by
 simp only[stepsB,Bool.and_eq_true,decide_eq_true_eq]at hB
 obtain⟨⟨⟨⟨⟨hsel,hn⟩,hpn⟩,hs⟩,hc⟩,hlex⟩:=hB
 have hn':n<l.length:=by simpa using hn
 have hdl:(l.drop n).length=l.toArray.size-n:=by simp
 have inv0:HeadInv .any l.toArray n (Array.replicate l.toArray.size false):=
  ⟨by simp,λj oj _ hl=>(by rw[getD_replicate_false]at hl;cases hl),λt _ ht=>getD_in (by simpa using ht) (getD_replicate_false _ _)⟩
 have H:=wpAnyT_steps (md:=.any) (g:=l.toArray.size-n) hsel hQ hs hc hn ks _ a w.drew hS inv0 hlex h
 refine wp_region_any hm ?_
 have:=wpAny_of_headT (Q:=Q) (g:=l.toArray.size-n) (λlisted a' w' hL=>by
  have:=wpAny_of_seq (md:=.any) (Q':=Q) (l.drop n) n listed a' w' (λj=>by simp[List.getElem?_drop]) (by rw[hdl];exact hL.1) hL.2
  rwa [hdl]at this) _ _ _ _ H
 rw[hpn,show n+(l.toArray.size-n)=l.toArray.size by omega]at this
 exact this
theorem step_take {K:Act→World→Prop} {k:Nat} {ks:List (Nat×Bool)} {a:Act} {w:World} {o:Oper} {v:Value} (ho:ops[k]?=some o) (hy:YieldsIf P ops S o v a) (h:StepS P ops Q S K ks (a.put o.dst v) w):StepS P ops Q S K ((k,true)::ks) a w:=⟨o,ho,v,hy,h⟩
theorem step_take2 {K:Act→World→Prop} {k:Nat} {ks:List (Nat×Bool)} {a a':Act} {w:World} {o:Oper} {v:Value} (ho:ops[k]?=some o) (hy:YieldsIf P ops S o v a) (ha:a.put o.dst v=a') (h:StepS P ops Q S K ks a' w):StepS P ops Q S K ((k,true)::ks) a w:=⟨o,ho,v,hy,by rw[ha];exact h⟩
theorem step_op {K:Act→World→Prop} {k:Nat} {ks:List (Nat×Bool)} {a:Act} {w:World} {o:Oper} (ho:ops[k]?=some o) (h:∀K':Act→World→Prop,(∀a w,S w∧StepS P ops Q S K ks a w→K' a w)→if Region.wanted o (yielded ops a.tmps)=true then Oper.wp P o a w K' Q else K' (a.put o.dst undef) w):StepS P ops Q S K ((k,false)::ks) a w:=wpOp_step ho h
theorem step_nil {K:Act→World→Prop} {a:Act} {w:World} (h:K a w):StepS P ops Q S K [] a w:=h
theorem y_runG {o:Oper} {a:Act} {v:Value} (hg:Region.wanted o (yielded ops a.tmps)=true) (h:∀w,S w→(execOp a.eval o).run P w=.ok (.value v) w):YieldsIf P ops S o v a:=.inl ⟨hg,h⟩
theorem y_skip {o:Oper} {a:Act} (hg:Region.wanted o (yielded ops a.tmps)=false):YieldsIf P ops S o undef a:=.inr ⟨hg,rfl⟩
end
end Go.Rm
set_option linter.unusedVariables false
set_option linter.unusedSimpArgs false
noncomputable section
namespace Go.Rm
open Go Go.Conc Go.Proofs Go.RowKit Go.Kn Go.Ry
theorem y_load_mid {P:Program} {op:Oper} {a:Act} {w:World} {ty:TypeId} {x:Operand} {b o:Nat} {cs:List Value} {d:TypeDesc} (ho:op.op=.load ty x) (hx:a.eval x=.pointer (some ⟨b,o,none⟩)) (hc:w.rangeAt b o cs)
 (hu:P.underlying ty=some d) (hd:d.isRow=true) (hi:(P.info? ty).map (·.size)=some cs.length):(execOp a.eval op).run P w=.ok (.value (.agg cs.toArray)) w:=by
 unfold execOp
 simp only[ho,hx,Instr.loadAt,Instr.sureAddr,Sem.run_bind,Sem.run_pure,Result.andThen_ok,run_loadVar_mid w b o ty cs d hc hu hd hi]
theorem len_ok {G:Geo} {W:World} {b:Nat} {bv:Value} {xs:List Value} (h:Bst G W b bv xs):Calls Tryz.prog 33 #[.pointer (some ⟨G.B,G.oB,none⟩)] W λe w'=>e=.returned (.int .i64 b)∧w'=W:=by
 obtain⟨ao,c,rfl⟩:=row_val h.row
 have hc:=h.cell
 clear h
 generalize G.B=B at hc⊢
 generalize G.oB=o at hc⊢
 go_enter Tryz.func33,Tryz.ntmps33
 go_wp2
 go_ret
 exact⟨rfl,rfl⟩
theorem at_ok {G:Geo} {W:World} {b:Nat} {bv:Value} {xs:List Value} (h:Bst G W b bv xs) (k:Nat) (hk:k<b):Calls Tryz.prog 41 #[.pointer (some ⟨G.B,G.oB,none⟩),.int .i64 k] W λe w'=>e=.returned (.int .i64 0)∧w'=W:=by
 obtain⟨ao,c,rfl⟩:=row_val h.row
 have hc:=h.cell
 clear h
 generalize G.B=B at hc⊢
 generalize G.oB=o at hc⊢
 have hkb:(k:Int)<(b:Int):=by omega
 have hk0:¬(k:Int)<0:=by omega
 have hkb1:¬(b:Int)≤(k:Int):=by omega
 go_enter Tryz.func41,Tryz.ntmps41
 go_wp2
 go_ret
 exact⟨rfl,rfl⟩
def Fresh (W:World) (v v':Value):Prop:=∀k,v'.ownBlock=some k→v.ownBlock=some k∨W.heap.size≤k
theorem list20 (l:List Value) (h:l.length=20):∃(m0 m1 m2 m3 m4 m5 m6 m7 m8 m9 m10 m11 m12 m13 m14 m15 m16 m17 m18 m19:Value),l=[m0,m1,m2,m3,m4,m5,m6,m7,m8,m9,m10,m11,m12,m13,m14,m15,m16,m17,m18,m19]:=by
 match l,h with
 |[m0,m1,m2,m3,m4,m5,m6,m7,m8,m9,m10,m11,m12,m13,m14,m15,m16,m17,m18,m19],_=>exact⟨_,_,_,_,_,_,_,_,_,_,_,_,_,_,_,_,_,_,_,_,rfl⟩
theorem box_cells (W:World) (mc:List Value) (i:Nat):(W.alloc (.cells mc.toArray 34)).cell? ⟨W.heap.size,i,none⟩=mc[i]?:=by
 rw[World.cell?_alloc_at (w:=W) _ _ _ _ rfl,List.getElem?_toArray]
theorem Bst.grow {G:Geo} {V V':World} {b b':Nat} {bv bv':Value} {xs xs':List Value} (h:Bst G V b bv xs) (hg:V.grownBy V' bv.ownBlock) (hr:V'.ownsRow G.base 34 20 bv' b' xs') (ho:∀u∈xs',u.oneCell'=true):
 V'.cell? ⟨G.B,G.oB,none⟩=some bv∧V'.frozen? ⟨G.B,G.oB,none⟩=false∧Bst G (V'.setCell ⟨G.B,G.oB,none⟩ bv') b' bv' xs':=by
 obtain⟨C,h1,h2,h3⟩:=h.blk
 have hl:G.B<V.heap.size:=(Array.getElem?_eq_some_iff.1 h1).1
 have hb:V'.heap[G.B]?=some (.cells C G.tB G.fB):=(hg.block G.B hl (λe=>by have:=(h.row.lt _ e.symm).1;have:=h.lt;omega)).trans h1
 have hi:G.oB<C.size:=(Array.getElem?_eq_some_iff.1 h3).1
 exact⟨by rw[cell_blk hb];exact h3,frozen_thaw hb h.thaw,⟨_,blk_setCell hb _ _,by simp[h2],by simp[hi]⟩,h.thaw,h.lt,Nat.le_trans h.le (by simpa using hg.size),ownsRow_setCell_below hr h.lt _,ho⟩
set_option maxHeartbeats 2000000 in
set_option maxRecDepth 100000 in
theorem put_ok {G:Geo} {W:World} {b:Nat} {bv:Value} {xs:List Value} (h:Bst G W b bv xs) (mc:List Value) (hl:mc.length=20) (h1:∀u∈mc,u.oneCell'=true) (hb:b≤1000)
 (hcl:∀V,Below W.heap.size W V→Calls Tryz.prog 22 #[.agg mc.toArray] V λe w'=>e=.returned (.agg mc.toArray)∧Below V.heap.size V w'):
 Calls Tryz.prog 21 #[.pointer (some ⟨G.B,G.oB,none⟩),.agg mc.toArray] W λe w'=>e=.returned (.tuple #[])∧∃bv',Bst G w' (b+1) bv' (xs++mc)∧Fresh W bv bv'∧Keep (λk=>k=G.B∨bv.ownBlock=some k) W w':=by
 have hc:=h.cell
 obtain⟨m0,m1,m2,m3,m4,m5,m6,m7,m8,m9,m10,m11,m12,m13,m14,m15,m16,m17,m18,m19,rfl⟩:=list20 mc hl
 have hrow:Hid _:=h.row
 have hBl:G.B<W.heap.size:=World.block_lt_of_cell? _ _ hc
 have hbN:G.base≤W.heap.size:=h.le
 have hbst:Hid _:=h
 have hone:Hid (∀u∈xs++[m0,m1,m2,m3,m4,m5,m6,m7,m8,m9,m10,m11,m12,m13,m14,m15,m16,m17,m18,m19],u.oneCell'=true):=λu hu=>(List.mem_append.1 hu).elim (h.one u) (h1 u)
 have h1H:Hid _:=h1
 clear hl
 have hBb:=h.lt
 have hiM:(Tryz.prog.info? 34).map (·.size)=some 20:=by kernel_rfl
 have hinfoM:(Tryz.prog.info? 34).map (λi=>(i.zero,i.size,i.bytes))=some (some (.agg zM.toArray),20,216):=by kernel_rfl
 obtain⟨iM,hjM,hzM,hsM,hbM⟩:=info_parts hinfoM
 have mixed:Tryz.prog.follows .mixedOrders=true:=by kernel_rfl
 have hw0:Hid (Below W.heap.size W ((W.alloc (.cells #[m0,m1,m2,m3,m4,m5,m6,m7,m8,m9,m10,m11,m12,m13,m14,m15,m16,m17,m18,m19] 34)).drew)):=(Below.alloc (Below.refl _ _) (Nat.le_refl _) _).drew
 have hc0:((W.alloc (.cells #[m0,m1,m2,m3,m4,m5,m6,m7,m8,m9,m10,m11,m12,m13,m14,m15,m16,m17,m18,m19] 34)).drew).cell? ⟨G.B,G.oB,none⟩=some bv:=(hw0.out.cell hBl).trans hc
 have hcall:Hid _:=hcl _ hw0.out
 have hgen:Hid (∀V,Below W.heap.size W V→V.cell? ⟨G.B,G.oB,none⟩=some bv):=λV hV=>(hV.cell hBl).trans hc
 have hgrow:Hid (∀V,Below W.heap.size W V→V.ownsRow G.base 34 20 bv b xs):=λV hV=>(Keep.of_below (F:=λk=>W.heap.size≤k) hV λk _ hk=>hk).row hrow λk hk hn=>by have:=(World.ownsRow.lt hrow.out k hk).2;omega
 have hrange0:Hid (((W.alloc (.cells #[m0,m1,m2,m3,m4,m5,m6,m7,m8,m9,m10,m11,m12,m13,m14,m15,m16,m17,m18,m19] 34)).drew).rangeAt W.heap.size 0 [m0,m1,m2,m3,m4,m5,m6,m7,m8,m9,m10,m11,m12,m13,m14,m15,m16,m17,m18,m19]):=λj v hv=>by
  rw[Nat.zero_add,World.cell?_drew]
  exact(box_cells W [m0,m1,m2,m3,m4,m5,m6,m7,m8,m9,m10,m11,m12,m13,m14,m15,m16,m17,m18,m19] j).trans hv
 have hrangeA:Hid (∀(V:World) o,V.rangeAt W.heap.size 0 [m0,m1,m2,m3,m4,m5,m6,m7,m8,m9,m10,m11,m12,m13,m14,m15,m16,m17,m18,m19]→(V.alloc o).rangeAt W.heap.size 0 [m0,m1,m2,m3,m4,m5,m6,m7,m8,m9,m10,m11,m12,m13,m14,m15,m16,m17,m18,m19]):=λV o h j v hv=>Lib.cell?_alloc_some o (h j v hv)
 have hrangeH:Hid (∀V,Below ((W.alloc (.cells #[m0,m1,m2,m3,m4,m5,m6,m7,m8,m9,m10,m11,m12,m13,m14,m15,m16,m17,m18,m19] 34)).drew).heap.size ((W.alloc (.cells #[m0,m1,m2,m3,m4,m5,m6,m7,m8,m9,m10,m11,m12,m13,m14,m15,m16,m17,m18,m19] 34)).drew) V→V.rangeAt W.heap.size 0 [m0,m1,m2,m3,m4,m5,m6,m7,m8,m9,m10,m11,m12,m13,m14,m15,m16,m17,m18,m19]):=λV hV j v hv=>(hV.cell (by show W.heap.size<(W.heap.push _).size;rw[Array.size_push];omega)).trans (hrange0.out j v hv)
 clear hcl h1 h
 go_enter Tryz.func21,Tryz.ntmps21
 go_wp2_with fail
 refine wp_region_noPanic (wp_region_head 9 [0,1,2,3,4,5] [6,7,8] (λV=>V.cell? ⟨G.B,G.oB,none⟩=some bv∧V.rangeAt W.heap.size 0 [m0,m1,m2,m3,m4,m5,m6,m7,m8,m9,m10,m11,m12,m13,m14,m15,m16,m17,m18,m19]) mixed (by kernel_rfl) (λ_ _ _ _ h=>h.elim) ⟨hc0,?hr0⟩ ?_)
 case hr0=>exact hrange0.out
 refine⟨_,rfl,_,y_move (.tmp 0) rfl rfl,?_⟩
 refine⟨_,rfl,_,y_move (.tmp 0) rfl rfl,?_⟩
 refine⟨_,rfl,.pointer (some ⟨G.B,G.oB,none⟩),y_run rfl (λw hS=>by go_simp),?_⟩
 refine⟨_,rfl,.pointer (some ⟨G.B,G.oB,none⟩),y_run rfl (λw hS=>by go_simp),?_⟩
 refine⟨_,rfl,bv,y_run rfl (λw hS=>by have h1:=hS.1;clear hS;go_simp),?_⟩
 refine⟨_,rfl,.agg #[m0,m1,m2,m3,m4,m5,m6,m7,m8,m9,m10,m11,m12,m13,m14,m15,m16,m17,m18,m19],y_run rfl (λw hS=>y_load_mid rfl rfl hS.2 Tryz.underlying34 rfl hiM),?_⟩
 refine head_nil (mid_cons (wpOp_step rfl λK' hK=>?_))
 go_simp
 go_at_call 22
 refine Calls.mono hcall.out ?_
 rintro e W5 ⟨rfl,hb5⟩
 have hb55:=hw0.out.trans (hb5.mono hw0.out.size)
 have hs5:=hb55.size
 refine hK _ _ ⟨⟨hgen.out _ hb55,hrangeH.out _ hb5⟩,mid_cons (wpOp_step rfl λK' hK=>?_)⟩
 go_simp
 have hbV:=hb55.alloc hb55.size (.cells #[m0,m1,m2,m3,m4,m5,m6,m7,m8,m9,m10,m11,m12,m13,m14,m15,m16,m17,m18,m19] 34)
 have hrV:=hrangeA.out W5 (.cells #[m0,m1,m2,m3,m4,m5,m6,m7,m8,m9,m10,m11,m12,m13,m14,m15,m16,m17,m18,m19] 34) (hrangeH.out _ hb5)
 refine hK _ _ ⟨⟨hgen.out _ hbV,hrV⟩,mid_cons (wpOp_step (o:={dst:=some 14,op:=.call {callee:=.builtin .append,args:=#[.tmp 10,.tmp 13],argTypes:=#[37,37]},type:=_,pos:=_,after:=_,guard:=none}) rfl λK' hK=>?_)⟩
 have hbst5:=hbst.out.keep (Keep.of_below (F:=λk=>W.heap.size≤k) hbV λk _ hk=>hk) (by omega) (λk hk hn=>by have:=(World.ownsRow.lt hrow.out k hk).2;omega)
 refine step_append_lies _ rfl (.tmp 10) (.tmp 13) 37 rfl G.base 34 iM (.agg zM.toArray) 20 216 Tryz.underlying37 hjM hzM hsM hbM rfl (by decide) bv b xs rfl (hgrow.out _ hbV) ⟨W5.heap.size,0,none⟩ 1 1 [m0,m1,m2,m3,m4,m5,m6,m7,m8,m9,m10,m11,m12,m13,m14,m15,m16,m17,m18,m19] rfl rfl (World.news_of_block (cs:=#[m0,m1,m2,m3,m4,m5,m6,m7,m8,m9,m10,m11,m12,m13,m14,m15,m16,m17,m18,m19]) (t:=34) (fr:=(0,0)) (heap_alloc_new W5 _)) h1H.out (by decide) (by unfold maxLen;omega) (by omega) (by rw[World.size_alloc];omega) (W5.heap.size+1) (by simp) ?_
 intro g cap W6 hown6 hgrow6 hat6 hlt6
 obtain⟨hc6,hf6,hfin6⟩:=hbst5.grow hgrow6 hown6 hone.out
 have hk1:=(Keep.of_below (F:=λk=>W.heap.size≤k) hbV λk _ hk=>hk).mono (G:=λk=>k=G.B∨bv.ownBlock=some k) λk h1 h2=>absurd h1 (by omega)
 have hk2:=(hk1.trans ((Keep.grown (F:=λk=>bv.ownBlock=some k) hgrow6 λk hk=>hk).mono λk _ h=>.inr h)).trans (Keep.setCell W6 ⟨G.B,G.oB,none⟩ (.slice (some ⟨g,0,none⟩) (b+1) cap) (.inl rfl))
 have hfr:Fresh W bv (.slice (some ⟨g,0,none⟩) (b+1) cap):=λk hk=>by
  have:g=k:=by simpa[Value.ownBlock]using hk
  subst this
  rcases hat6 with h|h
  ·exact .inl h
  ·exact .inr (by omega)
 have hr6:W6.rangeAt W.heap.size 0 [m0,m1,m2,m3,m4,m5,m6,m7,m8,m9,m10,m11,m12,m13,m14,m15,m16,m17,m18,m19]:=λj v hv=>hgrow6.cell (hrV j v hv) (λe=>by have:=(World.ownsRow.lt hrow.out _ e.symm).2;have e2:(⟨W.heap.size,0+j,none⟩:Addr).block=W.heap.size:=rfl;omega)
 refine hK _ _ ⟨⟨hc6,hr6⟩,mid_nil ?_⟩
 replace hfin6:Hid _:=hfin6
 replace hk2:Hid _:=hk2
 replace hfr:Hid _:=hfr
 clear hr6 hgrow6 hown6 hbst5 hrV hbV hb5 hb55 hrangeH hrangeA hrange0 hgen hgrow hcall hk1 hat6 hK
 simp only[List.drop_succ_cons,List.drop_zero]
 go_wp2
 refine NoPanic.normal ?_
 go_wp2
 go_end0
 exact⟨rfl,_,hfin6.out,hfr.out,hk2.out⟩
end Go.Rm
set_option linter.unusedVariables false
set_option linter.unusedSimpArgs false
noncomputable section
namespace Go.Rm
open Go Go.Conc Go.Proofs Go.RowKit Go.Kn Go.Ry
theorem row_some {W:World} {base:Nat} {e:TypeId} {size:Nat} {v:Value} {n:Nat} {xs:List Value} (h:W.ownsRow base e size v n xs) (hn:0<n):∃g cap,v=.slice (some ⟨g,0,none⟩) n cap∧g<W.heap.size∧base≤g∧∀j u,xs[j]?=some u→W.cell? ⟨g,j,none⟩=some u:=by
 obtain⟨h1,h2⟩:=h
 rcases h2 with⟨rfl,h0⟩|⟨g,cap,cur,rfl,hb,hg,r⟩
 ·omega
 ·refine⟨g,cap,rfl,(Array.getElem?_eq_some_iff.1 hg).1,hb,λj u hu=>?_⟩
  have:=World.ownsRow.cells (w:=W) (e:=e) (size:=size) (v:=.slice (some ⟨g,0,none⟩) n cap) (n:=n) (xs:=xs) (base:=base) ⟨h1,.inr ⟨g,cap,cur,rfl,hb,hg,r⟩⟩ (g:=g) rfl j u hu
  rwa [Addr.add_mid,Nat.zero_add]at this
theorem zeroM_there (W:World):(W.alloc (.cells zM.toArray 34)).there W.heap.size 0 20:=alloc_there W zM.toArray 34
theorem range_keep {F:Nat→Prop} {V V':World} (hk:Keep F V V') {b o:Nat} {cs:List Value} (h:V.rangeAt b o cs) (hn:¬F b):V'.rangeAt b o cs:=λj v hv=>hk.cell (h j v hv) hn
theorem there_keep {F:Nat→Prop} {V V':World} (hk:Keep F V V') {b o n:Nat} (h:V.there b o n) (hb:b<V.heap.size) (hn:¬F b):V'.there b o n:=λj hj=>by
 have e:=hk.block b hb hn
 exact⟨by rw[World.cell?_of_block (w:=V) (a:=⟨b,o+j,none⟩) e];exact(h j hj).1,by rw[World.frozen?_of_block (w:=V) (a:=⟨b,o+j,none⟩) e];exact(h j hj).2⟩
structure TakeG (G:Geo) (W:World) (b:Nat) (bv:Value) (xs mc:List Value) (V V3:World):Prop where
 st:Bst G V3 b bv xs
 range:V3.rangeAt (W.heap.size+1) 0 mc
 there:V3.there W.heap.size 0 20
structure TakeF (G:Geo) (W:World) (b:Nat) (bv:Value) (xs mc:List Value) (V:World):Prop where
 below:Below W.heap.size W V
 size:W.heap.size+2≤V.heap.size
 st:Bst G V b bv xs
 range:V.rangeAt (W.heap.size+1) 0 mc
 there:V.there W.heap.size 0 20
theorem size_setCells' (b:Nat):∀(vs:List Value) (o:Nat) (w:World),(w.setCells b o vs).heap.size=w.heap.size
 |[],o,w=>rfl
 |v::vs,o,w=>by rw[World.setCells,size_setCells' b vs,World.size_setCell]
theorem Bst.over {G:Geo} {V V':World} {b b':Nat} {bv bv':Value} {xs xs':List Value} (h:Bst G V b bv xs) (hg:Keep (λi=>i≠G.B) V V') (hr:V'.ownsRow G.base 34 20 bv' b' xs') (ho:∀u∈xs',u.oneCell'=true):
 V'.cell? ⟨G.B,G.oB,none⟩=some bv∧V'.frozen? ⟨G.B,G.oB,none⟩=false∧Bst G (V'.setCell ⟨G.B,G.oB,none⟩ bv') b' bv' xs':=by
 obtain⟨C,h1,h2,h3⟩:=h.blk
 have hb:V'.heap[G.B]?=some (.cells C G.tB G.fB):=hg.blk h1 (λh=>h rfl)
 have hi:G.oB<C.size:=(Array.getElem?_eq_some_iff.1 h3).1
 exact⟨by rw[cell_blk hb];exact h3,frozen_thaw hb h.thaw,⟨_,blk_setCell hb _ _,by simp[h2],by simp[hi]⟩,h.thaw,h.lt,Nat.le_trans h.le (by simpa using hg.size),ownsRow_setCell_below hr h.lt _,ho⟩
set_option maxHeartbeats 2000000 in
set_option maxRecDepth 100000 in
theorem take_ok {G:Geo} {W:World} {b:Nat} {bv:Value} {xs:List Value} (h:Bst G W b bv xs) (k:Nat) (hk:k<b) (hb:b≤1000):
 Calls Tryz.prog 38 #[.pointer (some ⟨G.B,G.oB,none⟩),.int .i64 k] W λe w'=>e=.returned (.tuple #[.agg ((xs.drop (k*20)).take 20).toArray,.int .i64 0])∧∃bv',Bst G w' (b-1) bv' (xs.take (k*20)++xs.drop ((k+1)*20))∧Fresh W bv bv'∧Keep (λi=>i=G.B∨bv.ownBlock=some i) W w':=by
 obtain⟨g,cap,rfl,hg,hbg,hcells⟩:=row_some h.row (by omega)
 have hc:=h.cell
 have hf:=h.free
 have hBl:G.B<W.heap.size:=World.block_lt_of_cell? _ _ hc
 have hxl:xs.length=b*20:=h.row.1
 obtain⟨mc,hmc⟩:∃mc,mc=(xs.drop (k*20)).take 20:=⟨_,rfl⟩
 have hml:mc.length=20:=by rw[hmc,List.length_take,List.length_drop];omega
 have hmo:∀u∈mc,u.oneCell'=true:=λu hu=>h.one u (List.mem_of_mem_drop (List.mem_of_mem_take (hmc▸hu)))
 have hmo':mc.toArray.all (·.oneCell')=true:=Array.all_eq_true_iff_forall_mem.2 λu hu=>hmo u (by simpa using hu)
 have hmg:W.rangeAt g (k*20) mc:=λj v hv=>by
  rw[hmc,List.getElem?_take]at hv
  split at hv
  ·rw[List.getElem?_drop]at hv
   exact hcells _ _ hv
  ·cases hv
 rw[←hmc]
 have hw0:Below W.heap.size W (W.alloc (.cells zM.toArray 34)):=Below.alloc (Below.refl _ _) (Nat.le_refl _) _
 have hgk:∀i,(Value.slice (some ⟨g,0,none⟩) b cap).ownBlock=some i→i=g:=λi hi=>by
  have:g=i:=by simpa[Value.ownBlock]using hi
  exact this.symm
 have hkeep:∀V,Below W.heap.size W V→Bst G V b (.slice (some ⟨g,0,none⟩) b cap) xs:=λV hV=>h.keep (F:=λk=>W.heap.size≤k) (Keep.of_below hV λk _ hk=>hk) (by omega) (λi hi=>by rw[hgk i hi];omega)
 have hat:=at_ok (hkeep _ hw0) k hk
 have hkb:(k:Int)<(b:Int):=by omega
 have hk0:(0:Int)≤(k:Int):=by omega
 have hiM:(Tryz.prog.info? 34).map (·.size)=some 20:=by kernel_rfl
 have hiM':(Tryz.prog.info? 34).map (·.size)=some mc.length:=by rw[hml];exact hiM
 have hmr1:Hid ((W.alloc (.cells zM.toArray 34)).rangeAt g (k*20) mc):=λj v hv=>(hw0.cell hg).trans (hmg j v hv)
 have hms:mc.toArray.size=20:=by rw[List.size_toArray];exact hml
 have hth0:((W.alloc (.cells zM.toArray 34)).alloc (.cells zM.toArray 34)).there (W.heap.size+1) 0 mc.toArray.size:=by
  have h9:=zeroM_there (W.alloc (.cells zM.toArray 34))
  rw[World.size_alloc]at h9
  rw[hms]
  exact h9
 have hth1:Hid _:=hth0
 have hF:TakeF G W b (.slice (some ⟨g,0,none⟩) b cap) xs mc (((W.alloc (.cells zM.toArray 34)).alloc (.cells zM.toArray 34)).setCells (W.heap.size+1) 0 mc):=by
  have hb1:=setCells_below (Below.refl W.heap.size W) (W.heap.size+1) (Nat.le_succ _) mc 0 _ (hw0.alloc hw0.size (.cells zM.toArray 34))
  have hsz:(((W.alloc (.cells zM.toArray 34)).alloc (.cells zM.toArray 34)).setCells (W.heap.size+1) 0 mc).heap.size=W.heap.size+2:=by
   rw[size_setCells',size_two]
  refine⟨hb1,by rw[hsz];exact Nat.le_refl _,hkeep _ hb1,World.rangeAt_setCells_same _ _ _ _ (by rw[←List.size_toArray];exact hth0),λj hj=>?_⟩
  have h8:=zeroM_there W j hj
  refine World.there_setCells (n:=20) ?_ _ _ _ j hj
  intro i hi
  exact⟨by rw[Lib.cell?_alloc_some _ (Option.isSome_iff_exists.1 (zeroM_there W i hi).1).choose_spec];rfl,by rw[Nat.zero_add,World.frozen?_alloc_past _ _ _ (by rw[World.size_alloc];omega)];have h7:=(zeroM_there W i hi).2;rwa [Nat.zero_add]at h7⟩
 clear hmg hth0 hw0 hkeep hcells hmc
 refine calls_of_wpN Tryz.func38 rfl ?_
 simp only[Tryz.ntmps38,List.size_toArray,List.length_cons,List.length_nil,Nat.reduceAdd,Nat.reduceSub,Array.replicate_succ,
  Array.replicate_zero,List.push_toArray,List.append_toArray,List.nil_append,List.cons_append]
 refine wpN_seq (of_wp ?_)
 go_wp2
 refine wpN_seq ?_
 refine wpN_seq (of_wp ?_)
 go_wp2_with (go_at_call 41;refine hat.mono ?_;rintro e W2 ⟨rfl,hW2⟩;have h9:=hW2.symm;clear hW2;subst h9)
 refine wpN_seq (of_wp ?_)
 go_wp2
 refine of_wp ?_
 go_wp2
 refine wpN_seq (of_wp ?_)
 go_wp2_with (first|(refine wpList_load_mid (op:={dst:=some 21,op:=.load 34 (.tmp 20),type:=_,pos:=_,after:=_,guard:=none}) rfl 34 (.tmp 20) rfl g (k*20) rfl mc _ ?hr1 Tryz.underlying34 rfl hiM' ?_;case hr1=>exact hmr1.out)|(refine wpList_store_mid (op:={dst:=none,op:=.store 34 (.tmp 7) (.tmp 21),type:=_,pos:=_,after:=_,guard:=none}) rfl 34 (.tmp 7) (.tmp 21) rfl (W.heap.size+1) 0 mc.toArray rfl rfl ?ht hiM' hmo' ?_;case ht=>exact hth1.out))
 refine(λ(h:∀V,TakeF G W b (.slice (some ⟨g,0,none⟩) b cap) xs mc V→WpN Tryz.prog _ _ _ V)=>h _ hF) ?_
 clear hF hmr1 hth1 hat
 intro V hF
 obtain⟨hV,hVs,hVst,hVr,hVt⟩:=hF
 have hcV:=hVst.cell
 have hdel:=delete_ok G.base g cap b k xs V hVst.row hk hVst.one
 have hvst:Hid _:=hVst
 have hvr:Hid _:=hVr
 have hvt:Hid _:=hVt
 have hone':Hid (∀u∈xs.take (k*20)++xs.drop ((k+1)*20),u.oneCell'=true):=λu hu=>h.one u ((List.mem_append.1 hu).elim List.mem_of_mem_take List.mem_of_mem_drop)
 have hwr:IntKind.i64.wrap ((k:Int)+1)=(k:Int)+1:=by simp[IntKind.wrap,IntKind.bits,IntKind.signed];omega
 clear hVst hVr hVt
 refine wpN_seq (of_wp ?_)
 go_wp2_with (go_at_call 82;refine hdel.mono ?_;rintro e V2 ⟨rfl,hrow2,hk2⟩;obtain⟨hc2,hf2,hst2⟩:=hvst.out.over (hk2.mono (λi _ hi hB=>by have e1:i=g:=hi;have e2:=h.lt;omega)) hrow2 hone'.out;replace hst2:Hid _:=hst2)
 have hNg:W.heap.size≠g:=by omega
 have hNg1:W.heap.size+1≠g:=by omega
 have hk3:Keep (λi=>i=G.B∨i=g) V (V2.setCell ⟨G.B,G.oB,none⟩ (.slice (some ⟨g,0,none⟩) (b-1) cap)):=(hk2.mono λi _ hi=>.inr hi).trans (Keep.setCell _ _ _ (.inl rfl))
 have hF3:TakeG G W (b-1) (.slice (some ⟨g,0,none⟩) (b-1) cap) (xs.take (k*20)++xs.drop ((k+1)*20)) mc V (V2.setCell ⟨G.B,G.oB,none⟩ (.slice (some ⟨g,0,none⟩) (b-1) cap)):=
  ⟨hst2.out,range_keep hk3 hvr.out (by omega),there_keep hk3 hvt.out (by omega) (by omega)⟩
 refine(λ(h:∀V3,TakeG G W (b-1) (.slice (some ⟨g,0,none⟩) (b-1) cap) (xs.take (k*20)++xs.drop ((k+1)*20)) mc V V3→Keep (λi=>i=G.B∨i=g) V V3→WpN Tryz.prog _ _ _ V3)=>h _ hF3 hk3) ?_
 clear hF3 hk3 hst2 hk2 hrow2 hc2 hf2 hdel hvst hvr hvt hcV
 intro V3 ⟨hst3,hr3,ht3⟩ hk3
 have hr3H:Hid _:=hr3
 have ht3':V3.there W.heap.size 0 mc.toArray.size:=by rw[hms];exact ht3
 have ht3H:Hid _:=ht3'
 have hld:=run_loadVar_mid (P:=Tryz.prog) (V3.setCells W.heap.size 0 mc) W.heap.size 0 34 mc _ (World.rangeAt_setCells_same V3 W.heap.size 0 mc (by rw[←List.size_toArray];exact ht3')) Tryz.underlying34 rfl hiM'
 have hldH:Hid _:=hld
 have hst4:Hid _:=hst3.keep (F:=λi=>i=W.heap.size) (Keep.setCells (F:=λi=>i=W.heap.size) (b:=W.heap.size) rfl mc 0 V3) (by omega) (λi hi=>by rw[hgk i hi];omega)
 have hk4:Hid (Keep (λi=>i=G.B∨(Value.slice (some ⟨g,0,none⟩) b cap).ownBlock=some i) W (V3.setCells W.heap.size 0 mc)):=by
  have q1:Keep (λi=>i=G.B∨(Value.slice (some ⟨g,0,none⟩) b cap).ownBlock=some i∨W.heap.size≤i) W V:=Keep.of_below hV λi _ hi=>.inr (.inr hi)
  have q2:Keep (λi=>i=G.B∨(Value.slice (some ⟨g,0,none⟩) b cap).ownBlock=some i∨W.heap.size≤i) V V3:=hk3.mono λi _ hi=>hi.elim .inl λh=>.inr (.inl (by rw[h];rfl))
  have q3:Keep (λi=>i=G.B∨(Value.slice (some ⟨g,0,none⟩) b cap).ownBlock=some i∨W.heap.size≤i) V3 (V3.setCells W.heap.size 0 mc):=Keep.setCells (.inr (.inr (Nat.le_refl _))) mc 0 V3
  exact((q1.trans q2).trans q3).mono λi hi h=>h.elim .inl λh=>h.elim .inr λh=>absurd hi (by omega)
 have hfr:Hid (Fresh W (.slice (some ⟨g,0,none⟩) b cap) (.slice (some ⟨g,0,none⟩) (b-1) cap)):=λi hi=>.inl hi
 clear hr3 ht3 ht3' hld hst3 hk3
 refine wpN_seq (of_wp ?_)
 go_wp2_with (first|(refine wpList_load_mid (op:={dst:=some 33,op:=.load 34 (.tmp 7),type:=_,pos:=_,after:=_,guard:=none}) rfl 34 (.tmp 7) rfl (W.heap.size+1) 0 rfl mc _ ?hr1 Tryz.underlying34 rfl hiM' ?_;case hr1=>exact hr3H.out)|(refine wpList_store_mid (op:={dst:=none,op:=.store 34 (.tmp 4) (.tmp 33),type:=_,pos:=_,after:=_,guard:=none}) rfl 34 (.tmp 4) (.tmp 33) rfl W.heap.size 0 mc.toArray rfl rfl ?ht hiM' hmo' ?_;case ht=>exact ht3H.out))
 refine of_wp ?_
 go_wp2
 exact bodyPost_ret (v:=.tuple #[.agg mc.toArray,.int .i64 0]) (results_end rfl rfl rfl hldH.out) rfl ⟨rfl,_,hst4.out,hfr.out,hk4.out⟩
end Go.Rm
