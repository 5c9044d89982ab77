/-
  The bag's Take and Drop: walked.
-/
import Derived.Test.YthklkhndoojmfaaGreatDoorRmH
set_option linter.unusedVariables false
set_option linter.unusedSimpArgs false
noncomputable section
namespace Go.Rm
open Go Go.Conc Go.Proofs Go.RowKit Go.Kn Go.Ry
theorem row_some {W:World} {base:Nat} {e:TypeId} {size:Nat} {v:Value} {n:Nat} {xs:List Value} (h:W.ownsRow base e size v n xs) (hn:0<n):∃g cap,v=.slice (some ⟨g,0,none⟩) n cap∧g<W.heap.size∧base≤g∧∀j u,xs[j]?=some u→W.cell? ⟨g,j,none⟩=some u:=by
 obtain⟨h1,h2⟩:=h
 rcases h2 with⟨rfl,h0⟩|⟨g,cap,cur,rfl,hb,hg,r⟩
 ·omega
 ·refine⟨g,cap,rfl,(Array.getElem?_eq_some_iff.1 hg).1,hb,λj u hu=>?_⟩
  have:=World.ownsRow.cells (w:=W) (e:=e) (size:=size) (v:=.slice (some ⟨g,0,none⟩) n cap) (n:=n) (xs:=xs) (base:=base) ⟨h1,.inr ⟨g,cap,cur,rfl,hb,hg,r⟩⟩ (g:=g) rfl j u hu
  rwa [Addr.add_mid,Nat.zero_add]at this
theorem zeroM_there (W:World):(W.alloc (.cells zM.toArray 47)).there W.heap.size 0 20:=alloc_there W zM.toArray 47
theorem range_keep {F:Nat→Prop} {V V':World} (hk:Keep F V V') {b o:Nat} {cs:List Value} (h:V.rangeAt b o cs) (hn:¬F b):V'.rangeAt b o cs:=λj v hv=>hk.cell (h j v hv) hn
theorem there_keep {F:Nat→Prop} {V V':World} (hk:Keep F V V') {b o n:Nat} (h:V.there b o n) (hb:b<V.heap.size) (hn:¬F b):V'.there b o n:=λj hj=>by
 have e:=hk.block b hb hn
 exact⟨by rw[World.cell?_of_block (w:=V) (a:=⟨b,o+j,none⟩) e];exact(h j hj).1,by rw[World.frozen?_of_block (w:=V) (a:=⟨b,o+j,none⟩) e];exact(h j hj).2⟩
structure TakeG (G:Geo) (W:World) (b:Nat) (bv:Value) (xs mc:List Value) (V V3:World):Prop where
 st:Bst G V3 b bv xs
 range:V3.rangeAt (W.heap.size+1) 0 mc
 there:V3.there W.heap.size 0 20
structure TakeF (G:Geo) (W:World) (b:Nat) (bv:Value) (xs mc:List Value) (V:World):Prop where
 below:Below W.heap.size W V
 size:W.heap.size+2≤V.heap.size
 st:Bst G V b bv xs
 range:V.rangeAt (W.heap.size+1) 0 mc
 there:V.there W.heap.size 0 20
theorem size_setCells' (b:Nat):∀(vs:List Value) (o:Nat) (w:World),(w.setCells b o vs).heap.size=w.heap.size
 |[],o,w=>rfl
 |v::vs,o,w=>by rw[World.setCells,size_setCells' b vs,World.size_setCell]
theorem Bst.over {G:Geo} {V V':World} {b b':Nat} {bv bv':Value} {xs xs':List Value} (h:Bst G V b bv xs) (hg:Keep (λi=>i≠G.B) V V') (hr:V'.ownsRow G.base 47 20 bv' b' xs') (ho:∀u∈xs',u.oneCell'=true):
 V'.cell? ⟨G.B,G.oB,none⟩=some bv∧V'.frozen? ⟨G.B,G.oB,none⟩=false∧Bst G (V'.setCell ⟨G.B,G.oB,none⟩ bv') b' bv' xs':=by
 obtain⟨C,h1,h2,h3⟩:=h.blk
 have hb:V'.heap[G.B]?=some (.cells C G.tB G.fB):=hg.blk h1 (λh=>h rfl)
 have hi:G.oB<C.size:=(Array.getElem?_eq_some_iff.1 h3).1
 exact⟨by rw[cell_blk hb];exact h3,frozen_thaw hb h.thaw,⟨_,blk_setCell hb _ _,by simp[h2],by simp[hi]⟩,h.thaw,h.lt,Nat.le_trans h.le (by simpa using hg.size),ownsRow_setCell_below hr h.lt _,ho⟩
set_option maxHeartbeats 2000000 in
set_option maxRecDepth 100000 in
theorem take_ok {G:Geo} {W:World} {b:Nat} {bv:Value} {xs:List Value} (h:Bst G W b bv xs) (k:Nat) (hk:k<b) (hb:b≤1000):
 Calls Tryz.prog 70 #[.pointer (some ⟨G.B,G.oB,none⟩),.int .i64 k] W λe w'=>e=.returned (.tuple #[.agg ((xs.drop (k*20)).take 20).toArray,.int .i64 0])∧∃bv',Bst G w' (b-1) bv' (xs.take (k*20)++xs.drop ((k+1)*20))∧Fresh W bv bv'∧Keep (λi=>i=G.B∨bv.ownBlock=some i) W w':=by
 obtain⟨g,cap,rfl,hg,hbg,hcells⟩:=row_some h.row (by omega)
 have hc:=h.cell
 have hf:=h.free
 have hBl:G.B<W.heap.size:=World.block_lt_of_cell? _ _ hc
 have hxl:xs.length=b*20:=h.row.1
 obtain⟨mc,hmc⟩:∃mc,mc=(xs.drop (k*20)).take 20:=⟨_,rfl⟩
 have hml:mc.length=20:=by rw[hmc,List.length_take,List.length_drop];omega
 have hmo:∀u∈mc,u.oneCell'=true:=λu hu=>h.one u (List.mem_of_mem_drop (List.mem_of_mem_take (hmc▸hu)))
 have hmo':mc.toArray.all (·.oneCell')=true:=Array.all_eq_true_iff_forall_mem.2 λu hu=>hmo u (by simpa using hu)
 have hmg:W.rangeAt g (k*20) mc:=λj v hv=>by
  rw[hmc,List.getElem?_take]at hv
  split at hv
  ·rw[List.getElem?_drop]at hv
   exact hcells _ _ hv
  ·cases hv
 rw[←hmc]
 have hw0:Below W.heap.size W (W.alloc (.cells zM.toArray 47)):=Below.alloc (Below.refl _ _) (Nat.le_refl _) _
 have hgk:∀i,(Value.slice (some ⟨g,0,none⟩) b cap).ownBlock=some i→i=g:=λi hi=>by
  have:g=i:=by simpa[Value.ownBlock]using hi
  exact this.symm
 have hkeep:∀V,Below W.heap.size W V→Bst G V b (.slice (some ⟨g,0,none⟩) b cap) xs:=λV hV=>h.keep (F:=λk=>W.heap.size≤k) (Keep.of_below hV λk _ hk=>hk) (by omega) (λi hi=>by rw[hgk i hi];omega)
 have hat:=at_ok (hkeep _ hw0) k hk
 have hkb:(k:Int)<(b:Int):=by omega
 have hk0:(0:Int)≤(k:Int):=by omega
 have hiM:(Tryz.prog.info? 47).map (·.size)=some 20:=by kernel_rfl
 have hiM':(Tryz.prog.info? 47).map (·.size)=some mc.length:=by rw[hml];exact hiM
 have hmr1:Hid ((W.alloc (.cells zM.toArray 47)).rangeAt g (k*20) mc):=λj v hv=>(hw0.cell hg).trans (hmg j v hv)
 have hms:mc.toArray.size=20:=by rw[List.size_toArray];exact hml
 have hth0:((W.alloc (.cells zM.toArray 47)).alloc (.cells zM.toArray 47)).there (W.heap.size+1) 0 mc.toArray.size:=by
  have h9:=zeroM_there (W.alloc (.cells zM.toArray 47))
  rw[World.size_alloc]at h9
  rw[hms]
  exact h9
 have hth1:Hid _:=hth0
 have hF:TakeF G W b (.slice (some ⟨g,0,none⟩) b cap) xs mc (((W.alloc (.cells zM.toArray 47)).alloc (.cells zM.toArray 47)).setCells (W.heap.size+1) 0 mc):=by
  have hb1:=setCells_below (Below.refl W.heap.size W) (W.heap.size+1) (Nat.le_succ _) mc 0 _ (hw0.alloc hw0.size (.cells zM.toArray 47))
  have hsz:(((W.alloc (.cells zM.toArray 47)).alloc (.cells zM.toArray 47)).setCells (W.heap.size+1) 0 mc).heap.size=W.heap.size+2:=by
   rw[size_setCells',size_two]
  refine⟨hb1,by rw[hsz];exact Nat.le_refl _,hkeep _ hb1,World.rangeAt_setCells_same _ _ _ _ (by rw[←List.size_toArray];exact hth0),λj hj=>?_⟩
  have h8:=zeroM_there W j hj
  refine World.there_setCells (n:=20) ?_ _ _ _ j hj
  intro i hi
  exact⟨by rw[Lib.cell?_alloc_some _ (Option.isSome_iff_exists.1 (zeroM_there W i hi).1).choose_spec];rfl,by rw[Nat.zero_add,World.frozen?_alloc_past _ _ _ (by rw[World.size_alloc];omega)];have h7:=(zeroM_there W i hi).2;rwa [Nat.zero_add]at h7⟩
 clear hmg hth0 hw0 hkeep hcells hmc
 refine calls_of_wpN Tryz.func70 rfl ?_
 simp only[Tryz.ntmps70,List.size_toArray,List.length_cons,List.length_nil,Nat.reduceAdd,Nat.reduceSub,Array.replicate_succ,
  Array.replicate_zero,List.push_toArray,List.append_toArray,List.nil_append,List.cons_append]
 refine wpN_seq (of_wp ?_)
 go_wp2
 refine wpN_seq ?_
 refine wpN_seq (of_wp ?_)
 go_wp2_with (go_at_call 73;refine hat.mono ?_;rintro e W2 ⟨rfl,hW2⟩;have h9:=hW2.symm;clear hW2;subst h9)
 refine wpN_seq (of_wp ?_)
 go_wp2
 refine of_wp ?_
 go_wp2
 refine wpN_seq (of_wp ?_)
 go_wp2_with (first|(refine wpList_load_mid (op:={dst:=some 21,op:=.load 47 (.tmp 20),type:=_,pos:=_,after:=_,guard:=none}) rfl 47 (.tmp 20) rfl g (k*20) rfl mc _ ?hr1 Tryz.underlying47 rfl hiM' ?_;case hr1=>exact hmr1.out)|(refine wpList_store_mid (op:={dst:=none,op:=.store 47 (.tmp 7) (.tmp 21),type:=_,pos:=_,after:=_,guard:=none}) rfl 47 (.tmp 7) (.tmp 21) rfl (W.heap.size+1) 0 mc.toArray rfl rfl ?ht hiM' hmo' ?_;case ht=>exact hth1.out))
 refine(λ(h:∀V,TakeF G W b (.slice (some ⟨g,0,none⟩) b cap) xs mc V→WpN Tryz.prog _ _ _ V)=>h _ hF) ?_
 clear hF hmr1 hth1 hat
 intro V hF
 obtain⟨hV,hVs,hVst,hVr,hVt⟩:=hF
 have hcV:=hVst.cell
 have hdel:=delete_ok G.base g cap b k xs V hVst.row hk hVst.one
 have hvst:Hid _:=hVst
 have hvr:Hid _:=hVr
 have hvt:Hid _:=hVt
 have hone':Hid (∀u∈xs.take (k*20)++xs.drop ((k+1)*20),u.oneCell'=true):=λu hu=>h.one u ((List.mem_append.1 hu).elim List.mem_of_mem_take List.mem_of_mem_drop)
 have hwr:IntKind.i64.wrap ((k:Int)+1)=(k:Int)+1:=by simp[IntKind.wrap,IntKind.bits,IntKind.signed];omega
 clear hVst hVr hVt
 refine wpN_seq (of_wp ?_)
 go_wp2_with (go_at_call 121;refine hdel.mono ?_;rintro e V2 ⟨rfl,hrow2,hk2⟩;obtain⟨hc2,hf2,hst2⟩:=hvst.out.over (hk2.mono (λi _ hi hB=>by have e1:i=g:=hi;have e2:=h.lt;omega)) hrow2 hone'.out;replace hst2:Hid _:=hst2)
 have hNg:W.heap.size≠g:=by omega
 have hNg1:W.heap.size+1≠g:=by omega
 have hk3:Keep (λi=>i=G.B∨i=g) V (V2.setCell ⟨G.B,G.oB,none⟩ (.slice (some ⟨g,0,none⟩) (b-1) cap)):=(hk2.mono λi _ hi=>.inr hi).trans (Keep.setCell _ _ _ (.inl rfl))
 have hF3:TakeG G W (b-1) (.slice (some ⟨g,0,none⟩) (b-1) cap) (xs.take (k*20)++xs.drop ((k+1)*20)) mc V (V2.setCell ⟨G.B,G.oB,none⟩ (.slice (some ⟨g,0,none⟩) (b-1) cap)):=
  ⟨hst2.out,range_keep hk3 hvr.out (by omega),there_keep hk3 hvt.out (by omega) (by omega)⟩
 refine(λ(h:∀V3,TakeG G W (b-1) (.slice (some ⟨g,0,none⟩) (b-1) cap) (xs.take (k*20)++xs.drop ((k+1)*20)) mc V V3→Keep (λi=>i=G.B∨i=g) V V3→WpN Tryz.prog _ _ _ V3)=>h _ hF3 hk3) ?_
 clear hF3 hk3 hst2 hk2 hrow2 hc2 hf2 hdel hvst hvr hvt hcV
 intro V3 ⟨hst3,hr3,ht3⟩ hk3
 have hr3H:Hid _:=hr3
 have ht3':V3.there W.heap.size 0 mc.toArray.size:=by rw[hms];exact ht3
 have ht3H:Hid _:=ht3'
 have hld:=run_loadVar_mid (P:=Tryz.prog) (V3.setCells W.heap.size 0 mc) W.heap.size 0 47 mc _ (World.rangeAt_setCells_same V3 W.heap.size 0 mc (by rw[←List.size_toArray];exact ht3')) Tryz.underlying47 rfl hiM'
 have hldH:Hid _:=hld
 have hst4:Hid _:=hst3.keep (F:=λi=>i=W.heap.size) (Keep.setCells (F:=λi=>i=W.heap.size) (b:=W.heap.size) rfl mc 0 V3) (by omega) (λi hi=>by rw[hgk i hi];omega)
 have hk4:Hid (Keep (λi=>i=G.B∨(Value.slice (some ⟨g,0,none⟩) b cap).ownBlock=some i) W (V3.setCells W.heap.size 0 mc)):=by
  have q1:Keep (λi=>i=G.B∨(Value.slice (some ⟨g,0,none⟩) b cap).ownBlock=some i∨W.heap.size≤i) W V:=Keep.of_below hV λi _ hi=>.inr (.inr hi)
  have q2:Keep (λi=>i=G.B∨(Value.slice (some ⟨g,0,none⟩) b cap).ownBlock=some i∨W.heap.size≤i) V V3:=hk3.mono λi _ hi=>hi.elim .inl λh=>.inr (.inl (by rw[h];rfl))
  have q3:Keep (λi=>i=G.B∨(Value.slice (some ⟨g,0,none⟩) b cap).ownBlock=some i∨W.heap.size≤i) V3 (V3.setCells W.heap.size 0 mc):=Keep.setCells (.inr (.inr (Nat.le_refl _))) mc 0 V3
  exact((q1.trans q2).trans q3).mono λi hi h=>h.elim .inl λh=>h.elim .inr λh=>absurd hi (by omega)
 have hfr:Hid (Fresh W (.slice (some ⟨g,0,none⟩) b cap) (.slice (some ⟨g,0,none⟩) (b-1) cap)):=λi hi=>.inl hi
 clear hr3 ht3 ht3' hld hst3 hk3
 refine wpN_seq (of_wp ?_)
 go_wp2_with (first|(refine wpList_load_mid (op:={dst:=some 33,op:=.load 47 (.tmp 7),type:=_,pos:=_,after:=_,guard:=none}) rfl 47 (.tmp 7) rfl (W.heap.size+1) 0 rfl mc _ ?hr1 Tryz.underlying47 rfl hiM' ?_;case hr1=>exact hr3H.out)|(refine wpList_store_mid (op:={dst:=none,op:=.store 47 (.tmp 4) (.tmp 33),type:=_,pos:=_,after:=_,guard:=none}) rfl 47 (.tmp 4) (.tmp 33) rfl W.heap.size 0 mc.toArray rfl rfl ?ht hiM' hmo' ?_;case ht=>exact ht3H.out))
 refine of_wp ?_
 go_wp2
 exact bodyPost_ret (v:=.tuple #[.agg mc.toArray,.int .i64 0]) (results_end rfl rfl rfl hldH.out) rfl ⟨rfl,_,hst4.out,hfr.out,hk4.out⟩
end Go.Rm
set_option linter.unusedVariables false
set_option linter.unusedSimpArgs false
noncomputable section
namespace Go.Rm
open Go Go.Conc Go.Proofs Go.RowKit Go.Kn Go.Ry
set_option maxHeartbeats 2000000 in
set_option maxRecDepth 100000 in
theorem drop_ok {G:Geo} {W:World} {b:Nat} {bv:Value} {xs:List Value} (h:Bst G W b bv xs) (k:Nat) (hk:k<b) (hb:b≤1000):
 Calls Tryz.prog 33 #[.pointer (some ⟨G.B,G.oB,none⟩),.int .i64 k] W λe w'=>e=.returned (.int .i64 0)∧∃bv',Bst G w' (b-1) bv' (xs.take (k*20)++xs.drop ((k+1)*20))∧Fresh W bv bv'∧Keep (λi=>i=G.B∨bv.ownBlock=some i) W w':=by
 have ht:=take_ok h k hk hb
 have hxl:xs.length=b*20:=h.row.1
 obtain⟨mc,hmc⟩:∃mc,mc=(xs.drop (k*20)).take 20:=⟨_,rfl⟩
 have hml:mc.length=20:=by rw[hmc,List.length_take,List.length_drop];omega
 have hmo:∀u∈mc,u.oneCell'=true:=λu hu=>h.one u (List.mem_of_mem_drop (List.mem_of_mem_take (hmc▸hu)))
 have hmo':mc.toArray.all (·.oneCell')=true:=Array.all_eq_true_iff_forall_mem.2 λu hu=>hmo u (by simpa using hu)
 have hms:mc.toArray.size=20:=by rw[List.size_toArray];exact hml
 have hiM':(Tryz.prog.info? 47).map (·.size)=some mc.length:=by rw[hml];kernel_rfl
 rw[←hmc]at ht
 clear hmc hmo
 have hth:Hid (∀V:World,(V.alloc (.cells zM.toArray 47)).there V.heap.size 0 mc.toArray.size):=λV=>by rw[hms];exact zeroM_there V
 go_enter Tryz.func33,Tryz.ntmps33
 go_wp2_with (first|(go_at_call 70;refine ht.mono ?_;rintro e V ⟨rfl,bv',hst,hfr,hkp⟩;replace hst:Hid _:=hst;replace hfr:Hid _:=hfr;replace hkp:Hid _:=hkp)|(refine wpList_store_mid (op:={dst:=none,op:=.store 47 (.tmp 5) (.tmp 11),type:=_,pos:=_,after:=_,guard:=none}) rfl 47 (.tmp 5) (.tmp 11) rfl V.heap.size 0 mc.toArray rfl rfl ?ht hiM' hmo' ?_;case ht=>exact hth.out V))
 go_ret
 have hlt:=hst.out.le
 have hkV:Keep (λi=>V.heap.size≤i) V ((V.alloc (.cells zM.toArray 47)).setCells V.heap.size 0 mc):=(Keep.alloc V _).trans (Keep.setCells (Nat.le_refl V.heap.size) mc 0 _)
 have hBV:G.B<V.heap.size:=World.block_lt_of_cell? _ _ hst.out.cell
 refine⟨rfl,bv',hst.out.keep hkV (by omega) (λi hi=>by have:=(World.ownsRow.lt hst.out.row i hi).2;omega),hfr.out,hkp.out.trans (hkV.mono λi hi h=>absurd hi (by omega))⟩
theorem msg_cells (V:World) (mc:List Value) (hm:mc.length=20):∀(j:Nat) (u:Value),mc[j]?=some u→(V.alloc (.cells (List.foldl (λ(cs:Array Value) (p:Value×Nat)=>cs.setIfInBounds p.snd p.fst) zM.toArray mc.zipIdx) 47)).cell? ((⟨V.heap.size,0,none⟩:Addr).add j)=some u:=by
 intro j u h
 rw[laid _ _ (by rw[hm];rfl),Addr.add_mid,Nat.zero_add,World.cell?_alloc_at (w:=V) _ _ _ _ rfl,List.getElem?_toArray]
 exact h
structure AllF (W:World) (N:Nat) (mc:List Value) (v:Value) (i:Nat) (xs:List Value) (V1:World):Prop where
 below:Below W.heap.size W V1
 size:N<V1.heap.size
 range:V1.rangeAt N 0 mc
 own:V1.ownsRow W.heap.size 47 20 v i xs
def at13 (a:Act):Nat:=match a.tmps[13]? with|some (Value.int _ k)=>k.toNat|_=>0
set_option maxHeartbeats 2000000 in
set_option maxRecDepth 100000 in
theorem all_ok {G:Geo} {W:World} {b:Nat} {bv:Value} {xs:List Value} (h:Bst G W b bv xs) (hb:b≤1000)
 (hcl:∀i V,i<b→Below W.heap.size W V→Calls Tryz.prog 40 #[.agg ((xs.drop (i*20)).take 20).toArray] V λe w'=>e=.returned (.agg ((xs.drop (i*20)).take 20).toArray)∧Below V.heap.size V w'):
 Calls Tryz.prog 44 #[.pointer (some ⟨G.B,G.oB,none⟩)] W λe w'=>∃v,e=.returned v∧w'.ownsRow W.heap.size 47 20 v b xs∧Below W.heap.size W w':=by
 have hxl:xs.length=b*20:=h.row.1
 have hc:=h.cell
 obtain⟨ao,bc,hbv⟩:=row_val h.row
 have hBl:G.B<W.heap.size:=World.block_lt_of_cell? _ _ hc
 have hinfoM:(Tryz.prog.info? 47).map (λi=>(i.zero,i.size,i.bytes))=some (some (.agg zM.toArray),20,216):=by kernel_rfl
 obtain⟨iM,hjM,hzM,hsM,hbM⟩:=info_parts hinfoM
 have hrow:Hid _:=h.row
 have hone:Hid _:=h.one
 have hle:=h.le
 subst hbv
 clear h
 refine calls_of_wpN Tryz.func44 rfl ?_
 simp only[Tryz.ntmps44,List.size_toArray,List.length_cons,List.length_nil,Nat.reduceAdd,Nat.reduceSub,Array.replicate_succ,
  Array.replicate_zero,List.push_toArray,List.append_toArray,List.nil_append,List.cons_append]
 refine wpN_seq (of_wp ?_)
 go_wp2
 refine wpN_seq (of_wp ?_)
 go_wp2
 refine wpN_seq ?_
 refine wpN_seq (of_wp ?_)
 go_wp2
 refine of_wp ?_
 go_wp2
 refine wpN_seq ?_
 refine wpN_seq (of_wp ?_)
 go_wp2
 refine wpN_block (wpN_loop (λa V=>∃(i:Nat) (v u1 u5 u14 u15 u16 u17 u18 u19 u20 u21 u22 u23:Value),i≤b∧Below W.heap.size W V∧V.ownsRow W.heap.size 47 20 v i (xs.take (i*20))∧a=⟨#[.pointer (some ⟨G.B,G.oB,none⟩),u1,.slice none 0 0,v,undef,u5,.pointer (some ⟨G.B,G.oB,none⟩),.bool false,.pointer (some ⟨G.B,G.oB,none⟩),.pointer (some ⟨G.B,G.oB,none⟩),.pointer (some ⟨G.B,G.oB,none⟩),.slice ao b bc,.int .i64 (b:Nat),.int .i64 (i:Nat),u14,u15,u16,u17,u18,u19,u20,u21,u22,u23],[]⟩) (λa _=>2000-at13 a) ?_ ?_)
 ·exact⟨0,_,_,_,_,_,_,_,_,_,_,_,_,_,Nat.zero_le _,Below.refl _ _,World.ownsRow_nil _ _ _ _,rfl⟩
 ·rintro a V ⟨i,v,u1,u5,u14,u15,u16,u17,u18,u19,u20,u21,u22,u23,hi,hV,hown,rfl⟩
  rcases Nat.lt_or_ge i b with hlt|hge
  ·obtain⟨g,cap,hsl,hg,hbg,hcells⟩:=row_some hrow.out (by omega)
   cases hsl
   obtain⟨mc,hmc⟩:∃mc,mc=(xs.drop (i*20)).take 20:=⟨_,rfl⟩
   have hml:mc.length=20:=by rw[hmc,List.length_take,List.length_drop];omega
   have hmo:∀u∈mc,u.oneCell'=true:=λu hu=>hone.out u (List.mem_of_mem_drop (List.mem_of_mem_take (hmc▸hu)))
   have hmo':mc.toArray.all (·.oneCell')=true:=Array.all_eq_true_iff_forall_mem.2 λu hu=>hmo u (by simpa using hu)
   have hms:mc.toArray.size=20:=by rw[List.size_toArray];exact hml
   have hiM':(Tryz.prog.info? 47).map (·.size)=some mc.length:=by rw[hml];kernel_rfl
   have hmg:Hid (∀V,Below W.heap.size W V→V.rangeAt g (i*20) mc):=λV hV j v hv=>by
    rw[hmc,List.getElem?_take]at hv
    split at hv
    ·rw[List.getElem?_drop]at hv
     exact(hV.cell hg).trans (hcells _ _ hv)
    ·cases hv
   have hnext:Hid (xs.take ((i+1)*20)=xs.take (i*20)++mc):=by
    rw[hmc,Nat.succ_mul,List.take_add]
    exact rfl
   have hcli:Hid _:=λV hV=>hcl i V hlt hV
   rw[←hmc]at hcli
   have hmoH:Hid _:=hmo
   have hib:(i:Int)<(b:Int):=by omega
   have hi0:(0:Int)≤(i:Int):=by omega
   clear hmc hmo hcells hcl
   have hVsz:=hV.size
   have hF:AllF W V.heap.size mc v i (xs.take (i*20)) ((V.alloc (.cells zM.toArray 47)).setCells V.heap.size 0 mc):=by
    have hb1:Below W.heap.size W (V.alloc (.cells zM.toArray 47)):=hV.alloc hV.size _
    have hth:(V.alloc (.cells zM.toArray 47)).there V.heap.size 0 mc.toArray.size:=by rw[hms];exact zeroM_there V
    have hkk:Keep (λk=>V.heap.size≤k) V ((V.alloc (.cells zM.toArray 47)).setCells V.heap.size 0 mc):=(Keep.alloc V _).trans (Keep.setCells (Nat.le_refl V.heap.size) mc 0 _)
    exact⟨setCells_below (Below.refl _ _) V.heap.size hV.size mc 0 _ hb1,by rw[size_setCells',World.size_alloc];omega,World.rangeAt_setCells_same _ _ _ _ (by rw[←List.size_toArray];exact hth),hkk.row hown λk hk=>by have:=(hown.lt k hk).2;omega⟩
   have hth1:Hid ((V.alloc (.cells zM.toArray 47)).there V.heap.size 0 mc.toArray.size):=by
    have:(V.alloc (.cells zM.toArray 47)).there V.heap.size 0 mc.toArray.size:=by rw[hms];exact zeroM_there V
    exact this
   have hmg1:Hid (V.rangeAt g (i*20) mc):=hmg.out V hV
   have hownH:Hid _:=hown
   clear hown
   refine wpN_seq (of_wp ?_)
   go_wp2
   refine wpN_seq (of_wp ?_)
   go_wp2
   refine wpN_seq (wpN_block ?_)
   refine wpN_seq (of_wp ?_)
   go_wp2_with (first|(refine wpList_load_mid (op:={dst:=some 16,op:=.load 47 (.tmp 15),type:=_,pos:=_,after:=_,guard:=none}) rfl 47 (.tmp 15) rfl g (i*20) rfl mc _ ?hr1 Tryz.underlying47 rfl hiM' ?_;case hr1=>exact hmg1.out)|(refine wpList_store_mid (op:={dst:=none,op:=.store 47 (.tmp 5) (.tmp 16),type:=_,pos:=_,after:=_,guard:=none}) rfl 47 (.tmp 5) (.tmp 16) rfl V.heap.size 0 mc.toArray rfl rfl ?ht hiM' hmo' ?_;case ht=>exact hth1.out))
   have hN:∃N,V.heap.size=N:=⟨_,rfl⟩
   obtain⟨N,hN⟩:=hN
   rw[hN]at hF hVsz⊢
   refine(λ(h:∀V1,AllF W N mc v i (xs.take (i*20)) V1→WpN Tryz.prog _ _ _ V1)=>h _ hF) ?_
   clear hF hth1 hmg1 hownH hmg hrow
   clear hN hV
   intro V1 ⟨hV1,hs1,hr1,hown1⟩
   have hr1H:Hid _:=hr1
   have hown1H:Hid _:=hown1
   have hcall:Hid _:=hcli.out V1 hV1
   have hle1:=hV1.size
   clear hr1 hown1 hcli
   refine of_wp ?_
   go_wp2_with (first|(refine wpList_load_mid (op:={dst:=some 18,op:=.load 47 (.tmp 5),type:=_,pos:=_,after:=_,guard:=none}) rfl 47 (.tmp 5) rfl N 0 rfl mc _ ?hr1 Tryz.underlying47 rfl hiM' ?_;case hr1=>exact hr1H.out)|(go_at_call 40;refine Calls.mono hcall.out ?_;rintro e V2 ⟨rfl,hb2⟩;have hb22:=hV1.trans (hb2.mono hle1);have hs2:=hb22.size;have hown2:Hid _:=(Keep.of_below (F:=λk=>V1.heap.size≤k) hb2 λk _ hk=>hk).row hown1H.out (λk hk=>by have:=(World.ownsRow.lt hown1H.out k hk).2;omega);clear hb2 hcall)|(at_builtin;go_loud (refine wpList_append_own _ rfl _ _ 52 rfl W.heap.size 47 iM (.agg zM.toArray) 20 216 Tryz.underlying52 hjM hzM hsM hbM rfl (by decide) v i (xs.take (i*20)) rfl (World.ownsRow.alloc hown2.out _) ⟨V2.heap.size,0,none⟩ 1 1 mc rfl (by rw[hml]) ?c1 ?c2 ?c3 ?c4 ?c5 ?_)))
   case c1=>exact msg_cells V2 mc hml
   case c2=>exact hmoH.out
   case c3=>unfold maxLen;omega
   case c4=>omega
   case c5=>exact Nat.le_trans hs2 (by show V2.heap.size≤(V2.heap.push _).size;rw[Array.size_push];omega)
   intro v' W6 hown' hgrow _
   have hb6:Below W.heap.size W W6:=(hb22.alloc hs2 _).grown hgrow (Nat.le_trans hs2 (by show V2.heap.size≤(V2.heap.push _).size;rw[Array.size_push];omega)) (λk hk=>(World.ownsRow.lt hown2.out k hk).1)
   have hown6:W6.ownsRow W.heap.size 47 20 v' (i+1) (xs.take ((i+1)*20)):=by rw[hnext.out];exact hown'
   clear hgrow hown' hb22 hown2 hown1H hr1H hmoH hnext hone
   go_wp2
   refine of_wp ?_
   go_wp2
   exact⟨⟨i+1,v',_,_,_,_,_,_,_,_,_,_,_,_,hlt,hb6,hown6,rfl⟩,by simp[at13];omega⟩
  ·have hie:i=b:=by omega
   subst hie
   rw[List.take_of_length_le (by omega)]at hown
   have hownH:Hid _:=hown
   clear hown hone hrow hcl
   refine wpN_seq (of_wp ?_)
   go_wp2
   refine wpN_seq (of_wp ?_)
   go_wp2
   refine wpN_seq (of_wp ?_)
   go_wp2
   refine of_wp ?_
   go_wp2
   go_ret
   exact⟨v,rfl,hownH.out,hV⟩
end Go.Rm
