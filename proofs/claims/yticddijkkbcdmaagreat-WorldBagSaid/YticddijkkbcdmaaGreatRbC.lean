/-
  The bag's Drop and All, the world's Bag: walked.
-/
import Derived.Test.YticddijkkbcdmaaGreatRmI
import Derived.Deep.RegionWith
import Derived.Deep.RegionHeld3
set_option linter.unusedVariables false
set_option linter.unusedSimpArgs false
noncomputable section
namespace Go.Rm
open Go Go.Conc Go.Proofs Go.RowKit Go.Kn Go.Ry
set_option maxHeartbeats 2000000 in
set_option maxRecDepth 100000 in
theorem drop_ok {G:Geo} {W:World} {b:Nat} {bv:Value} {xs:List Value} (h:Bst G W b bv xs) (k:Nat) (hk:k<b) (hb:b≤1000):
 Calls Tryz.prog 15 #[.pointer (some ⟨G.B,G.oB,none⟩),.int .i64 k] W λe w'=>e=.returned (.int .i64 0)∧∃bv',Bst G w' (b-1) bv' (xs.take (k*20)++xs.drop ((k+1)*20))∧Fresh W bv bv'∧Keep (λi=>i=G.B∨bv.ownBlock=some i) W w':=by
 have ht:=take_ok h k hk hb
 have hxl:xs.length=b*20:=h.row.1
 obtain⟨mc,hmc⟩:∃mc,mc=(xs.drop (k*20)).take 20:=⟨_,rfl⟩
 have hml:mc.length=20:=by rw[hmc,List.length_take,List.length_drop];omega
 have hmo:∀u∈mc,u.oneCell'=true:=λu hu=>h.one u (List.mem_of_mem_drop (List.mem_of_mem_take (hmc▸hu)))
 have hmo':mc.toArray.all (·.oneCell')=true:=Array.all_eq_true_iff_forall_mem.2 λu hu=>hmo u (by simpa using hu)
 have hms:mc.toArray.size=20:=by rw[List.size_toArray];exact hml
 have hiM':(Tryz.prog.info? 34).map (·.size)=some mc.length:=by rw[hml];kernel_rfl
 rw[←hmc]at ht
 clear hmc hmo
 have hth:Hid (∀V:World,(V.alloc (.cells zM.toArray 34)).there V.heap.size 0 mc.toArray.size):=λV=>by rw[hms];exact zeroM_there V
 go_enter Tryz.func15,Tryz.ntmps15
 go_wp2_with (first|(go_at_call 38;refine ht.mono ?_;rintro e V ⟨rfl,bv',hst,hfr,hkp⟩;replace hst:Hid _:=hst;replace hfr:Hid _:=hfr;replace hkp:Hid _:=hkp)|(refine wpList_store_mid (op:={dst:=none,op:=.store 34 (.tmp 5) (.tmp 11),type:=_,pos:=_,after:=_,guard:=none}) rfl 34 (.tmp 5) (.tmp 11) rfl V.heap.size 0 mc.toArray rfl rfl ?ht hiM' hmo' ?_;case ht=>exact hth.out V))
 go_ret
 have hlt:=hst.out.le
 have hkV:Keep (λi=>V.heap.size≤i) V ((V.alloc (.cells zM.toArray 34)).setCells V.heap.size 0 mc):=(Keep.alloc V _).trans (Keep.setCells (Nat.le_refl V.heap.size) mc 0 _)
 have hBV:G.B<V.heap.size:=World.block_lt_of_cell? _ _ hst.out.cell
 refine⟨rfl,bv',hst.out.keep hkV (by omega) (λi hi=>by have:=(World.ownsRow.lt hst.out.row i hi).2;omega),hfr.out,hkp.out.trans (hkV.mono λi hi h=>absurd hi (by omega))⟩
theorem msg_cells (V:World) (mc:List Value) (hm:mc.length=20):∀(j:Nat) (u:Value),mc[j]?=some u→(V.alloc (.cells (List.foldl (λ(cs:Array Value) (p:Value×Nat)=>cs.setIfInBounds p.snd p.fst) zM.toArray mc.zipIdx) 34)).cell? ((⟨V.heap.size,0,none⟩:Addr).add j)=some u:=by
 intro j u h
 rw[laid _ _ (by rw[hm];rfl),Addr.add_mid,Nat.zero_add,World.cell?_alloc_at (w:=V) _ _ _ _ rfl,List.getElem?_toArray]
 exact h
structure AllF (W:World) (N:Nat) (mc:List Value) (v:Value) (i:Nat) (xs:List Value) (V1:World):Prop where
 below:Below W.heap.size W V1
 size:N<V1.heap.size
 range:V1.rangeAt N 0 mc
 own:V1.ownsRow W.heap.size 34 20 v i xs
def at13 (a:Act):Nat:=match a.tmps[13]? with|some (Value.int _ k)=>k.toNat|_=>0
set_option maxHeartbeats 2000000 in
set_option maxRecDepth 100000 in
theorem all_ok {G:Geo} {W:World} {b:Nat} {bv:Value} {xs:List Value} (h:Bst G W b bv xs) (hb:b≤1000)
 (hcl:∀i V,i<b→Below W.heap.size W V→Calls Tryz.prog 22 #[.agg ((xs.drop (i*20)).take 20).toArray] V λe w'=>e=.returned (.agg ((xs.drop (i*20)).take 20).toArray)∧Below V.heap.size V w'):
 Calls Tryz.prog 25 #[.pointer (some ⟨G.B,G.oB,none⟩)] W λe w'=>∃v,e=.returned v∧w'.ownsRow W.heap.size 34 20 v b xs∧Below W.heap.size W w':=by
 have hxl:xs.length=b*20:=h.row.1
 have hc:=h.cell
 obtain⟨ao,bc,hbv⟩:=row_val h.row
 have hBl:G.B<W.heap.size:=World.block_lt_of_cell? _ _ hc
 have hinfoM:(Tryz.prog.info? 34).map (λi=>(i.zero,i.size,i.bytes))=some (some (.agg zM.toArray),20,216):=by kernel_rfl
 obtain⟨iM,hjM,hzM,hsM,hbM⟩:=info_parts hinfoM
 have hrow:Hid _:=h.row
 have hone:Hid _:=h.one
 have hle:=h.le
 subst hbv
 clear h
 refine calls_of_wpN Tryz.func25 rfl ?_
 simp only[Tryz.ntmps25,List.size_toArray,List.length_cons,List.length_nil,Nat.reduceAdd,Nat.reduceSub,Array.replicate_succ,
  Array.replicate_zero,List.push_toArray,List.append_toArray,List.nil_append,List.cons_append]
 refine wpN_seq (of_wp ?_)
 go_wp2
 refine wpN_seq (of_wp ?_)
 go_wp2
 refine wpN_seq ?_
 refine wpN_seq (of_wp ?_)
 go_wp2
 refine of_wp ?_
 go_wp2
 refine wpN_seq ?_
 refine wpN_seq (of_wp ?_)
 go_wp2
 refine wpN_block (wpN_loop (λa V=>∃(i:Nat) (v u1 u5 u14 u15 u16 u17 u18 u19 u20 u21 u22 u23:Value),i≤b∧Below W.heap.size W V∧V.ownsRow W.heap.size 34 20 v i (xs.take (i*20))∧a=⟨#[.pointer (some ⟨G.B,G.oB,none⟩),u1,.slice none 0 0,v,undef,u5,.pointer (some ⟨G.B,G.oB,none⟩),.bool false,.pointer (some ⟨G.B,G.oB,none⟩),.pointer (some ⟨G.B,G.oB,none⟩),.pointer (some ⟨G.B,G.oB,none⟩),.slice ao b bc,.int .i64 (b:Nat),.int .i64 (i:Nat),u14,u15,u16,u17,u18,u19,u20,u21,u22,u23],[]⟩) (λa _=>2000-at13 a) ?_ ?_)
 ·exact⟨0,_,_,_,_,_,_,_,_,_,_,_,_,_,Nat.zero_le _,Below.refl _ _,World.ownsRow_nil _ _ _ _,rfl⟩
 ·rintro a V ⟨i,v,u1,u5,u14,u15,u16,u17,u18,u19,u20,u21,u22,u23,hi,hV,hown,rfl⟩
  rcases Nat.lt_or_ge i b with hlt|hge
  ·obtain⟨g,cap,hsl,hg,hbg,hcells⟩:=row_some hrow.out (by omega)
   cases hsl
   obtain⟨mc,hmc⟩:∃mc,mc=(xs.drop (i*20)).take 20:=⟨_,rfl⟩
   have hml:mc.length=20:=by rw[hmc,List.length_take,List.length_drop];omega
   have hmo:∀u∈mc,u.oneCell'=true:=λu hu=>hone.out u (List.mem_of_mem_drop (List.mem_of_mem_take (hmc▸hu)))
   have hmo':mc.toArray.all (·.oneCell')=true:=Array.all_eq_true_iff_forall_mem.2 λu hu=>hmo u (by simpa using hu)
   have hms:mc.toArray.size=20:=by rw[List.size_toArray];exact hml
   have hiM':(Tryz.prog.info? 34).map (·.size)=some mc.length:=by rw[hml];kernel_rfl
   have hmg:Hid (∀V,Below W.heap.size W V→V.rangeAt g (i*20) mc):=λV hV j v hv=>by
    rw[hmc,List.getElem?_take]at hv
    split at hv
    ·rw[List.getElem?_drop]at hv
     exact(hV.cell hg).trans (hcells _ _ hv)
    ·cases hv
   have hnext:Hid (xs.take ((i+1)*20)=xs.take (i*20)++mc):=by
    rw[hmc,Nat.succ_mul,List.take_add]
    exact rfl
   have hcli:Hid _:=λV hV=>hcl i V hlt hV
   rw[←hmc]at hcli
   have hmoH:Hid _:=hmo
   have hib:(i:Int)<(b:Int):=by omega
   have hi0:(0:Int)≤(i:Int):=by omega
   clear hmc hmo hcells hcl
   have hVsz:=hV.size
   have hF:AllF W V.heap.size mc v i (xs.take (i*20)) ((V.alloc (.cells zM.toArray 34)).setCells V.heap.size 0 mc):=by
    have hb1:Below W.heap.size W (V.alloc (.cells zM.toArray 34)):=hV.alloc hV.size _
    have hth:(V.alloc (.cells zM.toArray 34)).there V.heap.size 0 mc.toArray.size:=by rw[hms];exact zeroM_there V
    have hkk:Keep (λk=>V.heap.size≤k) V ((V.alloc (.cells zM.toArray 34)).setCells V.heap.size 0 mc):=(Keep.alloc V _).trans (Keep.setCells (Nat.le_refl V.heap.size) mc 0 _)
    exact⟨setCells_below (Below.refl _ _) V.heap.size hV.size mc 0 _ hb1,by rw[size_setCells',World.size_alloc];omega,World.rangeAt_setCells_same _ _ _ _ (by rw[←List.size_toArray];exact hth),hkk.row hown λk hk=>by have:=(hown.lt k hk).2;omega⟩
   have hth1:Hid ((V.alloc (.cells zM.toArray 34)).there V.heap.size 0 mc.toArray.size):=by
    have:(V.alloc (.cells zM.toArray 34)).there V.heap.size 0 mc.toArray.size:=by rw[hms];exact zeroM_there V
    exact this
   have hmg1:Hid (V.rangeAt g (i*20) mc):=hmg.out V hV
   have hownH:Hid _:=hown
   clear hown
   refine wpN_seq (of_wp ?_)
   go_wp2
   refine wpN_seq (of_wp ?_)
   go_wp2
   refine wpN_seq (wpN_block ?_)
   refine wpN_seq (of_wp ?_)
   go_wp2_with (first|(refine wpList_load_mid (op:={dst:=some 16,op:=.load 34 (.tmp 15),type:=_,pos:=_,after:=_,guard:=none}) rfl 34 (.tmp 15) rfl g (i*20) rfl mc _ ?hr1 Tryz.underlying34 rfl hiM' ?_;case hr1=>exact hmg1.out)|(refine wpList_store_mid (op:={dst:=none,op:=.store 34 (.tmp 5) (.tmp 16),type:=_,pos:=_,after:=_,guard:=none}) rfl 34 (.tmp 5) (.tmp 16) rfl V.heap.size 0 mc.toArray rfl rfl ?ht hiM' hmo' ?_;case ht=>exact hth1.out))
   have hN:∃N,V.heap.size=N:=⟨_,rfl⟩
   obtain⟨N,hN⟩:=hN
   rw[hN]at hF hVsz⊢
   refine(λ(h:∀V1,AllF W N mc v i (xs.take (i*20)) V1→WpN Tryz.prog _ _ _ V1)=>h _ hF) ?_
   clear hF hth1 hmg1 hownH hmg hrow
   clear hN hV
   intro V1 ⟨hV1,hs1,hr1,hown1⟩
   have hr1H:Hid _:=hr1
   have hown1H:Hid _:=hown1
   have hcall:Hid _:=hcli.out V1 hV1
   have hle1:=hV1.size
   clear hr1 hown1 hcli
   refine of_wp ?_
   go_wp2_with (first|(refine wpList_load_mid (op:={dst:=some 18,op:=.load 34 (.tmp 5),type:=_,pos:=_,after:=_,guard:=none}) rfl 34 (.tmp 5) rfl N 0 rfl mc _ ?hr1 Tryz.underlying34 rfl hiM' ?_;case hr1=>exact hr1H.out)|(go_at_call 22;refine Calls.mono hcall.out ?_;rintro e V2 ⟨rfl,hb2⟩;have hb22:=hV1.trans (hb2.mono hle1);have hs2:=hb22.size;have hown2:Hid _:=(Keep.of_below (F:=λk=>V1.heap.size≤k) hb2 λk _ hk=>hk).row hown1H.out (λk hk=>by have:=(World.ownsRow.lt hown1H.out k hk).2;omega);clear hb2 hcall)|(at_builtin;go_loud (refine wpList_append_own _ rfl _ _ 37 rfl W.heap.size 34 iM (.agg zM.toArray) 20 216 Tryz.underlying37 hjM hzM hsM hbM rfl (by decide) v i (xs.take (i*20)) rfl (World.ownsRow.alloc hown2.out _) ⟨V2.heap.size,0,none⟩ 1 1 mc rfl (by rw[hml]) ?c1 ?c2 ?c3 ?c4 ?c5 ?_)))
   case c1=>exact msg_cells V2 mc hml
   case c2=>exact hmoH.out
   case c3=>unfold maxLen;omega
   case c4=>omega
   case c5=>exact Nat.le_trans hs2 (by show V2.heap.size≤(V2.heap.push _).size;rw[Array.size_push];omega)
   intro v' W6 hown' hgrow _
   have hb6:Below W.heap.size W W6:=(hb22.alloc hs2 _).grown hgrow (Nat.le_trans hs2 (by show V2.heap.size≤(V2.heap.push _).size;rw[Array.size_push];omega)) (λk hk=>(World.ownsRow.lt hown2.out k hk).1)
   have hown6:W6.ownsRow W.heap.size 34 20 v' (i+1) (xs.take ((i+1)*20)):=by rw[hnext.out];exact hown'
   clear hgrow hown' hb22 hown2 hown1H hr1H hmoH hnext hone
   go_wp2
   refine of_wp ?_
   go_wp2
   exact⟨⟨i+1,v',_,_,_,_,_,_,_,_,_,_,_,_,hlt,hb6,hown6,rfl⟩,by simp[at13];omega⟩
  ·have hie:i=b:=by omega
   subst hie
   rw[List.take_of_length_le (by omega)]at hown
   have hownH:Hid _:=hown
   clear hown hone hrow hcl
   refine wpN_seq (of_wp ?_)
   go_wp2
   refine wpN_seq (of_wp ?_)
   go_wp2
   refine wpN_seq (of_wp ?_)
   go_wp2
   refine of_wp ?_
   go_wp2
   go_ret
   exact⟨v,rfl,hownH.out,hV⟩
end Go.Rm
set_option linter.unusedVariables false
set_option linter.unusedSimpArgs false
noncomputable section
namespace Go.Rm
open Go Go.Conc Go.Proofs Go.RowKit Go.Kn Go.Ry
theorem mid_take {xs ys:List Value} {k:Nat} (h:(k+1)*20≤xs.length):((xs++ys).drop (k*20)).take 20=(xs.drop (k*20)).take 20:=by
 rw[List.drop_append_of_le_length (by omega),List.take_append_of_le_length (by rw[List.length_drop];omega)]
theorem range_of {V:World} {g k:Nat} {xs mc:List Value} (hcells:∀j u,xs[j]?=some u→V.cell? ⟨g,j,none⟩=some u) (hm:mc=(xs.drop (k*20)).take 20):V.rangeAt g (k*20) mc:=λj v hv=>by
 rw[hm,List.getElem?_take]at hv
 split at hv
 ·rw[List.getElem?_drop]at hv
  exact hcells _ _ hv
 ·cases hv
set_option maxHeartbeats 4000000 in
set_option maxRecDepth 100000 in
theorem copy_ok {G:Geo} {W:World} {b:Nat} {bv:Value} {xs:List Value} (h:Bst G W b bv xs) (k:Nat) (hk:k<b) (hb:b≤900) (mc:List Value) (hmc:mc=(xs.drop (k*20)).take 20)
 (I:World→Prop) (g0:Nat) (hI:I W) (hIk:∀V V',I V→Below g0 V V'→I V') (hgW:g0≤W.heap.size) (hgB:g0≤G.B) (hgb:g0≤G.base)
 (hcl:∀V,I V→Calls Tryz.prog 22 #[.agg mc.toArray] V λe w'=>e=.returned (.agg mc.toArray)∧Below V.heap.size V w'):
 Calls Tryz.prog 16 #[.pointer (some ⟨G.B,G.oB,none⟩),.int .i64 k] W λe w'=>e=.returned (.tuple #[.agg mc.toArray,.int .i64 0])∧∃bv',Bst G w' (b+1) bv' (xs++mc)∧Fresh W bv bv'∧Keep (λi=>i=G.B∨bv.ownBlock=some i) W w':=by
 have hxl:xs.length=b*20:=h.row.1
 have hml:mc.length=20:=by rw[hmc,List.length_take,List.length_drop];omega
 have hmo:∀u∈mc,u.oneCell'=true:=λu hu=>h.one u (List.mem_of_mem_drop (List.mem_of_mem_take (hmc▸hu)))
 have hmo':mc.toArray.all (·.oneCell')=true:=Array.all_eq_true_iff_forall_mem.2 λu hu=>hmo u (by simpa using hu)
 have hiM:(Tryz.prog.info? 34).map (·.size)=some mc.length:=by rw[hml];kernel_rfl
 have hms:mc.toArray.size=20:=by rw[List.size_toArray];exact hml
 have hBl:G.B<W.heap.size:=World.block_lt_of_cell? _ _ h.cell
 have hw0:Below W.heap.size W (W.alloc (.cells zM.toArray 34)):=Below.alloc (Below.refl _ _) (Nat.le_refl _) _
 obtain⟨W0,hW0⟩:∃W0,W.alloc (.cells zM.toArray 34)=W0:=⟨_,rfl⟩
 have hs0:W0.heap.size=W.heap.size+1:=by rw[←hW0,World.size_alloc]
 have ht0:W0.there W.heap.size 0 20:=by rw[←hW0];exact zeroM_there W
 rw[hW0]at hw0
 have hst0:Bst G W0 b bv xs:=h.keep (F:=λk=>W.heap.size≤k) (Keep.of_below hw0 λk _ hk=>hk) (by omega) (λi hi=>by have:=(h.row.lt i hi).2;omega)
 obtain⟨g,cap,rfl,hg,hbg,hcells⟩:=row_some hst0.row (by omega)
 have hmr:Hid (W0.rangeAt g (k*20) mc):=range_of hcells hmc
 have hat:Hid _:=at_ok hst0 k hk
 have hput:Hid _:=put_ok hst0 mc hml hmo (by omega) (λV hV=>hcl V (hIk W V hI ((hw0.trans (hV.mono (by omega))).mono hgW)))
 have hcB:=hst0.cell
 have hgk:∀i,(Value.slice (some ⟨g,0,none⟩) b cap).ownBlock=some i→i=g:=λi hi=>by
  have:g=i:=by simpa[Value.ownBlock]using hi
  exact this.symm
 have hgW':g<W.heap.size:=(h.row.lt g rfl).2
 have hkb:(k:Int)<(b:Int):=by omega
 have hk0:(0:Int)≤(k:Int):=by omega
 have hstH:Hid _:=hst0
 have hw0H:Hid _:=hw0
 have ht0H:Hid _:=ht0
 have hH:Hid _:=h
 have hmcH:Hid _:=hmc
 have hclH:Hid _:=hcl
 have hIH:Hid _:=hI
 have hIkH:Hid _:=hIk
 clear hst0 hw0 ht0 h hcells hmc hcl hI hIk
 refine calls_of_wpN Tryz.func16 rfl ?_
 simp only[Tryz.ntmps16,List.size_toArray,List.length_cons,List.length_nil,Nat.reduceAdd,Nat.reduceSub,Array.replicate_succ,
  Array.replicate_zero,List.push_toArray,List.append_toArray,List.nil_append,List.cons_append]
 refine wpN_seq (of_wp ?_)
 go_wp2
 refine(λ(h:∀V,V=W0→WpN Tryz.prog _ _ _ V)=>h _ hW0) ?_
 intro V hV
 subst hV
 clear hW0
 refine wpN_seq ?_
 refine wpN_seq (of_wp ?_)
 go_wp2_with (go_at_call 41;refine Calls.mono hat.out ?_;rintro e W2 ⟨rfl,hW2⟩;have h9:=hW2.symm;clear hW2;subst h9)
 refine of_wp ?_
 go_wp2
 refine wpN_seq (of_wp ?_)
 go_wp2_with (first|(refine wpList_load_mid (op:={dst:=some 21,op:=.load 34 (.tmp 20),type:=_,pos:=_,after:=_,guard:=none}) rfl 34 (.tmp 20) rfl g (k*20) rfl mc _ ?hr1 Tryz.underlying34 rfl hiM ?_;case hr1=>exact hmr.out)|(go_at_call 21;refine Calls.mono hput.out ?_;rintro e V1 ⟨rfl,bv',hst1,hf1,hk1⟩))
 obtain⟨g',cap',rfl,hg',hbg',hcells'⟩:=row_some hst1.row (by omega)
 have hmr':Hid (V1.rangeAt g' (k*20) mc):=range_of hcells' (hmcH.out.trans (mid_take (by omega)).symm)
 have hks:V.heap.size≤V1.heap.size:=hk1.size
 have hkW:Keep (λi=>i=G.B∨(Value.slice (some ⟨g,0,none⟩) b cap).ownBlock=some i∨W.heap.size≤i) W V:=Keep.of_below hw0H.out λi _ hi=>.inr (.inr hi)
 have hkW1:Hid (Keep (λi=>i=G.B∨(Value.slice (some ⟨g,0,none⟩) b cap).ownBlock=some i) W V1):=(hkW.trans (hk1.mono λi _ hi=>hi.elim .inl λh=>.inr (.inl h))).mono λi hi h=>h.elim .inl λh=>h.elim .inr λh=>absurd hi (by omega)
 have hth1:Hid (V1.there W.heap.size 0 20):=there_keep hk1 ht0H.out (by omega) (λe=>e.elim (λe=>by omega) (λe=>by have:=hgk _ e;omega))
 have hI1:I V1:=hIkH.out W V1 hIH.out (hkW1.out.below hgW (λi hi h=>h.elim (λe=>by omega) (λe=>by have:=hgk _ e;omega)))
 have hcl1:Hid _:=hclH.out V1 hI1
 have hc1:=hst1.cell
 have hst1H:Hid _:=hst1
 have hfr:Hid (Fresh W (.slice (some ⟨g,0,none⟩) b cap) (.slice (some ⟨g',0,none⟩) (b+1) cap')):=λi hi=>(hf1 i hi).elim .inl λh=>.inr (by omega)
 have hkb1:(k:Int)<((b:Int)+1):=by omega
 have hkb2:(k:Int)<((b+1:Nat):Int):=by omega
 have hf1H:Hid _:=hf1
 clear hst1 hf1 hk1 hkW hI1 hcells' hcB hat hput hmr
 refine wpN_seq (of_wp ?_)
 go_wp2_with (first|(refine wpList_load_mid (op:={dst:=some 29,op:=.load 34 (.tmp 28),type:=_,pos:=_,after:=_,guard:=none}) rfl 34 (.tmp 28) rfl g' (k*20) rfl mc _ ?hr1 Tryz.underlying34 rfl hiM ?_;case hr1=>exact hmr'.out)|(go_at_call 22;refine Calls.mono hcl1.out ?_;rintro e V3 ⟨rfl,hb3⟩;have ht3:Hid (V3.there W.heap.size 0 mc.toArray.size):=(by rw[hms];exact there_keep (Keep.of_below (F:=λi=>V1.heap.size≤i) hb3 λi _ hi=>hi) hth1.out (by omega) (by omega)))|(refine wpList_store_mid (op:={dst:=none,op:=.store 34 (.tmp 4) (.tmp 30),type:=_,pos:=_,after:=_,guard:=none}) rfl 34 (.tmp 4) (.tmp 30) rfl W.heap.size 0 mc.toArray rfl rfl ?ht hiM hmo' ?_;case ht=>exact ht3.out))
 have hld:Hid _:=run_loadVar_mid (P:=Tryz.prog) (V3.setCells W.heap.size 0 mc) W.heap.size 0 34 mc _ (World.rangeAt_setCells_same V3 W.heap.size 0 mc (by rw[←List.size_toArray];exact ht3.out)) Tryz.underlying34 rfl hiM
 have hk3:Keep (λi=>i=W.heap.size∨V1.heap.size≤i) V1 (V3.setCells W.heap.size 0 mc):=(Keep.of_below hb3 λi _ hi=>.inr hi).trans (Keep.setCells (F:=λi=>i=W.heap.size∨V1.heap.size≤i) (b:=W.heap.size) (.inl rfl) mc 0 V3)
 have hst4:Hid _:=hst1H.out.keep hk3 (λe=>by omega) (λi hi h=>by
  have e1:=hst1H.out.row.lt i hi
  rcases hf1H.out i hi with e2|e2
  ·have:=hgk _ e2;omega
  ·omega)
 have hk4:Hid (Keep (λi=>i=G.B∨(Value.slice (some ⟨g,0,none⟩) b cap).ownBlock=some i) W (V3.setCells W.heap.size 0 mc)):=
  ((hkW1.out.mono (G:=λi=>i=G.B∨(Value.slice (some ⟨g,0,none⟩) b cap).ownBlock=some i∨W.heap.size≤i) λi _ h=>h.elim .inl λh=>.inr (.inl h)).trans (hk3.mono λi _ h=>.inr (.inr (h.elim (λe=>by omega) λe=>by omega)))).mono λi hi h=>h.elim .inl λh=>h.elim .inr λh=>absurd hi (by omega)
 refine of_wp ?_
 go_wp2
 exact bodyPost_ret (v:=.tuple #[.agg mc.toArray,.int .i64 0]) (results_end rfl rfl rfl hld.out) rfl ⟨rfl,_,hst4.out,hfr.out,hk4.out⟩
end Go.Rm
set_option linter.unusedVariables false
set_option linter.unusedSimpArgs false
noncomputable section
namespace Go.Rm
open Go Go.Conc Go.Proofs Go.RowKit Go.Kn Go.Ry
section
variable {G:Geo} {W:World} {b:Nat} {bv:Value} {xs:List Value} {sv:Value} {ns:Nat} {ss:List Value} {t:Int}
theorem Wst.nodes (h:Wst G W b bv xs sv ns ss t):W.cell? ⟨G.A,G.oA,none⟩=some G.nd:=by
 obtain⟨C,h1,_,h2,_⟩:=h.blk
 rw[cell_blk h1];exact h2
theorem Wst.bagp (h:Wst G W b bv xs sv ns ss t):W.cell? ⟨G.A,G.oA+2,none⟩=some (.pointer (some ⟨G.B,G.oB,none⟩)):=by
 obtain⟨C,h1,_,_,_,h2,_⟩:=h.blk
 rw[cell_blk h1];exact h2
theorem Wst.sentc (h:Wst G W b bv xs sv ns ss t):W.cell? ⟨G.A,G.oA+4,none⟩=some sv:=by
 obtain⟨C,h1,_,_,_,_,_,h2,_⟩:=h.blk
 rw[cell_blk h1];exact h2
theorem Wst.timec (h:Wst G W b bv xs sv ns ss t):W.cell? ⟨G.A,G.oA+5,none⟩=some (.int .i64 t):=by
 obtain⟨C,h1,_,_,_,_,_,_,h2⟩:=h.blk
 rw[cell_blk h1];exact h2
theorem Wst.lt' (h:Wst G W b bv xs sv ns ss t):G.A<W.heap.size:=World.block_lt_of_cell? _ _ h.nodes
theorem Wst.keep {W':World} {F:Nat→Prop} (h:Wst G W b bv xs sv ns ss t) (hk:Keep F W W') (hA:¬F G.A) (hB:¬F G.B) (hb:∀k,bv.ownBlock=some k→¬F k) (hs:∀k,sv.ownBlock=some k→¬F k):Wst G W' b bv xs sv ns ss t:=by
 obtain⟨C,h1,h2⟩:=h.blk
 exact⟨h.bag.keep hk hB hb,⟨C,hk.blk h1 hA,h2⟩,h.thaw,h.lt,h.ne,hk.row h.sent hs,h.apart⟩
theorem Wst.keep_new {W':World} (h:Wst G W b bv xs sv ns ss t) (hk:Below W.heap.size W W'):Wst G W' b bv xs sv ns ss t:=
 h.keep (F:=λk=>W.heap.size≤k) (Keep.of_below hk λk _ hk=>hk) (by have:=h.lt';omega) (by have:=World.block_lt_of_cell? _ _ h.bag.cell;have e:(⟨G.B,G.oB,none⟩:Addr).block=G.B:=rfl;omega) (λk hk=>by have:=(h.bag.row.lt k hk).2;omega) (λk hk=>by have:=(h.sent.lt k hk).2;omega)
end
end Go.Rm
set_option linter.unusedVariables false
set_option linter.unusedSimpArgs false
noncomputable section
namespace Go.Rm
open Go Go.Conc Go.Proofs Go.RowKit Go.Kn Go.Ry
section
variable {G:Geo} {W:World} {b:Nat} {bv:Value} {xs:List Value} {sv:Value} {ns:Nat} {ss:List Value} {t:Int}
end
end Go.Rm
set_option linter.unusedVariables false
set_option linter.unusedSimpArgs false
noncomputable section
namespace Go.Rm
open Go Go.Conc Go.Proofs Go.RowKit Go.Kn Go.Ry
theorem oneFresh {W:World} {v:Value}:Fresh W v v:=λ_ h=>.inl h
section
variable {G:Geo} {W:World} {b:Nat} {bv:Value} {xs:List Value} {sv:Value} {ns:Nat} {ss:List Value} {t:Int}
theorem Wst.sentf (h:Wst G W b bv xs sv ns ss t) (i:Nat) (hi:i<6):W.frozen? ⟨G.A,G.oA+i,none⟩=false:=by
 obtain⟨C,h1,_⟩:=h.blk
 exact frozen_thaw h1 (h.thaw i hi)
theorem Wst.tick (h:Wst G W b bv xs sv ns ss t) (t':Int):Wst G (W.setCell ⟨G.A,G.oA+5,none⟩ (.int .i64 t')) b bv xs sv ns ss t':=by
 obtain⟨C,h1,h2,h3,h4,h5,h6,h7,h8⟩:=h.blk
 have hlt:G.oA+5<C.size:=(Array.getElem?_eq_some_iff.1 h8).1
 have hk:Keep (λk=>k=G.A) W (W.setCell ⟨G.A,G.oA+5,none⟩ (.int .i64 t')):=Keep.setCell _ _ _ rfl
 refine⟨h.bag.keep hk (λe=>h.ne e.symm) (λk hk e=>by have:=(h.bag.row.lt k hk).1;have:=h.lt;omega),⟨_,blk_setCell h1 _ _,by simp[h2],?_,?_,?_,?_,?_,by simp[hlt]⟩,h.thaw,h.lt,h.ne,ownsRow_setCell_below h.sent h.lt _,h.apart⟩
 all_goals rw[Array.getElem?_setIfInBounds_ne (by omega)];assumption
theorem Wst.rebag {V:World} {b':Nat} {bv':Value} {xs':List Value} (h:Wst G W b bv xs sv ns ss t) (hb:Bst G V b' bv' xs') (hf:Fresh W bv bv') (hk:Keep (λk=>k=G.B∨bv.ownBlock=some k) W V):Wst G V b' bv' xs' sv ns ss t:=by
 obtain⟨C,h1,h2⟩:=h.blk
 refine⟨hb,⟨C,hk.blk h1 (λe=>e.elim h.ne λe=>by have:=(h.bag.row.lt _ e).1;have:=h.lt;omega),h2⟩,h.thaw,h.lt,h.ne,hk.row h.sent λk hs e=>?_,λk hb' hs=>?_⟩
 ·rcases e with e|e
  ·have:=(h.sent.lt k hs).1;have:=h.bag.lt;omega
  ·exact h.apart k e hs
 ·rcases hf k hb' with e|e
  ·exact h.apart k e hs
  ·have:=(h.sent.lt k hs).2;omega
theorem Wst.resent {V:World} {ns':Nat} {sv':Value} {ss':List Value} (h:Wst G W b bv xs sv ns ss t) (hg:W.grownBy V sv.ownBlock) (hr:V.ownsRow G.base 67 21 sv' ns' ss') (hf:Fresh W sv sv'):
 V.cell? ⟨G.A,G.oA+4,none⟩=some sv∧V.frozen? ⟨G.A,G.oA+4,none⟩=false∧Wst G (V.setCell ⟨G.A,G.oA+4,none⟩ sv') b bv xs sv' ns' ss' t:=by
 obtain⟨C,h1,h2,h3,h4,h5,h6,h7,h8⟩:=h.blk
 have hk:Keep (λk=>sv.ownBlock=some k) W V:=Keep.grown hg λk e=>e
 have hA:¬sv.ownBlock=some G.A:=λe=>by have:=(h.sent.lt _ e).1;have:=h.lt;omega
 have hB:¬sv.ownBlock=some G.B:=λe=>by have:=(h.sent.lt _ e).1;have:=h.bag.lt;omega
 have hVA:=hk.blk h1 hA
 have hlt:G.oA+4<C.size:=(Array.getElem?_eq_some_iff.1 h7).1
 have hbag:Bst G V b bv xs:=h.bag.keep hk hB (λk e e'=>h.apart k e e')
 have hk2:Keep (λk=>k=G.A) V (V.setCell ⟨G.A,G.oA+4,none⟩ sv'):=Keep.setCell _ _ _ rfl
 refine⟨by rw[cell_blk hVA];exact h7,frozen_thaw hVA (h.thaw 4 (by omega)),hbag.keep hk2 (λe=>h.ne e.symm) (λk hk e=>by have:=(h.bag.row.lt k hk).1;have:=h.lt;omega),⟨_,blk_setCell hVA _ _,by simp[h2],?_,?_,?_,?_,by simp[hlt],?_⟩,h.thaw,h.lt,h.ne,ownsRow_setCell_below hr h.lt _,λk e e'=>?_⟩
 all_goals first|(rw[Array.getElem?_setIfInBounds_ne (by omega)];assumption)|skip
 rcases hf k e' with e2|e2
 ·exact h.apart k e e2
 ·have:=(h.bag.row.lt k e).2;omega
structure DoF (G:Geo) (W:World) (b:Nat) (bv:Value) (xs:List Value) (sv:Value) (ns:Nat) (ss:List Value) (t:Int) (u0 u1:Value) (V:World):Prop where
 below:Below W.heap.size W V
 st:Wst G V b bv xs sv ns ss t
 size:W.heap.size<V.heap.size
 k0:V.cell? ⟨W.heap.size,0,none⟩=some u0
 k1:V.cell? ⟨W.heap.size,1,none⟩=some u1
structure DoG (G:Geo) (W:World) (b:Nat) (bv:Value) (xs:List Value) (sv:Value) (ns:Nat) (ss:List Value) (t:Int) (u0 u1:Value) (V:World):Prop where
 keep:Keep (λk=>k=G.A) W V
 st:Wst G V b bv xs sv ns ss t
 size:W.heap.size<V.heap.size
 k0:V.cell? ⟨W.heap.size,0,none⟩=some u0
 k1:V.cell? ⟨W.heap.size,1,none⟩=some u1
theorem DoF.tick {u0 u1:Value} {V:World} (h:DoF G W b bv xs sv ns ss t u0 u1 V) (hA:G.A<W.heap.size):DoG G W b bv xs sv ns ss (t+1) u0 u1 (V.setCell ⟨G.A,G.oA+5,none⟩ (.int .i64 (t+1))):=by
 have hk:Keep (λk=>k=G.A) V (V.setCell ⟨G.A,G.oA+5,none⟩ (.int .i64 (t+1))):=Keep.setCell _ _ _ rfl
 have hne:¬W.heap.size=G.A:=by omega
 exact⟨((Keep.of_below (F:=λk=>k=G.A∨W.heap.size≤k) h.below λk _ hk=>.inr hk).trans (hk.mono λk _ e=>.inl e)).mono λk hk e=>e.elim id λe=>absurd hk (by omega),h.st.tick (t+1),by simpa using h.size,hk.cell h.k0 hne,hk.cell h.k1 hne⟩
end
end Go.Rm
set_option linter.unusedVariables false
set_option linter.unusedSimpArgs false
noncomputable section
namespace Go.Rm
open Go Go.Conc Go.Proofs Go.RowKit Go.Kn Go.Ry
def at8 (a:Act):Nat:=match a.tmps[8]? with|some (Value.int _ k)=>k.toNat|_=>0
section
variable {G:Geo} {W:World} {b:Nat} {bv:Value} {xs:List Value} {sv:Value} {ns:Nat} {ss:List Value} {t:Int}
structure PutF (G:Geo) (W:World) (b:Nat) (bv:Value) (xs:List Value) (sv:Value) (ns:Nat) (ss:List Value) (t:Int) (N:Nat) (mc:List Value) (V:World):Prop where
 below:Below N W V
 st:Wst G V b bv xs sv ns ss t
 range:V.rangeAt N 0 mc
structure PutR (G:Geo) (W:World) (b:Nat) (bv:Value) (xs:List Value) (sv:Value) (ns:Nat) (ss:List Value) (t:Int) (mc:List Value) (V:World):Prop where
 res:∃bv',Wst G V (b+1) bv' (xs++mc) sv ns ss t∧Fresh W bv bv'∧Keep (λk=>k=G.B∨bv.ownBlock=some k) W V
set_option maxHeartbeats 4000000 in
set_option maxRecDepth 100000 in
theorem put1_ok (h:Wst G W b bv xs sv ns ss t) (mc:List Value) (hml:mc.length=20) (hmo:∀u∈mc,u.oneCell'=true) (hb:b≤900) (g o c:Nat) (hr:W.rangeAt g o mc)
 (I:World→Prop) (g0:Nat) (hI:I W) (hIk:∀V V',I V→Below g0 V V'→I V') (hgW:g0≤W.heap.size)
 (hcl:∀V,I V→Calls Tryz.prog 22 #[.agg mc.toArray] V λe w'=>e=.returned (.agg mc.toArray)∧Below V.heap.size V w'):
 Calls Tryz.prog 17 #[.pointer (some ⟨G.A,G.oA,none⟩),.slice (some ⟨g,o,none⟩) 1 c] W λe w'=>e=.returned (.tuple #[])∧PutR G W b bv xs sv ns ss t mc w':=by
 have mixed:Tryz.prog.follows .mixedOrders=true:=by kernel_rfl
 have hmo':mc.toArray.all (·.oneCell')=true:=Array.all_eq_true_iff_forall_mem.2 λu hu=>hmo u (by simpa using hu)
 have hiM:(Tryz.prog.info? 34).map (·.size)=some mc.length:=by rw[hml];kernel_rfl
 have hms:mc.toArray.size=20:=by rw[List.size_toArray];exact hml
 have hth:(W.alloc (.cells zM.toArray 34)).there W.heap.size 0 mc.toArray.size:=by rw[hms];exact zeroM_there W
 have hthH:Hid _:=hth
 have hF:PutF G W b bv xs sv ns ss t W.heap.size mc ((W.alloc (.cells zM.toArray 34)).setCells W.heap.size 0 mc):=by
  have hbb:Below W.heap.size W ((W.alloc (.cells zM.toArray 34)).setCells W.heap.size 0 mc):=setCells_below (Below.refl _ _) W.heap.size (Nat.le_refl _) mc 0 _ ((Below.refl _ _).alloc (Nat.le_refl _) _)
  exact⟨hbb,h.keep_new hbb,World.rangeAt_setCells_same _ _ _ _ (by rw[←List.size_toArray];exact hth)⟩
 have hFH:Hid _:=hF
 have hrH:Hid _:=hr
 have hH:Hid _:=h
 have hA:=h.lt'
 clear hth hF hr
 refine calls_of_wpN Tryz.func17 rfl ?_
 simp only[Tryz.ntmps17,List.size_toArray,List.length_cons,List.length_nil,Nat.reduceAdd,Nat.reduceSub,Array.replicate_succ,
  Array.replicate_zero,List.push_toArray,List.append_toArray,List.nil_append,List.cons_append]
 refine wpN_seq (of_wp ?_)
 go_wp2
 refine wpN_block (wpN_loop (λa V=>∃(i:Nat) (u2 u3 u4 u5 u9 u10 u11 u12 u13 u14 u15 u16 u17 u18:Value),(i=0∧V=W∨i=1∧PutR G W b bv xs sv ns ss t mc V)∧a=⟨#[.pointer (some ⟨G.A,G.oA,none⟩),.slice (some ⟨g,o,none⟩) 1 c,u2,u3,u4,u5,.slice (some ⟨g,o,none⟩) 1 c,.int .i64 1,.int .i64 (i:Nat),u9,u10,u11,u12,u13,u14,u15,u16,u17,u18],[]⟩) (λa _=>10-at8 a) ?_ ?_)
 ·exact⟨0,_,_,_,_,_,_,_,_,_,_,_,_,_,_,.inl ⟨rfl,rfl⟩,rfl⟩
 ·rintro a V ⟨i,u2,u3,u4,u5,u9,u10,u11,u12,u13,u14,u15,u16,u17,u18,hi,rfl⟩
  rcases hi with⟨rfl,rfl⟩|⟨rfl,hR⟩
  ·refine wpN_seq (of_wp ?_)
   go_wp2
   refine wpN_seq (of_wp ?_)
   go_wp2
   refine wpN_seq (wpN_block ?_)
   refine wpN_seq (of_wp ?_)
   go_wp2_with (first|(refine wpList_load_mid (op:={dst:=some 11,op:=.load 34 (.tmp 10),type:=_,pos:=_,after:=_,guard:=none}) rfl 34 (.tmp 10) rfl g o rfl mc _ ?hr1 Tryz.underlying34 rfl hiM ?_;case hr1=>exact hrH.out)|(refine wpList_store_mid (op:={dst:=none,op:=.store 34 (.tmp 5) (.tmp 11),type:=_,pos:=_,after:=_,guard:=none}) rfl 34 (.tmp 5) (.tmp 11) rfl V.heap.size 0 mc.toArray rfl rfl ?ht hiM hmo' ?_;case ht=>exact hthH.out))
   refine(λ(h:∀V1,PutF G V b bv xs sv ns ss t V.heap.size mc V1→WpN Tryz.prog _ _ _ V1)=>h _ hFH.out) ?_
   obtain⟨N,hN⟩:∃N,V.heap.size=N:=⟨_,rfl⟩
   clear hFH hthH hrH
   rw[hN]
   intro V1 hF
   have hbp:=hF.st.bagp
   have hst1:Hid _:=hF.st
   have hbl:Hid _:=hF.below
   have hrg:Hid _:=hF.range
   have hN1:N≤V1.heap.size:=by have:=hF.below.size;omega
   have hI1:I V1.drew:=hIk V _ hI ((hF.below.mono (by omega)).drew)
   have hput:Hid _:=put_ok (hF.st.bag.keep (F:=λ_=>False) (Keep.drew V1) (λh=>h) (λ_ _ h=>h)) mc hml hmo (by omega) (λV' hV'=>hcl V' (hIk _ _ hI1 (hV'.mono (by show g0≤V1.heap.size;omega))))
   clear hF hI1
   refine of_wp ?_
   refine wp_region_noPanic (wp_region_steps 5 [(0,true),(1,true),(2,true),(3,true),(4,true)] (λV=>V.cell? ⟨G.A,G.oA+2,none⟩=some (.pointer (some ⟨G.B,G.oB,none⟩))∧V.rangeAt N 0 mc) mixed (by kernel_rfl) (λ_ _ _ _ h=>h.elim) ⟨hbp,hrg.out⟩ ?_)
   refine step_take2 (v:=?v0) (a':=?a0) rfl (y_runG (by first|rfl|simp[Region.wanted,yielded,Act.put,Act.eval]) λw hS=>?p0) ?h0 ?_
   case p0=>obtain⟨hs1,hs2⟩:=hS;clear hs2;go_simp;try exact rfl
   case h0=>go_simp;exact rfl
   refine step_take2 (v:=?v1) (a':=?a1) rfl (y_runG (by first|rfl|simp[Region.wanted,yielded,Act.put,Act.eval]) λw hS=>?p1) ?h1 ?_
   case p1=>obtain⟨hs1,hs2⟩:=hS;clear hs2;go_simp;try exact rfl
   case h1=>go_simp;exact rfl
   refine step_take2 (v:=?v2) (a':=?a2) rfl (y_runG (by first|rfl|simp[Region.wanted,yielded,Act.put,Act.eval]) λw hS=>?p2) ?h2 ?_
   case p2=>obtain⟨hs1,hs2⟩:=hS;clear hs2;go_simp;try exact rfl
   case h2=>go_simp;exact rfl
   refine step_take2 (v:=?v3) (a':=?a3) rfl (y_runG (by first|rfl|simp[Region.wanted,yielded,Act.put,Act.eval]) λw hS=>?p3) ?h3 ?_
   case p3=>obtain⟨hs1,hs2⟩:=hS;clear hs2;go_simp;try exact rfl
   case h3=>go_simp;exact rfl
   refine step_take2 (v:=.agg mc.toArray) (a':=?a4) rfl (y_runG rfl λw hS=>y_load_mid rfl rfl (cs:=mc) (b:=N) (o:=0) hS.2 Tryz.underlying34 rfl hiM) ?h4 ?_
   case h4=>go_simp;exact rfl
   refine step_nil ?_
   simp only[List.drop_succ_cons,List.drop_zero]
   go_wp2_with (go_at_call 21;refine Calls.mono hput.out ?_;rintro e V4 ⟨rfl,bv',hst4,hfr4,hk4⟩;replace hst4:Hid _:=hst4;replace hfr4:Hid _:=hfr4;replace hk4:Hid _:=hk4)
   refine NoPanic.normal ?_
   have hres:Wst G V4 (b+1) bv' (xs++mc) sv ns ss t:=hst1.out.rebag hst4.out (λk hk=>hfr4.out k hk) ((Keep.drew V1).trans hk4.out)
   have hkf:Keep (λk=>k=G.B∨bv.ownBlock=some k) V V4:=by
    have q1:Keep (λk=>(k=G.B∨bv.ownBlock=some k)∨N≤k) V V1:=Keep.of_below hbl.out λk _ hk=>.inr hk
    exact(q1.trans (((Keep.drew V1).trans hk4.out).mono λk _ e=>.inl e)).mono λk hk e=>e.elim id λe=>absurd hk (by omega)
   have hfw:Fresh V bv bv':=λk hk=>(hfr4.out k hk).imp id λe=>by have e2:V1.drew.heap.size=V1.heap.size:=rfl;omega
   have hR:Hid (PutR G V b bv xs sv ns ss t mc V4):=⟨⟨bv',hres,hfw,hkf⟩⟩
   clear hres hkf hfw hst4 hfr4 hk4 hput hst1 hbl hrg hbp
   refine of_wp ?_
   go_wp2
   exact⟨⟨1,_,_,_,_,_,_,_,_,_,_,_,_,_,_,.inr ⟨rfl,hR.out⟩,rfl⟩,by simp[at8]⟩
  ·have hRH:Hid _:=hR
   clear hR hFH hthH hrH
   refine wpN_seq (of_wp ?_)
   go_wp2
   refine wpN_seq (of_wp ?_)
   go_wp2
   go_end0
   exact⟨rfl,hRH.out⟩
end
end Go.Rm
set_option linter.unusedVariables false
set_option linter.unusedSimpArgs false
noncomputable section
namespace Go.Rm
open Go Go.Conc Go.Proofs Go.RowKit Go.Kn Go.Ry
section
variable {G:Geo} {W:World} {b:Nat} {bv:Value} {xs:List Value} {sv:Value} {ns:Nat} {ss:List Value} {t:Int}
set_option maxHeartbeats 2000000 in
set_option maxRecDepth 100000 in
theorem may_bag (h:Wst G W b bv xs sv ns ss t) (kd:Int) (hkd:kd=0∨kd=1∨kd=2) (k:Nat) (hk:k<b) (hb:b≤900):
 Calls Tryz.prog 13 #[.pointer (some ⟨G.A,G.oA,none⟩),.agg (actC kd k).toArray] W λe w'=>e=.returned (.bool true)∧Below W.heap.size W w':=by
 have hA:=h.lt'
 have hBl:G.B<W.heap.size:=World.block_lt_of_cell? _ _ h.bag.cell
 have hbw:Hid (∀o,Below W.heap.size W (W.alloc o).drew):=λo=>(Below.alloc (Below.refl _ _) (Nat.le_refl _) o).drew
 have hlen:Hid (∀o,Calls Tryz.prog 33 #[.pointer (some ⟨G.B,G.oB,none⟩)] (W.alloc o).drew λe w'=>e=.returned (.int .i64 b)∧w'=(W.alloc o).drew):=λo=>
  len_ok (h.bag.keep (F:=λk=>W.heap.size≤k) (Keep.of_below (hbw o) λk _ hk=>hk) (by omega) (λk hk=>by have:=(h.bag.row.lt k hk).2;omega))
 have hc:∀o,((W.alloc o).drew).cell? ⟨G.A,G.oA+2,none⟩=some (.pointer (some ⟨G.B,G.oB,none⟩)):=λo=>((hbw o).cell hA).trans h.bagp
 have mixed:Tryz.prog.follows .mixedOrders=true:=by kernel_rfl
 have hk0:(0:Int)≤(k:Int):=by omega
 have hkb:(k:Int)<(b:Int):=by omega
 clear h
 rcases hkd with rfl|rfl|rfl
 all_goals
  unfold actC
  go_enter Tryz.func13,Tryz.ntmps13
  go_wp2_with fail
  go_region_with (go_at_call 33;refine Calls.mono (hlen.out _) ?_;rintro e W5 ⟨rfl,hW5⟩;have h9:=hW5.symm;clear hW5;subst h9)
  all_goals go_wp2
  all_goals go_ret
  all_goals refine⟨?_,hbw.out _⟩
  all_goals simp[Act.put,Act.eval,hkb,hk0,hk]
end
end Go.Rm
