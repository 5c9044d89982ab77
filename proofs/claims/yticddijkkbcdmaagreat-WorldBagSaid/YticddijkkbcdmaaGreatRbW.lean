/-
  The world's Do at a read of any number: walked.
-/
import Derived.Test.YticddijkkbcdmaaGreatRbP
import Derived.Test.YticddijkkbcdmaaGreatRbC
import Derived.Test.YticddijkkbcdmaaGreatRbH
set_option linter.unusedVariables false
set_option linter.unusedSimpArgs false
noncomputable section
namespace Go.Rm
open Go Go.Conc Go.Proofs Go.RowKit Go.Kn Go.Ry
theorem readN_one (i:Nat):∀u∈(readN i),u.oneCell'=true:=λv hv=>List.all_eq_true.1 (by simp[readN,Value.oneCell']:(readN i).all (·.oneCell')=true) v hv
def zAR:List Value:=.int .i64 0::zM
structure DoHR (i:Nat) (G:Geo) (W:World) (b:Nat) (bv:Value) (xs:List Value) (sv:Value) (ns:Nat) (ss:List Value) (t:Int) (V:World):Prop where
 keep:Keep (λk=>k=G.A) W V
 st:Wst G V b bv xs sv ns ss t
 size:W.heap.size<V.heap.size
 k0:V.cell? ⟨W.heap.size,0,none⟩=some (.int .i64 7)
 range:V.rangeAt W.heap.size 4 (readN i)
structure DoJR (i:Nat) (G:Geo) (W:World) (b:Nat) (bv bv':Value) (xs:List Value) (sv:Value) (ns:Nat) (ss:List Value) (t:Int) (I:World→Prop) (V:World):Prop where
 keep:Keep (λk=>k=G.A∨k=G.B∨bv.ownBlock=some k) W V
 st:Wst G V (b+1) bv' (xs++(readN i)) sv ns ss (t+1)
 size:W.heap.size<V.heap.size
 range:V.rangeAt W.heap.size 4 (readN i)
 inv:I V
section
variable {G:Geo} {W:World} {b:Nat} {bv:Value} {xs:List Value} {sv:Value} {ns:Nat} {ss:List Value} {t:Int}
set_option maxHeartbeats 4000000 in
set_option maxRecDepth 100000 in
theorem do_readN (i:Nat) (h:Wst G W b bv xs sv ns ss t) (hb:b≤1000) (hns:ns≤1000) (ht0:0≤t) (ht:t≤1000) (I:World→Prop) (g0:Nat) (hI:I W) (hIk:∀V V',I V→Below g0 V V'→I V') (hgA:g0≤G.A) (hgB:g0≤G.B) (hgb:g0≤G.base)
 (hmay:∀V,Below W.heap.size W V→Calls Tryz.prog 13 #[.pointer (some ⟨G.A,G.oA,none⟩),.agg (actR i).toArray] V λe w'=>e=.returned (.bool true)∧Below V.heap.size V w')
 (hcl:∀V,I V→Calls Tryz.prog 22 #[.agg (readN i).toArray] V λe w'=>e=.returned (.agg (readN i).toArray)∧Below V.heap.size V w'):
 Calls Tryz.prog 6 #[.pointer (some ⟨G.A,G.oA,none⟩),.agg (actR i).toArray] W λe w'=>e=.returned (.int .i64 0)∧∃bv' sv',Wst G w' (b+1) bv' (xs++(readN i)) sv' (ns+1) (ss++(.int .i64 (t+1)::(readN i))) (t+1)∧Fresh W bv bv'∧Fresh W sv sv'∧Keep (λk=>k=G.A∨k=G.B∨bv.ownBlock=some k∨sv.ownBlock=some k) W w':=by
 have hA:=h.lt'
 have hbw:Hid (∀o,Below W.heap.size W (W.alloc o)):=λo=>Below.alloc (Below.refl _ _) (Nat.le_refl _) o
 have mixed:Tryz.prog.follows .mixedOrders=true:=by kernel_rfl
 have hiR:(Tryz.prog.info? 34).map (·.size)=some (readN i).length:=by kernel_rfl
 obtain⟨cs,hcs,hcl4⟩:∃cs:List Value,cs=actR i∧cs.length=24:=⟨_,rfl,rfl⟩
 have hk0:cs[0]?=some (.int .i64 7):=by rw[hcs];rfl
 have hk4:cs.drop 4=(readN i):=by rw[hcs];rfl
 rw[←hcs]at hmay⊢
 have hbox:∀j v,cs[j]?=some v→(W.alloc (.cells cs.toArray 36)).cell? ⟨W.heap.size,j,none⟩=some v:=λj v hv=>by
  rw[World.cell?_alloc_at (w:=W) _ _ _ _ rfl,List.getElem?_toArray];exact hv
 have hrg:Hid ((W.alloc (.cells cs.toArray 36)).rangeAt W.heap.size 0 cs):=λj v hv=>by rw[Nat.zero_add];exact hbox j v hv
 have hi:(Tryz.prog.info? 36).map (·.size)=some cs.length:=by rw[hcl4];kernel_rfl
 have hN:W.heap.size<(W.alloc (.cells cs.toArray 36)).heap.size:=by rw[World.size_alloc];omega
 have hcall:Hid (Calls Tryz.prog 13 #[.pointer (some ⟨G.A,G.oA,none⟩),.agg cs.toArray] (W.alloc (.cells cs.toArray 36)) λe w'=>e=.returned (.bool true)∧w'.cell? ⟨G.A,G.oA+5,none⟩=some (.int .i64 t)∧w'.frozen? ⟨G.A,G.oA+5,none⟩=false∧DoHR i G W b bv xs sv ns ss (t+1) (w'.setCell ⟨G.A,G.oA+5,none⟩ (.int .i64 (t+1)))):=
  (hmay _ (hbw.out _)).mono λe w' ⟨h1,h2⟩=>by
   have hbb:=(hbw.out _).trans (h2.mono (hbw.out _).size)
   have hst:=h.keep_new hbb
   have hF:DoF G W b bv xs sv ns ss t (.int .i64 7) (.int .i64 7) (w'.setCell ⟨W.heap.size,1,none⟩ (.int .i64 7))→True:=λ_=>trivial
   have hk:Keep (λk=>k=G.A) w' (w'.setCell ⟨G.A,G.oA+5,none⟩ (.int .i64 (t+1))):=Keep.setCell _ _ _ rfl
   have hne:¬W.heap.size=G.A:=by omega
   refine⟨h1,hst.timec,hst.sentf 5 (by omega),((Keep.of_below (F:=λk=>k=G.A∨W.heap.size≤k) hbb λk _ hk=>.inr hk).trans (hk.mono λk _ e=>.inl e)).mono λk hk e=>e.elim id λe=>absurd hk (by omega),hst.tick (t+1),?_,hk.cell ((h2.cell hN).trans (hbox 0 _ hk0)) hne,range_keep hk (λj v hv=>(h2.cell hN).trans (hbox _ _ ?_)) hne⟩
   ·have:=h2.size
    rw[World.size_setCell]
    omega
   ·rw[←hk4,List.getElem?_drop]at hv
    exact hv
 clear hmay hcs hcl4 hk0 hk4 hbox hN hbw
 have hwr:IntKind.i64.wrap (t+1)=t+1:=by simp[IntKind.wrap,IntKind.bits,IntKind.signed];omega
 refine calls_of_wpN Tryz.func6 rfl ?_
 simp only[Tryz.ntmps6,List.size_toArray,List.length_cons,List.length_nil,Nat.reduceAdd,Nat.reduceSub,Array.replicate_succ,
  Array.replicate_zero,List.push_toArray,List.append_toArray,List.nil_append,List.cons_append]
 refine wpN_seq (of_wp ?_)
 go_wp2
 refine wpN_seq (wpN_block ?_)
 refine wpN_seq (of_wp ?_)
 go_wp2
 refine wpN_cond (t:=false) rfl ?_
 rw[if_neg (by decide)]
 refine wpN_seq (of_wp ?_)
 go_wp2_with (first|(refine wpList_load_mid (op:={dst:=some 10,op:=.load 36 (.tmp 3),type:=_,pos:=_,after:=_,guard:=none}) rfl 36 (.tmp 3) rfl W.heap.size 0 rfl cs _ ?hr1 Tryz.underlying36 rfl hi ?_;case hr1=>exact hrg.out)|(go_at_call 13;refine Calls.mono hcall.out ?_;rintro e V ⟨rfl,hct,hft,hG⟩;replace hG:Hid _:=hG))
 clear hcall hrg hi
 refine of_wp ?_
 go_wp2
 refine wpN_seq (of_wp ?_)
 go_wp2
 refine(λ(h:∀V3,DoHR i G W b bv xs sv ns ss (t+1) V3→WpN Tryz.prog _ _ _ V3)=>h _ hG.out) ?_
 clear hG hct hft
 intro V3 hG
 have hN:W.heap.size<V3.heap.size:=hG.size
 have hst:Hid _:=hG.st
 have hkp:Hid _:=hG.keep
 have hn0:=hG.k0
 have hrgH:Hid _:=hG.range
 have hbp:=hG.st.bagp
 have hI3:Hid (I V3.drew):=hIk W _ hI (((hG.keep).below (by omega) (λk hk e=>by omega)).drew)
 have hput:Hid _:=put_ok (hG.st.bag.keep (F:=λ_=>False) (Keep.drew V3) (λh=>h) (λ_ _ h=>h)) (readN i) rfl (readN_one i) hb (λV' hV'=>hcl V' (hIk _ _ hI3.out (hV'.mono (by show g0≤V3.heap.size;omega))))
 clear hG
 refine wpN_seq ?_
 refine wpN_seq (of_wp ?_)
 go_wp2
 refine wpN_block ?_
 refine wpN_seq (of_wp ?_)
 go_wp2
 refine wpN_cond (t:=false) rfl ?_
 rw[if_neg (by decide)]
 refine wpN_seq (of_wp ?_)
 go_wp2
 refine wpN_cond (t:=false) rfl ?_
 rw[if_neg (by decide)]
 refine wpN_seq (of_wp ?_)
 go_wp2
 refine wpN_cond (t:=false) rfl ?_
 rw[if_neg (by decide)]
 refine wpN_seq (of_wp ?_)
 go_wp2
 refine wpN_cond (t:=false) rfl ?_
 rw[if_neg (by decide)]
 refine wpN_seq (of_wp ?_)
 go_wp2
 refine wpN_cond (t:=false) rfl ?_
 rw[if_neg (by decide)]
 refine wpN_seq (of_wp ?_)
 go_wp2
 refine wpN_cond (t:=false) rfl ?_
 rw[if_neg (by decide)]
 refine wpN_seq (of_wp ?_)
 go_wp2
 refine wpN_cond (t:=true) rfl ?_
 rw[if_pos rfl]
 refine wpN_seq (of_wp ?_)
 refine wp_region_noPanic (wp_region_steps 6 [(0,true),(1,true),(2,true),(3,true),(4,true),(5,true)] (λV=>V.cell? ⟨G.A,G.oA+2,none⟩=some (.pointer (some ⟨G.B,G.oB,none⟩))∧V.rangeAt W.heap.size 4 (readN i)) mixed (by kernel_rfl) (λ_ _ _ _ h=>h.elim) ⟨hbp,hrgH.out⟩ ?_)
 refine step_take2 (v:=?v0) (a':=?a0) rfl (y_runG (by first|rfl|simp[Region.wanted,yielded,Act.put,Act.eval]) λw hS=>?p0) ?h0 ?_
 case p0=>obtain⟨hs1,hs2⟩:=hS;clear hs2;go_simp;try exact rfl
 case h0=>go_simp;exact rfl
 refine step_take2 (v:=?v1) (a':=?a1) rfl (y_runG (by first|rfl|simp[Region.wanted,yielded,Act.put,Act.eval]) λw hS=>?p1) ?h1 ?_
 case p1=>obtain⟨hs1,hs2⟩:=hS;clear hs2;go_simp;try exact rfl
 case h1=>go_simp;exact rfl
 refine step_take2 (v:=?v2) (a':=?a2) rfl (y_runG (by first|rfl|simp[Region.wanted,yielded,Act.put,Act.eval]) λw hS=>?p2) ?h2 ?_
 case p2=>obtain⟨hs1,hs2⟩:=hS;clear hs2;go_simp;try exact rfl
 case h2=>go_simp;exact rfl
 refine step_take2 (v:=?v3) (a':=?a3) rfl (y_runG (by first|rfl|simp[Region.wanted,yielded,Act.put,Act.eval]) λw hS=>?p3) ?h3 ?_
 case p3=>obtain⟨hs1,hs2⟩:=hS;clear hs2;go_simp;try exact rfl
 case h3=>go_simp;exact rfl
 refine step_take2 (v:=?v4) (a':=?a4) rfl (y_runG (by first|rfl|simp[Region.wanted,yielded,Act.put,Act.eval]) λw hS=>?p4) ?h4 ?_
 case p4=>obtain⟨hs1,hs2⟩:=hS;clear hs2;go_simp;try exact rfl
 case h4=>go_simp;exact rfl
 refine step_take2 (v:=.agg #[.int .i64 2,.int .i64 100,.int .i64 1,.int .i64 0,.int .i64 0,.int .i64 0,.int .i64 0,.int .i64 0,.int .i64 0,.int .i64 0,.int .i64 (i:Nat),.int .i64 0,.int .i64 0,.int .i64 0,.string ⟨#[115]⟩,.slice none 0 0,.int .i64 0,.string ⟨#[]⟩,.slice none 0 0,.string ⟨#[]⟩]) (a':=?a5) rfl (y_runG rfl λw hS=>y_load_mid rfl rfl (cs:=(readN i)) (b:=W.heap.size) (o:=4) hS.2 Tryz.underlying34 rfl hiR) ?h5 ?_
 case h5=>go_simp;exact rfl
 refine step_nil ?_
 simp only[List.drop_succ_cons,List.drop_zero]
 unfold readN at hput
 go_wp2_with (go_at_call 21;refine Calls.mono hput.out ?_;rintro e V4 ⟨rfl,bv',hst4,hfr4,hk4⟩;replace hst4:Hid _:=hst4;replace hfr4:Hid _:=hfr4;replace hk4:Hid _:=hk4)
 refine NoPanic.normal ?_
 have hres:Wst G V4 (b+1) bv' (xs++(readN i)) sv ns ss (t+1):=hst.out.rebag hst4.out (λk hk=>(hfr4.out k hk)) ((Keep.drew V3).trans hk4.out)
 have hkf:Keep (λk=>k=G.A∨k=G.B∨bv.ownBlock=some k) W V4:=(hkp.out.mono λk _ e=>.inl e).trans (((Keep.drew V3).trans hk4.out).mono λk _ e=>.inr e)
 have hfw:Fresh W bv bv':=λk hk=>(hfr4.out k hk).imp id λe=>by have e2:V3.drew.heap.size=V3.heap.size:=rfl;omega
 have hbv:∀k,bv.ownBlock=some k→g0≤k∧k<W.heap.size:=λk hk=>⟨by have:=(h.bag.row.lt k hk).1;omega,(h.bag.row.lt k hk).2⟩
 have hr4:V4.rangeAt W.heap.size 4 (readN i):=range_keep ((Keep.drew V3).trans hk4.out) hrgH.out (λe=>e.elim (λe=>by have:=hst.out.bag.lt;have:=h.bag.le;omega) λe=>by have:=(hbv _ e).2;omega)
 have hnk:∀k,k<g0→¬(k=G.A∨k=G.B∨bv.ownBlock=some k):=by
  intro k hk e
  rcases e with e|e|e
  ·omega
  ·omega
  ·have:=(hbv k e).1;omega
 have hI4:I V4:=hIk W _ hI (hkf.below (by omega) hnk)
 have hsz4:W.heap.size<V4.heap.size:=Nat.lt_of_lt_of_le hN (((Keep.drew V3).trans hk4.out).size)
 refine(λ(h:∀V4,DoJR i G W b bv bv' xs sv ns ss t I V4→WpN Tryz.prog _ _ _ V4)=>h _ ⟨hkf,hres,hsz4,hr4,hI4⟩) ?_
 clear hst4 hfr4 hk4 hkp hst hput hres hkf hr4 hI4 hsz4 hrgH hI3 hbp hn0 hN
 intro V4 hJ
 have hfwH:Hid _:=hfw
 have hbvH:Hid _:=hbv
 have hsc:=hJ.st.sentc
 have htc:=hJ.st.timec
 have hstH:Hid _:=hJ.st
 have hkJ:Hid _:=hJ.keep
 have hrJ:Hid _:=hJ.range
 have hsz:=hJ.size
 have hid4:Hid (I V4.drew):=hIk _ _ hJ.inv (Below.refl _ _).drew
 have hcall:Hid _:=hcl _ hid4.out
 have hsrow:Hid _:=hJ.st.sent
 have hbase:=hJ.st.bag.le
 have hltA:=hJ.st.lt
 have hltW:Hid _:=h
 have hinfoA:(Tryz.prog.info? 67).map (λi=>(i.zero,i.size,i.bytes))=some (some (.agg zAR.toArray),21,224):=by kernel_rfl
 obtain⟨iA,hjA,hzA,hsA,hbA⟩:=info_parts hinfoA
 clear hJ hfw hbv hcl h
 unfold readN at hcall
 refine of_wp ?_
 refine wp_region_noPanic (wp_region_steps 15 [(0,true),(1,true),(2,true),(3,true),(4,true),(5,true),(6,true),(7,true),(8,true),(9,true),(10,true),(11,false),(12,true),(13,false),(14,false)] (λV=>V.cell? ⟨G.A,G.oA+4,none⟩=some sv∧V.cell? ⟨G.A,G.oA+5,none⟩=some (.int .i64 (t+1))∧V.rangeAt W.heap.size 4 (readN i)) mixed (by kernel_rfl) (λ_ _ _ _ h=>h.elim) ⟨hsc,htc,hrJ.out⟩ ?_)
 refine step_take2 (v:=?w0) (a':=?b0) rfl (y_runG (by first|rfl|simp[Region.wanted,yielded,Act.put,Act.eval]) λw hS=>?q0) ?g0 ?_
 case q0=>obtain⟨hs1,hs2,hs3⟩:=hS;clear hs3;go_simp;try exact rfl
 case g0=>go_simp;exact rfl
 refine step_take2 (v:=?w1) (a':=?b1) rfl (y_runG (by first|rfl|simp[Region.wanted,yielded,Act.put,Act.eval]) λw hS=>?q1) ?g1 ?_
 case q1=>obtain⟨hs1,hs2,hs3⟩:=hS;clear hs3;go_simp;try exact rfl
 case g1=>go_simp;exact rfl
 refine step_take2 (v:=?w2) (a':=?b2) rfl (y_runG (by first|rfl|simp[Region.wanted,yielded,Act.put,Act.eval]) λw hS=>?q2) ?g2 ?_
 case q2=>obtain⟨hs1,hs2,hs3⟩:=hS;clear hs3;go_simp;try exact rfl
 case g2=>go_simp;exact rfl
 refine step_take2 (v:=?w3) (a':=?b3) rfl (y_runG (by first|rfl|simp[Region.wanted,yielded,Act.put,Act.eval]) λw hS=>?q3) ?g3 ?_
 case q3=>obtain⟨hs1,hs2,hs3⟩:=hS;clear hs3;go_simp;try exact rfl
 case g3=>go_simp;exact rfl
 refine step_take2 (v:=?w4) (a':=?b4) rfl (y_runG (by first|rfl|simp[Region.wanted,yielded,Act.put,Act.eval]) λw hS=>?q4) ?g4 ?_
 case q4=>obtain⟨hs1,hs2,hs3⟩:=hS;clear hs3;go_simp;try exact rfl
 case g4=>go_simp;exact rfl
 refine step_take2 (v:=?w5) (a':=?b5) rfl (y_runG (by first|rfl|simp[Region.wanted,yielded,Act.put,Act.eval]) λw hS=>?q5) ?g5 ?_
 case q5=>obtain⟨hs1,hs2,hs3⟩:=hS;clear hs3;go_simp;try exact rfl
 case g5=>go_simp;exact rfl
 refine step_take2 (v:=?w6) (a':=?b6) rfl (y_runG (by first|rfl|simp[Region.wanted,yielded,Act.put,Act.eval]) λw hS=>?q6) ?g6 ?_
 case q6=>obtain⟨hs1,hs2,hs3⟩:=hS;clear hs3;go_simp;try exact rfl
 case g6=>go_simp;exact rfl
 refine step_take2 (v:=?w7) (a':=?b7) rfl (y_runG (by first|rfl|simp[Region.wanted,yielded,Act.put,Act.eval]) λw hS=>?q7) ?g7 ?_
 case q7=>obtain⟨hs1,hs2,hs3⟩:=hS;clear hs3;go_simp;try exact rfl
 case g7=>go_simp;exact rfl
 refine step_take2 (v:=?w8) (a':=?b8) rfl (y_runG (by first|rfl|simp[Region.wanted,yielded,Act.put,Act.eval]) λw hS=>?q8) ?g8 ?_
 case q8=>obtain⟨hs1,hs2,hs3⟩:=hS;clear hs3;go_simp;try exact rfl
 case g8=>go_simp;exact rfl
 refine step_take2 (v:=?w9) (a':=?b9) rfl (y_runG (by first|rfl|simp[Region.wanted,yielded,Act.put,Act.eval]) λw hS=>?q9) ?g9 ?_
 case q9=>obtain⟨hs1,hs2,hs3⟩:=hS;clear hs3;go_simp;try exact rfl
 case g9=>go_simp;exact rfl
 refine step_take2 (v:=.agg #[.int .i64 2,.int .i64 100,.int .i64 1,.int .i64 0,.int .i64 0,.int .i64 0,.int .i64 0,.int .i64 0,.int .i64 0,.int .i64 0,.int .i64 (i:Nat),.int .i64 0,.int .i64 0,.int .i64 0,.string ⟨#[115]⟩,.slice none 0 0,.int .i64 0,.string ⟨#[]⟩,.slice none 0 0,.string ⟨#[]⟩]) (a':=?b10) rfl (y_runG rfl λw hS=>y_load_mid rfl rfl (cs:=(readN i)) (b:=W.heap.size) (o:=4) hS.2.2 Tryz.underlying34 rfl hiR) ?g10 ?_
 case g10=>go_simp;exact rfl
 refine step_op rfl λK' hK=>?_
 go_simp
 go_at_call 22
 refine Calls.mono hcall.out ?_
 rintro e V5 ⟨rfl,hb5⟩
 have hs5:=hb5.size
 have hs5':V4.heap.size≤V5.heap.size:=hs5
 have hk5:Keep (λk=>V4.heap.size≤k) V4 V5:=(Keep.drew V4).trans (Keep.of_below hb5 λk _ hk=>hk)
 have hnA:¬V4.heap.size≤G.A:=by omega
 have hr5:=range_keep hk5 hrJ.out (by omega)
 refine hK _ _ ⟨⟨hk5.cell hsc hnA,hk5.cell htc hnA,hr5⟩,?_⟩
 refine step_take2 (v:=?w12) (a':=?b12) rfl (y_runG (by first|rfl|simp[Region.wanted,yielded,Act.put,Act.eval]) λw hS=>?q12) ?g12 ?_
 case q12=>obtain⟨hs1,hs2,hs3⟩:=hS;clear hs3;go_simp;try exact rfl
 case g12=>go_simp;exact rfl
 refine step_op rfl λK' hK=>?_
 go_simp
 have hb6:Below V4.heap.size V4 (V5.alloc (.cells #[.int .i64 (t+1),.int .i64 2,.int .i64 100,.int .i64 1,.int .i64 0,.int .i64 0,.int .i64 0,.int .i64 0,.int .i64 0,.int .i64 0,.int .i64 0,.int .i64 (i:Nat),.int .i64 0,.int .i64 0,.int .i64 0,.string ⟨#[115]⟩,.slice none 0 0,.int .i64 0,.string ⟨#[]⟩,.slice none 0 0,.string ⟨#[]⟩] 67)):=((Below.refl V4.heap.size V4).drew.trans hb5).alloc hs5' _
 have hk6:Keep (λk=>V4.heap.size≤k) V4 (V5.alloc (.cells #[.int .i64 (t+1),.int .i64 2,.int .i64 100,.int .i64 1,.int .i64 0,.int .i64 0,.int .i64 0,.int .i64 0,.int .i64 0,.int .i64 0,.int .i64 0,.int .i64 (i:Nat),.int .i64 0,.int .i64 0,.int .i64 0,.string ⟨#[115]⟩,.slice none 0 0,.int .i64 0,.string ⟨#[]⟩,.slice none 0 0,.string ⟨#[]⟩] 67)):=Keep.of_below hb6 λk _ hk=>hk
 have hr6:=range_keep hk6 hrJ.out (by omega)
 have hst6:=hstH.out.keep_new hb6
 refine hK _ _ ⟨⟨hk6.cell hsc hnA,hk6.cell htc hnA,hr6⟩,?_⟩
 refine step_op (o:={dst:=some 111,op:=.call {callee:=.builtin .append,args:=#[.tmp 101,.tmp 110],argTypes:=#[54,54]},type:=_,pos:=_,after:=_,guard:=none}) rfl λK' hK=>?_
 refine step_append_lies _ rfl (.tmp 101) (.tmp 110) 54 rfl G.base 67 iA (.agg zAR.toArray) 21 224 Tryz.underlying54 hjA hzA hsA hbA rfl (by decide) sv ns ss rfl hst6.sent ⟨V5.heap.size,0,none⟩ 1 1 (.int .i64 (t+1)::(readN i)) rfl rfl (World.news_of_block (cs:=#[.int .i64 (t+1),.int .i64 2,.int .i64 100,.int .i64 1,.int .i64 0,.int .i64 0,.int .i64 0,.int .i64 0,.int .i64 0,.int .i64 0,.int .i64 0,.int .i64 (i:Nat),.int .i64 0,.int .i64 0,.int .i64 0,.string ⟨#[115]⟩,.slice none 0 0,.int .i64 0,.string ⟨#[]⟩,.slice none 0 0,.string ⟨#[]⟩]) (t:=67) (fr:=(0,0)) (heap_alloc_new V5 _)) (λu hu=>(List.mem_cons.1 hu).elim (λe=>by rw[e];rfl) ((readN_one i) u)) (by decide) (by unfold maxLen;omega) (by omega) (by rw[World.size_alloc];omega) (V5.heap.size+1) (by simp) ?_
 intro g cap V7 hown7 hgrow7 hat7 hlt7
 have hfr7:Fresh (V5.alloc (.cells #[.int .i64 (t+1),.int .i64 2,.int .i64 100,.int .i64 1,.int .i64 0,.int .i64 0,.int .i64 0,.int .i64 0,.int .i64 0,.int .i64 0,.int .i64 0,.int .i64 (i:Nat),.int .i64 0,.int .i64 0,.int .i64 0,.string ⟨#[115]⟩,.slice none 0 0,.int .i64 0,.string ⟨#[]⟩,.slice none 0 0,.string ⟨#[]⟩] 67)) sv (.slice (some ⟨g,0,none⟩) (ns+1) cap):=λk hk=>by
  have:g=k:=by simpa[Value.ownBlock]using hk
  subst this
  rcases hat7 with h|h
  ·exact .inl h
  ·exact .inr (by rw[World.size_alloc];omega)
 obtain⟨hc7,hf7,hst7⟩:=hst6.resent hgrow7 hown7 hfr7
 have hsvA:∀k,sv.ownBlock=some k→G.base≤k∧k<W.heap.size:=λk hk=>⟨(hltW.out.sent.lt k hk).1,(hltW.out.sent.lt k hk).2⟩
 have hr7:V7.rangeAt W.heap.size 4 (readN i):=λj v hv=>hgrow7.cell (hr6 j v hv) (λe=>by have:=(hsvA _ e.symm).2;have e2:(⟨W.heap.size,4+j,none⟩:Addr).block=W.heap.size:=rfl;omega)
 have ht7:V7.cell? ⟨G.A,G.oA+5,none⟩=some (.int .i64 (t+1)):=hgrow7.cell (hk6.cell htc hnA) (λe=>by have:=(hsvA _ e.symm).1;have e2:(⟨G.A,G.oA+5,none⟩:Addr).block=G.A:=rfl;omega)
 have hkA:Keep (λk=>k=G.A∨k=G.B∨bv.ownBlock=some k∨sv.ownBlock=some k) W (V7.setCell ⟨G.A,G.oA+4,none⟩ (.slice (some ⟨g,0,none⟩) (ns+1) cap)):=by
  have q1:Keep (λk=>(k=G.A∨k=G.B∨bv.ownBlock=some k∨sv.ownBlock=some k)∨W.heap.size≤k) W V4:=hkJ.out.mono λk _ e=>.inl (e.imp id λe=>e.imp id .inl)
  have q2:Keep (λk=>(k=G.A∨k=G.B∨bv.ownBlock=some k∨sv.ownBlock=some k)∨W.heap.size≤k) V4 (V5.alloc (.cells #[.int .i64 (t+1),.int .i64 2,.int .i64 100,.int .i64 1,.int .i64 0,.int .i64 0,.int .i64 0,.int .i64 0,.int .i64 0,.int .i64 0,.int .i64 0,.int .i64 (i:Nat),.int .i64 0,.int .i64 0,.int .i64 0,.string ⟨#[115]⟩,.slice none 0 0,.int .i64 0,.string ⟨#[]⟩,.slice none 0 0,.string ⟨#[]⟩] 67)):=hk6.mono λk _ e=>.inr (by omega)
  have q3:Keep (λk=>(k=G.A∨k=G.B∨bv.ownBlock=some k∨sv.ownBlock=some k)∨W.heap.size≤k) (V5.alloc (.cells #[.int .i64 (t+1),.int .i64 2,.int .i64 100,.int .i64 1,.int .i64 0,.int .i64 0,.int .i64 0,.int .i64 0,.int .i64 0,.int .i64 0,.int .i64 0,.int .i64 (i:Nat),.int .i64 0,.int .i64 0,.int .i64 0,.string ⟨#[115]⟩,.slice none 0 0,.int .i64 0,.string ⟨#[]⟩,.slice none 0 0,.string ⟨#[]⟩] 67)) V7:=(Keep.grown (F:=λk=>sv.ownBlock=some k) hgrow7 λk hk=>hk).mono λk _ e=>.inl (.inr (.inr (.inr e)))
  have q4:Keep (λk=>(k=G.A∨k=G.B∨bv.ownBlock=some k∨sv.ownBlock=some k)∨W.heap.size≤k) V7 (V7.setCell ⟨G.A,G.oA+4,none⟩ (.slice (some ⟨g,0,none⟩) (ns+1) cap)):=Keep.setCell _ _ _ (.inl (.inl rfl))
  exact(((q1.trans q2).trans q3).trans q4).mono λk hk e=>e.elim id λe=>absurd hk (by omega)
 have hfs:Fresh W sv (.slice (some ⟨g,0,none⟩) (ns+1) cap):=λk hk=>(hfr7 k hk).imp id λe=>by rw[World.size_alloc]at e;omega
 refine hK _ _ ⟨⟨hc7,ht7,hr7⟩,step_nil ?_⟩
 have hst7H:Hid _:=hst7
 have hkAH:Hid _:=hkA
 have hfsH:Hid _:=hfs
 clear hst7 hkA hfs ht7 hr7 hsvA hfr7 hown7 hgrow7 hat7 hK hst6 hr6 hk6 hb6 hr5 hk5 hb5 hcall hsrow hrJ hkJ hstH hltW
 simp only[List.drop_succ_cons,List.drop_zero]
 go_wp2
 refine NoPanic.normal ?_
 refine wpN_seq (of_wp ?_)
 go_wp2
 refine of_wp ?_
 go_wp2
 go_ret
 exact⟨rfl,bv',_,hst7H.out,hfwH.out,hfsH.out,hkAH.out⟩
end
end Go.Rm
set_option linter.unusedVariables false
set_option linter.unusedSimpArgs false
noncomputable section
namespace Go.Rm
open Go Go.Proofs Go.RowKit Go.Proofs.YticddijkkbcdmaaGreat.Ev
abbrev Msg:=Bool×Nat
def cellsM (m:Msg):List Value:=if m.1 then ansN m.2 else readN m.2
theorem cellsM_len (m:Msg):(cellsM m).length=20:=by unfold cellsM;split<;>rfl
def rowsM (ms:List Msg):List Value:=ms.flatMap cellsM
theorem rowsM_cons (m:Msg) (ms:List Msg):rowsM (m::ms)=cellsM m++rowsM ms:=rfl
theorem rowsM_snoc (ms:List Msg) (m:Msg):rowsM (ms++[m])=rowsM ms++cellsM m:=by simp[rowsM]
theorem rowsM_drop:∀(ms:List Msg) (k:Nat),(rowsM ms).drop (k*20)=rowsM (ms.drop k)
 |ms,0=>by simp
 |[],k+1=>by simp[rowsM]
 |m::ms,k+1=>by
  rw[List.drop_succ_cons,←rowsM_drop ms k,rowsM_cons,Nat.succ_mul,Nat.add_comm,←List.drop_drop,List.drop_left' (cellsM_len m)]
theorem rowsM_take:∀(ms:List Msg) (k:Nat),(rowsM ms).take (k*20)=rowsM (ms.take k)
 |ms,0=>by simp[rowsM]
 |[],k+1=>by simp[rowsM]
 |m::ms,k+1=>by
  rw[List.take_succ_cons,rowsM_cons,rowsM_cons,←rowsM_take ms k,Nat.succ_mul,Nat.add_comm,List.take_add,List.take_left' (cellsM_len m),List.drop_left' (cellsM_len m)]
theorem rowsM_erase (ms:List Msg) (k:Nat):(rowsM ms).take (k*20)++(rowsM ms).drop ((k+1)*20)=rowsM (ms.eraseIdx k):=by
 rw[rowsM_take,rowsM_drop,List.eraseIdx_eq_take_drop_succ]
 simp[rowsM]
theorem rowsM_at (ms:List Msg) (k:Nat) (h:k<ms.length):((rowsM ms).drop (k*20)).take 20=cellsM ms[k]:=by
 rw[rowsM_drop,List.drop_eq_getElem_cons h,rowsM_cons]
 exact List.take_left' (cellsM_len _)
theorem cloneM_ok (m:Msg) (h:m.2<5) (w:World):Calls Go.Proofs.Tryz.prog 22 #[.agg (cellsM m).toArray] w λe w'=>e=.returned (.agg (cellsM m).toArray)∧Below w.heap.size w w':=by
 unfold cellsM
 split
 ·exact cloneA_ok m.2 h w
 ·exact cloneR_ok m.2 h w
end Go.Rm
set_option linter.unusedVariables false
set_option linter.unusedSimpArgs false
noncomputable section
namespace Go.Rm
open Go Go.Conc Go.Proofs Go.RowKit Go.Kn Go.Ry Go.Ev
open Go.Proofs.YticddijkkbcdmaaGreat.Ev (JS JV ansN ansN_one receive_ok mayR_ok cloneR_ok cloneA_ok)
structure SB (G:Geo) (g0:Nat) (ρ:Rho) (w:World) (n:Nat) (ms:List Msg) (bv sv:Value) (ns:Nat) (ss:List Value) (t:Int) (V:World):Prop where
 st:Wst G V ms.length bv (rowsM ms) sv ns ss t
 ns1:ns≤n
 t0:0≤t
 t1:t≤n
 jv:JV ρ V
 below:Below g0 w V
 few:∀m∈ms,m.2<5
structure GB (G:Geo) (g0:Nat) (ρ:Rho) (p:Nat×Nat):Prop where
 js:JS G g0 ρ
 node:ρ 63=some p
 gA:g0≤G.A
 gB:g0≤G.B
 gb:g0≤G.base
def Spare (G:Geo) (V:World) (bv sv bv' sv':Value) (V':World):Prop:=∀g,G.base≤g→g<V.heap.size→bv.ownBlock≠some g→sv.ownBlock≠some g→V'.heap[g]?=V.heap[g]?∧g<V'.heap.size∧bv'.ownBlock≠some g∧sv'.ownBlock≠some g
section
variable {G:Geo} {g0:Nat} {ρ:Rho} {p:Nat×Nat} {w V:World} {n:Nat} {ms:List Msg} {bv sv:Value} {ns:Nat} {ss:List Value} {t:Int}
theorem spare_of {bv' sv':Value} {V':World} {F:Nat→Prop} (hst:Wst G V ms.length bv (rowsM ms) sv ns ss t) (hk:Keep F V V') (hF:∀k,F k→k=G.A∨k=G.B∨bv.ownBlock=some k∨sv.ownBlock=some k∨k<G.base) (h1:Fresh V bv bv') (h2:Fresh V sv sv'):Spare G V bv sv bv' sv' V':=λg hg hl ha hb=>by
 have h3:=hst.lt
 have h4:=hst.bag.lt
 refine⟨hk.block g hl λe=>?_,Nat.lt_of_lt_of_le hl hk.size,λe=>(h1 g e).elim ha λe=>by omega,λe=>(h2 g e).elim hb λe=>by omega⟩
 rcases hF g e with e|e|e|e|e
 ·omega
 ·omega
 ·exact ha e
 ·exact hb e
 ·omega
theorem SB.next {ms':List Msg} {bv' sv':Value} {ns':Nat} {ss':List Value} {V':World} (hg:GB G g0 ρ p) (h:SB G g0 ρ w n ms bv sv ns ss t V) (hst:Wst G V' ms'.length bv' (rowsM ms') sv' ns' ss' (t+1)) (hns:ns'≤n+1) (hk:Keep (λk=>k=G.A∨k=G.B∨bv.ownBlock=some k∨sv.ownBlock=some k) V V') (hf:∀m∈ms',m.2<5):
 SB G g0 ρ w (n+1) ms' bv' sv' ns' ss' (t+1) V':=by
 have hb:∀k,bv.ownBlock=some k→G.base≤k:=λk hk=>(h.st.bag.row.lt k hk).1
 have hs:∀k,sv.ownBlock=some k→G.base≤k:=λk hk=>(h.st.sent.lt k hk).1
 have hle:=h.st.bag.le
 have hgb:=hg.gb
 have h1:=h.t0
 have h2:=h.t1
 refine⟨hst,hns,by omega,by omega,h.jv.keep hg.js (hk.mono λk _ e=>?_),h.below.trans ((hk.below (B:=g0) (by omega) λk hlt e=>?_)),hf⟩
 ·rcases e with e|e|e|e
  ·exact .inl e
  ·exact .inr (.inl e)
  ·exact .inr (.inr (hb k e))
  ·exact .inr (.inr (hs k e))
 ·have h3:=hg.gA
  have h4:=hg.gB
  rcases e with e|e|e|e
  ·omega
  ·omega
  ·have:=hb k e;omega
  ·have:=hs k e;omega
theorem SB.inv (hg:GB G g0 ρ p) (h:JV ρ V) {V':World} (hb:Below G.base V V') (hle:G.base≤V.heap.size):JV ρ V':=h.keep hg.js (Keep.of_below hb λk _ e=>.inr (.inr e))
theorem sb_send (hg:GB G g0 ρ p) (h:SB G g0 ρ w n ms bv sv ns ss t V) (hn:n≤200) (hl:ms.length≤100) (i:Nat) (hi:i<5):
 Calls Tryz.prog 6 #[.pointer (some ⟨G.A,G.oA,none⟩),.agg (actR i).toArray] V λe w'=>e=.returned (.int .i64 0)∧∃bv' sv' ns' ss' t',SB G g0 ρ w (n+1) (ms++[(false,i)]) bv' sv' ns' ss' t' w'∧Spare G V bv sv bv' sv' w':=by
 obtain⟨q,c,hq,hnd⟩:=hg.js.nd
 have h1:=h.ns1
 have h2:=h.t1
 refine(do_readN i h.st (by omega) (by omega) h.t0 (by omega) (λ_=>True) g0 trivial (λ_ _ _ _=>trivial) hg.gA hg.gB hg.gb (λW hW=>may_readN i (h.st.keep_new hW) _ c hnd λW' _=>mayR_ok i hi W') (λW _=>cloneR_ok i hi W)).mono λe w' ⟨h3,bv',sv',h4,h5,h6,h7⟩=>?_
 have e1:ms.length+1=(ms++[((false,i):Msg)]).length:=by simp
 have e2:rowsM ms++readN i=rowsM (ms++[(false,i)]):=(rowsM_snoc ms (false,i)).symm
 rw[e1,e2]at h4
 refine⟨h3,bv',sv',_,_,_,h.next hg h4 (by omega) h7 ?_,spare_of h.st h7 (λk e=>e.elim .inl λe=>.inr (e.elim .inl λe=>.inr (e.elim .inl λe=>.inr (.inl e)))) h5 h6⟩
 intro m hm
 rcases List.mem_append.1 hm with hm|hm
 ·exact h.few m hm
 ·rw[List.mem_singleton.1 hm];exact hi
theorem sb_drop (hg:GB G g0 ρ p) (h:SB G g0 ρ w n ms bv sv ns ss t V) (hn:n≤200) (hl:ms.length≤100) (k:Nat) (hk:k<ms.length):
 Calls Tryz.prog 6 #[.pointer (some ⟨G.A,G.oA,none⟩),.agg (actC 1 k).toArray] V λe w'=>e=.returned (.int .i64 0)∧∃bv' sv' ns' ss' t',SB G g0 ρ w (n+1) (ms.eraseIdx k) bv' sv' ns' ss' t' w'∧Spare G V bv sv bv' sv' w':=by
 have h2:=h.t1
 refine(do_dropK h.st k hk (by omega) h.t0 (by omega) (λW hW=>may_bag (h.st.keep_new hW) 1 (.inr (.inl rfl)) k hk (by omega))).mono λe w' ⟨h3,bv',h4,h5,h6⟩=>⟨h3,bv',sv,ns,ss,_,h.next hg ?_ ?_ (h6.mono λk _ e=>?_) ?_,spare_of h.st h6 (λk e=>e.elim .inl λe=>.inr (e.elim .inl λe=>.inr (.inl e))) h5 oneFresh⟩
 ·rw[rowsM_erase]at h4
  rw[List.length_eraseIdx_of_lt hk]
  exact h4
 ·have:=h.ns1;omega
 ·rcases e with e|e|e
  ·exact .inl e
  ·exact .inr (.inl e)
  ·exact .inr (.inr (.inl e))
 ·exactλm hm=>h.few m (List.mem_of_mem_eraseIdx hm)
theorem sb_double (hg:GB G g0 ρ p) (h:SB G g0 ρ w n ms bv sv ns ss t V) (hn:n≤200) (hl:ms.length≤100) (k:Nat) (hk:k<ms.length):
 Calls Tryz.prog 6 #[.pointer (some ⟨G.A,G.oA,none⟩),.agg (actC 2 k).toArray] V λe w'=>e=.returned (.int .i64 0)∧∃bv' sv' ns' ss' t',SB G g0 ρ w (n+1) (ms++[ms[k]]) bv' sv' ns' ss' t' w'∧Spare G V bv sv bv' sv' w':=by
 have h2:=h.t1
 have h5:ms[k].2<5:=h.few _ (List.getElem_mem hk)
 refine(do_double h.st k hk (by omega) (cellsM ms[k]) (rowsM_at ms k hk).symm (λ_=>True) g0 trivial (λ_ _ _ _=>trivial) hg.gA hg.gB hg.gb (λW _=>cloneM_ok _ h5 W) h.t0 (by omega) (λW hW=>may_bag (h.st.keep_new hW) 2 (.inr (.inr rfl)) k hk (by omega))).mono λe w' ⟨h3,bv',h4,h5',h6⟩=>⟨h3,bv',sv,ns,ss,_,h.next hg ?_ ?_ (h6.mono λk _ e=>?_) ?_,spare_of h.st h6 (λk e=>e.elim .inl λe=>.inr (e.elim .inl λe=>.inr (.inl e))) h5' oneFresh⟩
 ·rw[rowsM_snoc,List.length_append]
  exact h4
 ·have:=h.ns1;omega
 ·rcases e with e|e|e
  ·exact .inl e
  ·exact .inr (.inl e)
  ·exact .inr (.inr (.inl e))
 ·intro m hm
  rcases List.mem_append.1 hm with hm|hm
  ·exact h.few m hm
  ·rw[List.mem_singleton.1 hm];exact h5
theorem sb_deliver (hg:GB G g0 ρ p) {i:Nat} {r:List Msg} (h:SB G g0 ρ w n ((false,i)::r) bv sv ns ss t V) (hn:n≤200) (hl:r.length≤100):
 Calls Tryz.prog 6 #[.pointer (some ⟨G.A,G.oA,none⟩),.agg (actC 0 (0:Nat)).toArray] V λe w'=>e=.returned (.int .i64 0)∧∃bv' sv' ns' ss' t',SB G g0 ρ w (n+1) (r++[(true,i)]) bv' sv' ns' ss' t' w'∧Spare G V bv sv bv' sv' w':=by
 obtain⟨q,c,hq,hnd⟩:=hg.js.nd
 have h2:=h.t1
 have hi:i<5:=h.few _ List.mem_cons_self
 obtain⟨ap1,ap2,ap3,ap4⟩:=hg.js.apart _ p hg.node
 refine(do_deliver (b:=r.length) h.st (by omega) h.t0 (by omega) (readN i) (ansN i) (rowsM_at ((false,i)::r) 0 (by simp)).symm rfl rfl (ansN_one i) (λW=>JV ρ W) (λk=>k=p.1) h.jv (λW W' hW hk=>hW.keep hg.js hk) (λk e=>by subst e;exact⟨ap3,ap1,ap2⟩) q.1 q.2 c hnd ⟨p.1,p.2,none⟩ (λW hW=>hW.up hg.js p hg.node q hq) (λW hW=>receive_ok hg.js p hg.node i hi W hW) (λW hW=>cloneA_ok i hi W)).mono λe w' ⟨h3,hj,bv',h4,h5,h6⟩=>⟨h3,bv',sv,ns,ss,t+1,?_,spare_of h.st h6 (λk e=>e.elim .inl λe=>.inr (e.elim .inl λe=>.inr (e.elim .inl λe=>.inr (.inr (by rw[e];exact ap3))))) h5 oneFresh⟩
 have hle:=h.st.bag.le
 have hgb:=hg.gb
 have hgA:=hg.gA
 have hgB:=hg.gB
 have h7:=h.t0
 have h8:=h.ns1
 refine⟨?_,by omega,by omega,by omega,hj,h.below.trans (h6.below (B:=g0) (by omega) λk hlt e=>?_),?_⟩
 ·rw[rowsM_snoc,List.length_append]
  have e:(rowsM ((false,i)::r)).drop 20=rowsM r:=by rw[rowsM_cons];exact List.drop_left' (cellsM_len _)
  rw[e]at h4
  exact h4
 ·rcases e with e|e|e|e
  ·omega
  ·omega
  ·have:=(h.st.bag.row.lt k e).1;omega
  ·omega
 ·intro m hm
  rcases List.mem_append.1 hm with hm|hm
  ·exact h.few m (List.mem_cons_of_mem _ hm)
  ·rw[List.mem_singleton.1 hm];exact hi
end
end Go.Rm
set_option linter.unusedVariables false
set_option linter.unusedSimpArgs false
noncomputable section
namespace Go.Rm
open Go Go.Conc Go.Proofs Go.RowKit Go.Kn Go.Ry Go.Ev
open Go.Proofs.YticddijkkbcdmaaGreat.Ev (JS JV ansN)
structure BagC (V:World) (ms:List Msg) (v:Value) (V':World):Prop where
 below:Below V.heap.size V V'
 val:∃ao c,v=.slice ao ms.length c
 at':∀(k:Nat) (h:k<ms.length),∃g c,v=.slice (some ⟨g,0,none⟩) ms.length c∧V.heap.size≤g∧V'.rangeAt g (k*20) (cellsM ms[k])
section
variable {G:Geo} {g0:Nat} {ρ:Rho} {p:Nat×Nat} {w V:World} {n:Nat} {ms:List Msg} {bv sv:Value} {ns:Nat} {ss:List Value} {t:Int}
theorem bagC_of {V':World} {v:Value} (hr:V'.ownsRow V.heap.size 34 20 v ms.length (rowsM ms)) (hb:Below V.heap.size V V'):BagC V ms v V':=by
 refine⟨hb,row_val hr,λk hk=>?_⟩
 obtain⟨g,c,h1,_,h3,h4⟩:=row_some hr (by omega)
 exact⟨g,c,h1,h3,range_of h4 (rowsM_at ms k hk).symm⟩
theorem sb_bag (hg:GB G g0 ρ p) (h:SB G g0 ρ w n ms bv sv ns ss t V) (hl:ms.length≤100):
 Calls Tryz.prog 7 #[.pointer (some ⟨G.A,G.oA,none⟩)] V λe w'=>∃v,e=.returned v∧BagC V ms v w'∧SB G g0 ρ w n ms bv sv ns ss t w':=by
 have ha:=all_ok h.st.bag (by omega) λi W hi hW=>by rw[rowsM_at ms i hi];exact cloneM_ok _ (h.few _ (List.getElem_mem hi)) W
 have hc:=h.st.bagp
 have haH:Hid _:=ha
 have hH:Hid _:=h
 have hgH:Hid _:=hg
 clear h ha hg
 go_enter Tryz.func7,Tryz.ntmps7
 go_wp2_with (go_at_call 25;refine Calls.mono haH.out ?_;rintro e V2 ⟨v,rfl,hr,hV⟩;replace hr:Hid _:=hr)
 go_ret
 have h2:=hH.out
 have hle:=h2.st.bag.le
 have hgb:=hgH.out.gb
 exact⟨v,rfl,bagC_of hr.out hV,h2.st.keep_new hV,h2.ns1,h2.t0,h2.t1,SB.inv hgH.out h2.jv (hV.mono (by omega)) hle,h2.below.trans (hV.mono (by omega)),h2.few⟩
structure BagK (G:Geo) (ms:List Msg) (v bv sv:Value) (V:World):Prop where
 val:∃ao c,v=.slice ao ms.length c
 at':∀(k:Nat) (h:k<ms.length),∃g c,v=.slice (some ⟨g,0,none⟩) ms.length c∧G.base≤g∧g<V.heap.size∧bv.ownBlock≠some g∧sv.ownBlock≠some g∧V.rangeAt g (k*20) (cellsM ms[k])
theorem BagC.k {V':World} {v:Value} {ms':List Msg} (h:SB G g0 ρ w n ms bv sv ns ss t V) (hc:BagC V ms' v V'):BagK G ms' v bv sv V':=by
 refine⟨hc.val,λk hk=>?_⟩
 obtain⟨g,c,h1,h2,h3⟩:=hc.at' k hk
 have hle:=h.st.bag.le
 have hl:0<(cellsM ms'[k]).length:=by rw[cellsM_len];omega
 have h4:g<V'.heap.size:=World.block_lt_of_cell? V' _ (h3 0 _ (List.getElem?_eq_getElem hl))
 exact⟨g,c,h1,by omega,h4,λe=>by have:=(h.st.bag.row.lt g e).2;omega,λe=>by have:=(h.st.sent.lt g e).2;omega,h3⟩
theorem BagK.step {V':World} {v bv' sv':Value} {ms':List Msg} (h:BagK G ms' v bv sv V) (hs:Spare G V bv sv bv' sv' V'):BagK G ms' v bv' sv' V':=by
 refine⟨h.val,λk hk=>?_⟩
 obtain⟨g,c,h1,h2,h3,h4,h5,h6⟩:=h.at' k hk
 obtain⟨e1,e2,e3,e4⟩:=hs g h2 h3 h4 h5
 exact⟨g,c,h1,h2,e2,e3,e4,λj u hu=>by rw[World.cell?_of_block (w:=V) (a:=⟨g,k*20+j,none⟩) e1];exact h6 j u hu⟩
theorem BagK.new {V':World} {v:Value} {ms':List Msg} (h:BagK G ms' v bv sv V) (hb:Below V.heap.size V V'):BagK G ms' v bv sv V':=
 h.step λg h1 h2 h3 h4=>⟨hb.block g h2,Nat.lt_of_lt_of_le h2 hb.size,h3,h4⟩
end
end Go.Rm
set_option linter.unusedVariables false
set_option linter.unusedSimpArgs false
noncomputable section
namespace Go.Rm
open Go
def reads (rs:List Nat):List Msg:=rs.map λi=>(false,i)
theorem reads_len (rs:List Nat):(reads rs).length=rs.length:=by simp[reads]
theorem reads_erase (rs:List Nat) (k:Nat):(reads rs).eraseIdx k=reads (rs.eraseIdx k):=by
 unfold reads
 rw[List.eraseIdx_eq_take_drop_succ,List.eraseIdx_eq_take_drop_succ]
 simp
theorem reads_snoc (rs:List Nat) (i:Nat):reads rs++[(false,i)]=reads (rs++[i]):=by simp[reads]
theorem reads_at (rs:List Nat) (k:Nat) (h:k<(reads rs).length):(reads rs)[k]=(false,rs[k]'(by rwa [reads_len]at h)):=by simp[reads]
def mix (rs:List Nat) (j:Nat):List Msg:=reads (rs.drop j)++(rs.take j).map λi=>(true,i)
theorem mix_zero (rs:List Nat):mix rs 0=reads rs:=by simp[mix]
theorem mix_len (rs:List Nat) (j:Nat) (h:j≤rs.length):(mix rs j).length=rs.length:=by
 simp[mix,reads]
 omega
theorem mix_cons (rs:List Nat) (j:Nat) (h:j<rs.length):mix rs j=(false,rs[j])::(reads (rs.drop (j+1))++(rs.take j).map λi=>(true,i)):=by
 unfold mix
 rw[List.drop_eq_getElem_cons h]
 rfl
theorem mix_next (rs:List Nat) (j:Nat) (h:j<rs.length):(reads (rs.drop (j+1))++(rs.take j).map λi=>((true,i):Msg))++[(true,rs[j])]=mix rs (j+1):=by
 unfold mix
 rw[List.take_succ_eq_append_getElem h,List.map_append,←List.append_assoc]
 rfl
theorem mix_all (rs:List Nat):mix rs rs.length=rs.map λi=>(true,i):=by simp[mix,reads]
def placeOf (x:Int) (b:Nat):Nat:=(x%18446744073709551616%(b:Int)).toNat
theorem placeOf_lt (x:Int) (b:Nat) (h:0<b):placeOf x b<b:=by
 unfold placeOf
 have h1:0≤x%18446744073709551616%(b:Int):=Int.emod_nonneg _ (by omega)
 have h2:x%18446744073709551616%(b:Int)<(b:Int):=Int.emod_lt_of_pos _ (by omega)
 omega
theorem wrap_u64' (x:Int):IntKind.u64.wrap x=x%18446744073709551616:=by
 simp[IntKind.wrap,IntKind.signed,IntKind.bits]
theorem placeOf_eq (x:Int) (b:Nat) (h:0<b):(IntKind.u64.wrap x).tmod (b:Int)=((placeOf x b:Nat):Int):=by
 rw[wrap_u64',Int.tmod_eq_emod_of_nonneg (by omega)]
 unfold placeOf
 have h1:0≤x%18446744073709551616%(b:Int):=Int.emod_nonneg _ (by omega)
 omega
def thirdOf (x:Int):Nat:=(x%18446744073709551616%3).toNat
theorem thirdOf_lt (x:Int):thirdOf x<3:=by unfold thirdOf;omega
theorem thirdOf_eq (x:Int):(IntKind.u64.wrap x).tmod 3=((thirdOf x:Nat):Int):=by
 rw[wrap_u64',Int.tmod_eq_emod_of_nonneg (by omega)]
 unfold thirdOf
 omega
end Go.Rm
set_option linter.unusedVariables false
set_option linter.unusedSimpArgs false
noncomputable section
namespace Go.Rm
open Go Go.Conc Go.Proofs Go.RowKit Go.Kn Go.Ry Go.Ev
open Go.Proofs.YticddijkkbcdmaaGreat.Ev (JS JV new_okB)
theorem num_ok (k:Int) (w:World):Calls Tryz.prog 8 #[.int .i64 k] w λe w'=>e=.returned (.int .i64 k)∧w'=w:=by
 go_enter Tryz.func8,Tryz.ntmps8
 go_wp2
 go_ret
 exact⟨rfl,rfl⟩
theorem rel_none (W:World):Rel (λ_=>0) (λ_=>none) (λ_=>none) [] W:=⟨λid cs h=>(by cases h),λid cs h=>(by cases h),λid cs h=>(by cases h),λid id' p p' h=>(by cases h)⟩
set_option maxHeartbeats 2000000 in
set_option maxRecDepth 100000 in
theorem three_ok (W:World):Calls Tryz.prog 5 #[] W λe w'=>∃G ρ p,e=.returned (.tuple #[.pointer (some ⟨G.A,G.oA,none⟩),.bool true])∧GB G W.heap.size ρ p∧SB G W.heap.size ρ W 0 [] (.slice none 0 0) (.slice none 0 0) 0 [] 0 w':=by
 have hnew:Hid _:=new_okB W (rel_none W) (λid _=>rfl)
 refine calls_of_wpN Tryz.func5 rfl ?_
 simp only[Tryz.ntmps5,List.size_toArray,List.length_cons,List.length_nil,Nat.reduceAdd,Nat.reduceSub,Array.replicate_succ,
  Array.replicate_zero,List.push_toArray,List.append_toArray,List.nil_append,List.cons_append]
 refine wpN_seq (of_wp ?_)
 go_wp2
 refine wpN_seq (of_wp ?_)
 go_wp2_with (go_at_call 10;refine Calls.mono hnew.out ?_;rintro e W1 ⟨G,ρ,p,rfl,hst,hjs,hp,hjv,hbase,hgA,hgB,hb⟩;replace hst:Hid _:=hst;replace hjs:Hid _:=hjs;replace hjv:Hid _:=hjv)
 refine wpN_seq (of_wp ?_)
 go_wp2_with (go_at_call 8;refine(num_ok _ _).mono ?_;rintro e W9 ⟨rfl,hW9⟩;have h9:=hW9.symm;clear hW9;subst h9)
 refine of_wp ?_
 go_wp2
 go_ret2
 have hGB:GB G W.heap.size ρ p:=⟨hjs.out,hp,hgA,hgB,by have:=hb.size;omega⟩
 have hSB:SB G W.heap.size ρ W 0 [] (.slice none 0 0) (.slice none 0 0) 0 [] 0 W1:=⟨hst.out,Nat.le_refl _,Int.le_refl _,Int.le_refl _,hjv.out,hb,λm hm=>by cases hm⟩
 exact⟨G,rfl,ρ,⟨p.1,p.2,hGB⟩,hSB⟩
end Go.Rm
set_option linter.unusedVariables false
set_option linter.unusedSimpArgs false
noncomputable section
namespace Go.Rm
open Go Go.Conc Go.Proofs Go.RowKit Go.Kn Go.Ry Go.Ev
open Go.Proofs.YticddijkkbcdmaaGreat.Ev (JS JV readS readS_vr evalE KT0 FT awakeW below_of_fr)
theorem sameReads:∀i,i<5→hcall (noOrc zz) KT0.find FT.find 60 9 [.ag (readS i),.ag (readS i)] (λ_=>none) [] 0 (isV (.one (.bool true)) []) []=true
 |0,_=>by kernel_rfl
 |1,_=>by kernel_rfl
 |2,_=>by kernel_rfl
 |3,_=>by kernel_rfl
 |4,_=>by kernel_rfl
theorem sameR_ok (i:Nat) (hi:i<5) (w:World):Calls Tryz.prog 9 #[.agg (readN i).toArray,.agg (readN i).toArray] w λe w'=>e=.returned (.bool true)∧Below w.heap.size w w':=
 (evalE (sameReads i hi) w (xs:=[.agg (readN i).toArray,.agg (readN i).toArray]) ⟨⟨_,rfl,readS_vr i⟩,⟨_,rfl,readS_vr i⟩,trivial⟩).mono λe w' ⟨x,ρ',e1,hx,hb⟩=>⟨by rw[e1,show x=.bool true from hx],hb⟩
theorem awake_ok (w:World):Calls Tryz.prog 4 #[] w λe w'=>e=.returned (.bool true)∧Below w.heap.size w w':=
 (awakeW w).mono λe w' h=>⟨h.1,below_of_fr h.2⟩
def cL:Code→Code
 |.seq a _=>a
 |c=>c
def cR:Code→Code
 |.seq _ b=>b
 |c=>c
def cDn:Nat→Code→Code
 |0,c=>c
 |n+1,c=>cDn n (cR c)
def lawC:Code:=Tryz.f3.body.getD .skip
def cSend:Code:=cR (cL (cDn 4 lawC))
def cPick:Code:=cR (cL (cDn 5 lawC))
def cDel:Code:=cR (cL (cDn 7 lawC))
def cCmp:Code:=cR (cL (cDn 10 lawC))
def cBody:Code→Code
 |.block _ (.loop c)=>c
 |c=>c
def cIn:Code→Code
 |.block _ c=>c
 |c=>c
def cDo:Code:=cDn 4 (cIn (cL (cR (cBody cPick))))
theorem SB.new {G:Geo} {g0:Nat} {ρ:Rho} {p:Nat×Nat} {w V V':World} {n:Nat} {ms:List Msg} {bv sv:Value} {ns:Nat} {ss:List Value} {t:Int} (hg:GB G g0 ρ p) (h:SB G g0 ρ w n ms bv sv ns ss t V) (hV:Below V.heap.size V V'):SB G g0 ρ w n ms bv sv ns ss t V':=
 have hle:=h.st.bag.le
 have hgb:=hg.gb
 ⟨h.st.keep_new hV,h.ns1,h.t0,h.t1,SB.inv hg h.jv (hV.mono (by omega)) hle,h.below.trans (hV.mono (by omega)),h.few⟩
theorem cons_of {α:Type} {n:Nat}:∀{l:List α},l.length=n+1→∃a r,l=a::r∧r.length=n
 |[],h=>by simp at h
 |a::r,h=>⟨a,r,rfl,by simpa using h⟩
theorem wrap64 (k:Nat) (h:k≤1000):IntKind.i64.wrap (k:Int)=(k:Int):=by
 simp[IntKind.wrap,IntKind.signed,IntKind.bits]
 omega
theorem wrapU (k:Nat) (h:k≤1000):IntKind.u64.wrap (k:Int)=(k:Int):=by
 rw[wrap_u64']
 omega
theorem open1 {C:List Value→Prop} {n:Nat} (h:∀(a:Value) (f:List Value),f.length=n→C (a::f)):∀f:List Value,f.length=n+1→C f:=by
 intro f hf
 obtain⟨a,r,rfl,h1⟩:=cons_of hf
 exact h a r h1
theorem open10 {C:List Value→Prop} {n:Nat} (h:∀(a0 a1 a2 a3 a4 a5 a6 a7 a8 a9:Value) (f:List Value),f.length=n→C (a0::a1::a2::a3::a4::a5::a6::a7::a8::a9::f)):∀f:List Value,f.length=n+10→C f:=
 open1 λa0=>open1 λa1=>open1 λa2=>open1 λa3=>open1 λa4=>open1 λa5=>open1 λa6=>open1 λa7=>open1 λa8=>open1 λa9=>h a0 a1 a2 a3 a4 a5 a6 a7 a8 a9
def lat7 (a:Act):Nat:=match a.tmps[7]? with|some (Value.int _ k)=>k.toNat|_=>0
def lat8 (a:Act):Nat:=match a.tmps[8]? with|some (Value.int _ k)=>k.toNat|_=>0
def lat15 (a:Act):Nat:=match a.tmps[15]? with|some (Value.int _ k)=>k.toNat|_=>0
def lat17 (a:Act):Nat:=match a.tmps[17]? with|some (Value.int _ k)=>k.toNat|_=>0
theorem open_send {C:List Value→Prop} (h:∀(u8 u9 u10 u11 u12 u13 u14 u15 u16 u17 u18 u19 u20 u21 u22 u23 u24 u25 u26 u27 u28 u29 u30 u31 u32 u33 u34:Value) (rest:List Value),rest.length=138→C (u8::u9::u10::u11::u12::u13::u14::u15::u16::u17::u18::u19::u20::u21::u22::u23::u24::u25::u26::u27::u28::u29::u30::u31::u32::u33::u34::rest)):∀f:List Value,f.length=165→C f:=by
 refine open10 ?_
 intro u8 u9 u10 u11 u12 u13 u14 u15 u16 u17
 refine open10 ?_
 intro u18 u19 u20 u21 u22 u23 u24 u25 u26 u27
 refine open1 ?_
 intro u28
 refine open1 ?_
 intro u29
 refine open1 ?_
 intro u30
 refine open1 ?_
 intro u31
 refine open1 ?_
 intro u32
 refine open1 ?_
 intro u33
 refine open1 ?_
 intro u34
 exact h u8 u9 u10 u11 u12 u13 u14 u15 u16 u17 u18 u19 u20 u21 u22 u23 u24 u25 u26 u27 u28 u29 u30 u31 u32 u33 u34
section
variable {G:Geo} {g0:Nat} {ρ:Rho} {p:Nat×Nat} {w V:World} {n:Nat} {rs:List Nat} {bv sv:Value} {ns:Nat} {ss:List Value} {t:Int}
def AtSend (G:Geo) (g0:Nat) (ρ:Rho) (w:World) (s0 s1 s2 s3 s4 s6:Value):Exit→Act→World→Prop:=λe a V=>e=.normal∧∃(rs:List Nat) (bv sv:Value) (ns:Nat) (ss:List Value) (t:Int) (f:List Value),rs.length=5∧f.length=165∧SB G g0 ρ w 5 (reads rs) bv sv ns ss t V∧a=⟨(s0::s1::s2::s3::s4::.pointer (some ⟨G.A,G.oA,none⟩)::s6::.int .i64 5::f).toArray,[]⟩
def InvSend (G:Geo) (g0:Nat) (ρ:Rho) (w:World) (s0 s1 s2 s3 s4 s6:Value) (a:Act) (V:World):Prop:=∃(i:Nat) (bv sv:Value) (ns:Nat) (ss:List Value) (t:Int) (f:List Value),i≤5∧f.length=165∧SB G g0 ρ w i (reads (List.range i)) bv sv ns ss t V∧a=⟨(s0::s1::s2::s3::s4::.pointer (some ⟨G.A,G.oA,none⟩)::s6::.int .i64 (i:Nat)::f).toArray,[]⟩
set_option maxHeartbeats 2000000 in
set_option maxRecDepth 100000 in
theorem loop_send (hg:GB G g0 ρ p) (s0 s1 s2 s3 s4 s6:Value) (f:List Value) (hf:f.length=165) (h0:SB G g0 ρ w 0 [] bv sv ns ss t V):
 WpN Tryz.prog cSend (AtSend G g0 ρ w s0 s1 s2 s3 s4 s6) ⟨(s0::s1::s2::s3::s4::.pointer (some ⟨G.A,G.oA,none⟩)::s6::.int .i64 0::f).toArray,[]⟩ V:=by
 refine wpN_block (wpN_loop (InvSend G g0 ρ w s0 s1 s2 s3 s4 s6) (λa _=>10-lat7 a) ?_ ?_)
 ·exact⟨0,bv,sv,ns,ss,t,f,Nat.zero_le _,hf,h0,rfl⟩
 ·rintro a V ⟨i,bv,sv,ns,ss,t,f,hi,hf,hS,rfl⟩
  revert f
  refine open_send ?_
  intro u8 u9 u10 u11 u12 u13 u14 u15 u16 u17 u18 u19 u20 u21 u22 u23 u24 u25 u26 u27 u28 u29 u30 u31 u32 u33 u34 rest hr
  rcases Nat.lt_or_ge i 5 with hlt|hge
  ·have hdo:Hid _:=sb_send hg hS (by omega) (by rw[reads_len,List.length_range];omega) i hlt
   have hi1:(i:Int)<5:=by omega
   clear hS hf f
   refine wpN_seq (of_wp ?_)
   go_wp2
   refine wpN_seq (wpN_block ?_)
   refine of_wp ?_
   go_wp2_with (go_at_call 6;refine Calls.mono hdo.out ?_;rintro e V2 ⟨rfl,bv',sv',ns',ss',t',h2,h3⟩;clear h3;replace h2:Hid _:=h2)
   refine of_wp ?_
   go_wp2
   have e1:reads (List.range i)++[(false,i)]=reads (List.range (i+1)):=by rw[reads_snoc,List.range_succ]
   have h4:=h2.out
   rw[e1]at h4
   exact⟨⟨i+1,bv',sv',ns',ss',t',_,hlt,by simp[hr],h4,rfl⟩,by simp[lat7];omega⟩
  ·have hi1:¬(i:Int)<5:=by omega
   have hSH:Hid _:=hS
   obtain rfl:i=5:=by omega
   clear hS hf f
   refine wpN_seq (of_wp ?_)
   go_wp2
   exact⟨rfl,_,bv,sv,ns,ss,t,_,List.length_range,by simp[hr],hSH.out,rfl⟩
end
end Go.Rm
