/-
  The world's Do at a read that is sent: walked.
-/
import Derived.Test.YthklkhndoojmfaaGreatDoorRmO
import Derived.Test.YthklkhndoojmfaaGreatDoorRmH
import Derived.Test.YthklkhndoojmfaaGreatDoorRmD
import Derived.Test.YthklkhndoojmfaaGreatDoorKxRun
set_option linter.unusedVariables false
set_option linter.unusedSimpArgs false
noncomputable section
namespace Go.Rm
open Go Go.Conc Go.Proofs Go.RowKit Go.Kn Go.Ry
theorem readC_one:∀u∈readC,u.oneCell'=true:=λv hv=>List.all_eq_true.1 (by simp[readC,Value.oneCell']:readC.all (·.oneCell')=true) v hv
def zA:List Value:=.int .i64 0::zM
structure DoH (G:Geo) (W:World) (b:Nat) (bv:Value) (xs:List Value) (sv:Value) (ns:Nat) (ss:List Value) (t:Int) (V:World):Prop where
 keep:Keep (λk=>k=G.A) W V
 st:Wst G V b bv xs sv ns ss t
 size:W.heap.size<V.heap.size
 k0:V.cell? ⟨W.heap.size,0,none⟩=some (.int .i64 7)
 range:V.rangeAt W.heap.size 4 readC
structure DoJ (G:Geo) (W:World) (b:Nat) (bv bv':Value) (xs:List Value) (sv:Value) (ns:Nat) (ss:List Value) (t:Int) (I:World→Prop) (V:World):Prop where
 keep:Keep (λk=>k=G.A∨k=G.B∨bv.ownBlock=some k) W V
 st:Wst G V (b+1) bv' (xs++readC) sv ns ss (t+1)
 size:W.heap.size<V.heap.size
 range:V.rangeAt W.heap.size 4 readC
 inv:I V
section
variable {G:Geo} {W:World} {b:Nat} {bv:Value} {xs:List Value} {sv:Value} {ns:Nat} {ss:List Value} {t:Int}
set_option maxHeartbeats 4000000 in
set_option maxRecDepth 100000 in
theorem do_read (h:Wst G W b bv xs sv ns ss t) (hb:b≤1000) (hns:ns≤1000) (ht0:0≤t) (ht:t≤1000) (I:World→Prop) (g0:Nat) (hI:I W) (hIk:∀V V',I V→Below g0 V V'→I V') (hgA:g0≤G.A) (hgB:g0≤G.B) (hgb:g0≤G.base)
 (hmay:∀V,Below W.heap.size W V→Calls Tryz.prog 31 #[.pointer (some ⟨G.A,G.oA,none⟩),.agg (actB 2).toArray] V λe w'=>e=.returned (.bool true)∧Below V.heap.size V w')
 (hcl:∀V,I V→Calls Tryz.prog 40 #[.agg readC.toArray] V λe w'=>e=.returned (.agg readC.toArray)∧Below V.heap.size V w'):
 Calls Tryz.prog 11 #[.pointer (some ⟨G.A,G.oA,none⟩),.agg (actB 2).toArray] W λe w'=>e=.returned (.int .i64 0)∧∃bv' sv',Wst G w' (b+1) bv' (xs++readC) sv' (ns+1) (ss++(.int .i64 (t+1)::readC)) (t+1)∧Fresh W bv bv'∧Fresh W sv sv'∧Keep (λk=>k=G.A∨k=G.B∨bv.ownBlock=some k∨sv.ownBlock=some k) W w':=by
 have hA:=h.lt'
 have hbw:Hid (∀o,Below W.heap.size W (W.alloc o)):=λo=>Below.alloc (Below.refl _ _) (Nat.le_refl _) o
 have mixed:Tryz.prog.follows .mixedOrders=true:=by kernel_rfl
 have hiR:(Tryz.prog.info? 47).map (·.size)=some readC.length:=by kernel_rfl
 obtain⟨cs,hcs,hcl4⟩:∃cs:List Value,cs=actB 2∧cs.length=24:=⟨_,rfl,rfl⟩
 have hk0:cs[0]?=some (.int .i64 7):=by rw[hcs];rfl
 have hk4:cs.drop 4=readC:=by rw[hcs];rfl
 rw[←hcs]at hmay⊢
 have hbox:∀j v,cs[j]?=some v→(W.alloc (.cells cs.toArray 49)).cell? ⟨W.heap.size,j,none⟩=some v:=λj v hv=>by
  rw[World.cell?_alloc_at (w:=W) _ _ _ _ rfl,List.getElem?_toArray];exact hv
 have hrg:Hid ((W.alloc (.cells cs.toArray 49)).rangeAt W.heap.size 0 cs):=λj v hv=>by rw[Nat.zero_add];exact hbox j v hv
 have hi:(Tryz.prog.info? 49).map (·.size)=some cs.length:=by rw[hcl4];kernel_rfl
 have hN:W.heap.size<(W.alloc (.cells cs.toArray 49)).heap.size:=by rw[World.size_alloc];omega
 have hcall:Hid (Calls Tryz.prog 31 #[.pointer (some ⟨G.A,G.oA,none⟩),.agg cs.toArray] (W.alloc (.cells cs.toArray 49)) λe w'=>e=.returned (.bool true)∧w'.cell? ⟨G.A,G.oA+5,none⟩=some (.int .i64 t)∧w'.frozen? ⟨G.A,G.oA+5,none⟩=false∧DoH G W b bv xs sv ns ss (t+1) (w'.setCell ⟨G.A,G.oA+5,none⟩ (.int .i64 (t+1)))):=
  (hmay _ (hbw.out _)).mono λe w' ⟨h1,h2⟩=>by
   have hbb:=(hbw.out _).trans (h2.mono (hbw.out _).size)
   have hst:=h.keep_new hbb
   have hF:DoF G W b bv xs sv ns ss t (.int .i64 7) (.int .i64 7) (w'.setCell ⟨W.heap.size,1,none⟩ (.int .i64 7))→True:=λ_=>trivial
   have hk:Keep (λk=>k=G.A) w' (w'.setCell ⟨G.A,G.oA+5,none⟩ (.int .i64 (t+1))):=Keep.setCell _ _ _ rfl
   have hne:¬W.heap.size=G.A:=by omega
   refine⟨h1,hst.timec,hst.sentf 5 (by omega),((Keep.of_below (F:=λk=>k=G.A∨W.heap.size≤k) hbb λk _ hk=>.inr hk).trans (hk.mono λk _ e=>.inl e)).mono λk hk e=>e.elim id λe=>absurd hk (by omega),hst.tick (t+1),?_,hk.cell ((h2.cell hN).trans (hbox 0 _ hk0)) hne,range_keep hk (λj v hv=>(h2.cell hN).trans (hbox _ _ ?_)) hne⟩
   ·have:=h2.size
    rw[World.size_setCell]
    omega
   ·rw[←hk4,List.getElem?_drop]at hv
    exact hv
 clear hmay hcs hcl4 hk0 hk4 hbox hN hbw
 have hwr:IntKind.i64.wrap (t+1)=t+1:=by simp[IntKind.wrap,IntKind.bits,IntKind.signed];omega
 refine calls_of_wpN Tryz.func11 rfl ?_
 simp only[Tryz.ntmps11,List.size_toArray,List.length_cons,List.length_nil,Nat.reduceAdd,Nat.reduceSub,Array.replicate_succ,
  Array.replicate_zero,List.push_toArray,List.append_toArray,List.nil_append,List.cons_append]
 refine wpN_seq (of_wp ?_)
 go_wp2
 refine wpN_seq (wpN_block ?_)
 refine wpN_seq (of_wp ?_)
 go_wp2
 refine wpN_cond (t:=false) rfl ?_
 rw[if_neg (by decide)]
 refine wpN_seq (of_wp ?_)
 go_wp2_with (first|(refine wpList_load_mid (op:={dst:=some 10,op:=.load 49 (.tmp 3),type:=_,pos:=_,after:=_,guard:=none}) rfl 49 (.tmp 3) rfl W.heap.size 0 rfl cs _ ?hr1 Tryz.underlying49 rfl hi ?_;case hr1=>exact hrg.out)|(go_at_call 31;refine Calls.mono hcall.out ?_;rintro e V ⟨rfl,hct,hft,hG⟩;replace hG:Hid _:=hG))
 clear hcall hrg hi
 refine of_wp ?_
 go_wp2
 refine wpN_seq (of_wp ?_)
 go_wp2
 refine(λ(h:∀V3,DoH G W b bv xs sv ns ss (t+1) V3→WpN Tryz.prog _ _ _ V3)=>h _ hG.out) ?_
 clear hG hct hft
 intro V3 hG
 have hN:W.heap.size<V3.heap.size:=hG.size
 have hst:Hid _:=hG.st
 have hkp:Hid _:=hG.keep
 have hn0:=hG.k0
 have hrgH:Hid _:=hG.range
 have hbp:=hG.st.bagp
 have hI3:Hid (I V3.drew):=hIk W _ hI (((hG.keep).below (by omega) (λk hk e=>by omega)).drew)
 have hput:Hid _:=put_ok (hG.st.bag.keep (F:=λ_=>False) (Keep.drew V3) (λh=>h) (λ_ _ h=>h)) readC rfl readC_one hb (λV' hV'=>hcl V' (hIk _ _ hI3.out (hV'.mono (by show g0≤V3.heap.size;omega))))
 clear hG
 refine wpN_seq ?_
 refine wpN_seq (of_wp ?_)
 go_wp2
 refine wpN_block ?_
 refine wpN_seq (of_wp ?_)
 go_wp2
 refine wpN_cond (t:=false) rfl ?_
 rw[if_neg (by decide)]
 refine wpN_seq (of_wp ?_)
 go_wp2
 refine wpN_cond (t:=false) rfl ?_
 rw[if_neg (by decide)]
 refine wpN_seq (of_wp ?_)
 go_wp2
 refine wpN_cond (t:=false) rfl ?_
 rw[if_neg (by decide)]
 refine wpN_seq (of_wp ?_)
 go_wp2
 refine wpN_cond (t:=false) rfl ?_
 rw[if_neg (by decide)]
 refine wpN_seq (of_wp ?_)
 go_wp2
 refine wpN_cond (t:=false) rfl ?_
 rw[if_neg (by decide)]
 refine wpN_seq (of_wp ?_)
 go_wp2
 refine wpN_cond (t:=false) rfl ?_
 rw[if_neg (by decide)]
 refine wpN_seq (of_wp ?_)
 go_wp2
 refine wpN_cond (t:=true) rfl ?_
 rw[if_pos rfl]
 refine wpN_seq (of_wp ?_)
 refine wp_region_noPanic (wp_region_steps 6 [(0,true),(1,true),(2,true),(3,true),(4,true),(5,true)] (λV=>V.cell? ⟨G.A,G.oA+2,none⟩=some (.pointer (some ⟨G.B,G.oB,none⟩))∧V.rangeAt W.heap.size 4 readC) mixed (by kernel_rfl) (λ_ _ _ _ h=>h.elim) ⟨hbp,hrgH.out⟩ ?_)
 refine step_take2 (v:=?v0) (a':=?a0) rfl (y_runG (by first|rfl|simp[Region.wanted,yielded,Act.put,Act.eval]) λw hS=>?p0) ?h0 ?_
 case p0=>obtain⟨hs1,hs2⟩:=hS;clear hs2;go_simp;try exact rfl
 case h0=>go_simp;exact rfl
 refine step_take2 (v:=?v1) (a':=?a1) rfl (y_runG (by first|rfl|simp[Region.wanted,yielded,Act.put,Act.eval]) λw hS=>?p1) ?h1 ?_
 case p1=>obtain⟨hs1,hs2⟩:=hS;clear hs2;go_simp;try exact rfl
 case h1=>go_simp;exact rfl
 refine step_take2 (v:=?v2) (a':=?a2) rfl (y_runG (by first|rfl|simp[Region.wanted,yielded,Act.put,Act.eval]) λw hS=>?p2) ?h2 ?_
 case p2=>obtain⟨hs1,hs2⟩:=hS;clear hs2;go_simp;try exact rfl
 case h2=>go_simp;exact rfl
 refine step_take2 (v:=?v3) (a':=?a3) rfl (y_runG (by first|rfl|simp[Region.wanted,yielded,Act.put,Act.eval]) λw hS=>?p3) ?h3 ?_
 case p3=>obtain⟨hs1,hs2⟩:=hS;clear hs2;go_simp;try exact rfl
 case h3=>go_simp;exact rfl
 refine step_take2 (v:=?v4) (a':=?a4) rfl (y_runG (by first|rfl|simp[Region.wanted,yielded,Act.put,Act.eval]) λw hS=>?p4) ?h4 ?_
 case p4=>obtain⟨hs1,hs2⟩:=hS;clear hs2;go_simp;try exact rfl
 case h4=>go_simp;exact rfl
 refine step_take2 (v:=.agg #[.int .i64 2,.int .i64 100,.int .i64 1,.int .i64 0,.int .i64 0,.int .i64 3,.int .i64 0,.int .i64 0,.int .i64 0,.int .i64 0,.int .i64 5,.int .i64 0,.int .i64 0,.int .i64 0,.string ⟨#[115]⟩,.slice none 0 0,.int .i64 0,.string ⟨#[]⟩,.slice none 0 0,.string ⟨#[]⟩]) (a':=?a5) rfl (y_runG rfl λw hS=>y_load_mid rfl rfl (cs:=readC) (b:=W.heap.size) (o:=4) hS.2 Tryz.underlying47 rfl hiR) ?h5 ?_
 case h5=>go_simp;exact rfl
 refine step_nil ?_
 simp only[List.drop_succ_cons,List.drop_zero]
 unfold readC at hput
 go_wp2_with (go_at_call 39;refine Calls.mono hput.out ?_;rintro e V4 ⟨rfl,bv',hst4,hfr4,hk4⟩;replace hst4:Hid _:=hst4;replace hfr4:Hid _:=hfr4;replace hk4:Hid _:=hk4)
 refine NoPanic.normal ?_
 have hres:Wst G V4 (b+1) bv' (xs++readC) sv ns ss (t+1):=hst.out.rebag hst4.out (λk hk=>(hfr4.out k hk)) ((Keep.drew V3).trans hk4.out)
 have hkf:Keep (λk=>k=G.A∨k=G.B∨bv.ownBlock=some k) W V4:=(hkp.out.mono λk _ e=>.inl e).trans (((Keep.drew V3).trans hk4.out).mono λk _ e=>.inr e)
 have hfw:Fresh W bv bv':=λk hk=>(hfr4.out k hk).imp id λe=>by have e2:V3.drew.heap.size=V3.heap.size:=rfl;omega
 have hbv:∀k,bv.ownBlock=some k→g0≤k∧k<W.heap.size:=λk hk=>⟨by have:=(h.bag.row.lt k hk).1;omega,(h.bag.row.lt k hk).2⟩
 have hr4:V4.rangeAt W.heap.size 4 readC:=range_keep ((Keep.drew V3).trans hk4.out) hrgH.out (λe=>e.elim (λe=>by have:=hst.out.bag.lt;have:=h.bag.le;omega) λe=>by have:=(hbv _ e).2;omega)
 have hnk:∀k,k<g0→¬(k=G.A∨k=G.B∨bv.ownBlock=some k):=by
  intro k hk e
  rcases e with e|e|e
  ·omega
  ·omega
  ·have:=(hbv k e).1;omega
 have hI4:I V4:=hIk W _ hI (hkf.below (by omega) hnk)
 have hsz4:W.heap.size<V4.heap.size:=Nat.lt_of_lt_of_le hN (((Keep.drew V3).trans hk4.out).size)
 refine(λ(h:∀V4,DoJ G W b bv bv' xs sv ns ss t I V4→WpN Tryz.prog _ _ _ V4)=>h _ ⟨hkf,hres,hsz4,hr4,hI4⟩) ?_
 clear hst4 hfr4 hk4 hkp hst hput hres hkf hr4 hI4 hsz4 hrgH hI3 hbp hn0 hN
 intro V4 hJ
 have hfwH:Hid _:=hfw
 have hbvH:Hid _:=hbv
 have hsc:=hJ.st.sentc
 have htc:=hJ.st.timec
 have hstH:Hid _:=hJ.st
 have hkJ:Hid _:=hJ.keep
 have hrJ:Hid _:=hJ.range
 have hsz:=hJ.size
 have hid4:Hid (I V4.drew):=hIk _ _ hJ.inv (Below.refl _ _).drew
 have hcall:Hid _:=hcl _ hid4.out
 have hsrow:Hid _:=hJ.st.sent
 have hbase:=hJ.st.bag.le
 have hltA:=hJ.st.lt
 have hltW:Hid _:=h
 have hinfoA:(Tryz.prog.info? 104).map (λi=>(i.zero,i.size,i.bytes))=some (some (.agg zA.toArray),21,224):=by kernel_rfl
 obtain⟨iA,hjA,hzA,hsA,hbA⟩:=info_parts hinfoA
 clear hJ hfw hbv hcl h
 unfold readC at hcall
 refine of_wp ?_
 refine wp_region_noPanic (wp_region_steps 15 [(0,true),(1,true),(2,true),(3,true),(4,true),(5,true),(6,true),(7,true),(8,true),(9,true),(10,true),(11,false),(12,true),(13,false),(14,false)] (λV=>V.cell? ⟨G.A,G.oA+4,none⟩=some sv∧V.cell? ⟨G.A,G.oA+5,none⟩=some (.int .i64 (t+1))∧V.rangeAt W.heap.size 4 readC) mixed (by kernel_rfl) (λ_ _ _ _ h=>h.elim) ⟨hsc,htc,hrJ.out⟩ ?_)
 refine step_take2 (v:=?w0) (a':=?b0) rfl (y_runG (by first|rfl|simp[Region.wanted,yielded,Act.put,Act.eval]) λw hS=>?q0) ?g0 ?_
 case q0=>obtain⟨hs1,hs2,hs3⟩:=hS;clear hs3;go_simp;try exact rfl
 case g0=>go_simp;exact rfl
 refine step_take2 (v:=?w1) (a':=?b1) rfl (y_runG (by first|rfl|simp[Region.wanted,yielded,Act.put,Act.eval]) λw hS=>?q1) ?g1 ?_
 case q1=>obtain⟨hs1,hs2,hs3⟩:=hS;clear hs3;go_simp;try exact rfl
 case g1=>go_simp;exact rfl
 refine step_take2 (v:=?w2) (a':=?b2) rfl (y_runG (by first|rfl|simp[Region.wanted,yielded,Act.put,Act.eval]) λw hS=>?q2) ?g2 ?_
 case q2=>obtain⟨hs1,hs2,hs3⟩:=hS;clear hs3;go_simp;try exact rfl
 case g2=>go_simp;exact rfl
 refine step_take2 (v:=?w3) (a':=?b3) rfl (y_runG (by first|rfl|simp[Region.wanted,yielded,Act.put,Act.eval]) λw hS=>?q3) ?g3 ?_
 case q3=>obtain⟨hs1,hs2,hs3⟩:=hS;clear hs3;go_simp;try exact rfl
 case g3=>go_simp;exact rfl
 refine step_take2 (v:=?w4) (a':=?b4) rfl (y_runG (by first|rfl|simp[Region.wanted,yielded,Act.put,Act.eval]) λw hS=>?q4) ?g4 ?_
 case q4=>obtain⟨hs1,hs2,hs3⟩:=hS;clear hs3;go_simp;try exact rfl
 case g4=>go_simp;exact rfl
 refine step_take2 (v:=?w5) (a':=?b5) rfl (y_runG (by first|rfl|simp[Region.wanted,yielded,Act.put,Act.eval]) λw hS=>?q5) ?g5 ?_
 case q5=>obtain⟨hs1,hs2,hs3⟩:=hS;clear hs3;go_simp;try exact rfl
 case g5=>go_simp;exact rfl
 refine step_take2 (v:=?w6) (a':=?b6) rfl (y_runG (by first|rfl|simp[Region.wanted,yielded,Act.put,Act.eval]) λw hS=>?q6) ?g6 ?_
 case q6=>obtain⟨hs1,hs2,hs3⟩:=hS;clear hs3;go_simp;try exact rfl
 case g6=>go_simp;exact rfl
 refine step_take2 (v:=?w7) (a':=?b7) rfl (y_runG (by first|rfl|simp[Region.wanted,yielded,Act.put,Act.eval]) λw hS=>?q7) ?g7 ?_
 case q7=>obtain⟨hs1,hs2,hs3⟩:=hS;clear hs3;go_simp;try exact rfl
 case g7=>go_simp;exact rfl
 refine step_take2 (v:=?w8) (a':=?b8) rfl (y_runG (by first|rfl|simp[Region.wanted,yielded,Act.put,Act.eval]) λw hS=>?q8) ?g8 ?_
 case q8=>obtain⟨hs1,hs2,hs3⟩:=hS;clear hs3;go_simp;try exact rfl
 case g8=>go_simp;exact rfl
 refine step_take2 (v:=?w9) (a':=?b9) rfl (y_runG (by first|rfl|simp[Region.wanted,yielded,Act.put,Act.eval]) λw hS=>?q9) ?g9 ?_
 case q9=>obtain⟨hs1,hs2,hs3⟩:=hS;clear hs3;go_simp;try exact rfl
 case g9=>go_simp;exact rfl
 refine step_take2 (v:=.agg #[.int .i64 2,.int .i64 100,.int .i64 1,.int .i64 0,.int .i64 0,.int .i64 3,.int .i64 0,.int .i64 0,.int .i64 0,.int .i64 0,.int .i64 5,.int .i64 0,.int .i64 0,.int .i64 0,.string ⟨#[115]⟩,.slice none 0 0,.int .i64 0,.string ⟨#[]⟩,.slice none 0 0,.string ⟨#[]⟩]) (a':=?b10) rfl (y_runG rfl λw hS=>y_load_mid rfl rfl (cs:=readC) (b:=W.heap.size) (o:=4) hS.2.2 Tryz.underlying47 rfl hiR) ?g10 ?_
 case g10=>go_simp;exact rfl
 refine step_op rfl λK' hK=>?_
 go_simp
 go_at_call 40
 refine Calls.mono hcall.out ?_
 rintro e V5 ⟨rfl,hb5⟩
 have hs5:=hb5.size
 have hs5':V4.heap.size≤V5.heap.size:=hs5
 have hk5:Keep (λk=>V4.heap.size≤k) V4 V5:=(Keep.drew V4).trans (Keep.of_below hb5 λk _ hk=>hk)
 have hnA:¬V4.heap.size≤G.A:=by omega
 have hr5:=range_keep hk5 hrJ.out (by omega)
 refine hK _ _ ⟨⟨hk5.cell hsc hnA,hk5.cell htc hnA,hr5⟩,?_⟩
 refine step_take2 (v:=?w12) (a':=?b12) rfl (y_runG (by first|rfl|simp[Region.wanted,yielded,Act.put,Act.eval]) λw hS=>?q12) ?g12 ?_
 case q12=>obtain⟨hs1,hs2,hs3⟩:=hS;clear hs3;go_simp;try exact rfl
 case g12=>go_simp;exact rfl
 refine step_op rfl λK' hK=>?_
 go_simp
 have hb6:Below V4.heap.size V4 (V5.alloc (.cells #[.int .i64 (t+1),.int .i64 2,.int .i64 100,.int .i64 1,.int .i64 0,.int .i64 0,.int .i64 3,.int .i64 0,.int .i64 0,.int .i64 0,.int .i64 0,.int .i64 5,.int .i64 0,.int .i64 0,.int .i64 0,.string ⟨#[115]⟩,.slice none 0 0,.int .i64 0,.string ⟨#[]⟩,.slice none 0 0,.string ⟨#[]⟩] 104)):=((Below.refl V4.heap.size V4).drew.trans hb5).alloc hs5' _
 have hk6:Keep (λk=>V4.heap.size≤k) V4 (V5.alloc (.cells #[.int .i64 (t+1),.int .i64 2,.int .i64 100,.int .i64 1,.int .i64 0,.int .i64 0,.int .i64 3,.int .i64 0,.int .i64 0,.int .i64 0,.int .i64 0,.int .i64 5,.int .i64 0,.int .i64 0,.int .i64 0,.string ⟨#[115]⟩,.slice none 0 0,.int .i64 0,.string ⟨#[]⟩,.slice none 0 0,.string ⟨#[]⟩] 104)):=Keep.of_below hb6 λk _ hk=>hk
 have hr6:=range_keep hk6 hrJ.out (by omega)
 have hst6:=hstH.out.keep_new hb6
 refine hK _ _ ⟨⟨hk6.cell hsc hnA,hk6.cell htc hnA,hr6⟩,?_⟩
 refine step_op (o:={dst:=some 111,op:=.call {callee:=.builtin .append,args:=#[.tmp 101,.tmp 110],argTypes:=#[85,85]},type:=_,pos:=_,after:=_,guard:=none}) rfl λK' hK=>?_
 refine step_append_lies _ rfl (.tmp 101) (.tmp 110) 85 rfl G.base 104 iA (.agg zA.toArray) 21 224 Tryz.underlying85 hjA hzA hsA hbA rfl (by decide) sv ns ss rfl hst6.sent ⟨V5.heap.size,0,none⟩ 1 1 (.int .i64 (t+1)::readC) rfl rfl (World.news_of_block (cs:=#[.int .i64 (t+1),.int .i64 2,.int .i64 100,.int .i64 1,.int .i64 0,.int .i64 0,.int .i64 3,.int .i64 0,.int .i64 0,.int .i64 0,.int .i64 0,.int .i64 5,.int .i64 0,.int .i64 0,.int .i64 0,.string ⟨#[115]⟩,.slice none 0 0,.int .i64 0,.string ⟨#[]⟩,.slice none 0 0,.string ⟨#[]⟩]) (t:=104) (fr:=(0,0)) (heap_alloc_new V5 _)) (λu hu=>(List.mem_cons.1 hu).elim (λe=>by rw[e];rfl) (readC_one u)) (by decide) (by unfold maxLen;omega) (by omega) (by rw[World.size_alloc];omega) (V5.heap.size+1) (by simp) ?_
 intro g cap V7 hown7 hgrow7 hat7 hlt7
 have hfr7:Fresh (V5.alloc (.cells #[.int .i64 (t+1),.int .i64 2,.int .i64 100,.int .i64 1,.int .i64 0,.int .i64 0,.int .i64 3,.int .i64 0,.int .i64 0,.int .i64 0,.int .i64 0,.int .i64 5,.int .i64 0,.int .i64 0,.int .i64 0,.string ⟨#[115]⟩,.slice none 0 0,.int .i64 0,.string ⟨#[]⟩,.slice none 0 0,.string ⟨#[]⟩] 104)) sv (.slice (some ⟨g,0,none⟩) (ns+1) cap):=λk hk=>by
  have:g=k:=by simpa[Value.ownBlock]using hk
  subst this
  rcases hat7 with h|h
  ·exact .inl h
  ·exact .inr (by rw[World.size_alloc];omega)
 obtain⟨hc7,hf7,hst7⟩:=hst6.resent hgrow7 hown7 hfr7
 have hsvA:∀k,sv.ownBlock=some k→G.base≤k∧k<W.heap.size:=λk hk=>⟨(hltW.out.sent.lt k hk).1,(hltW.out.sent.lt k hk).2⟩
 have hr7:V7.rangeAt W.heap.size 4 readC:=λj v hv=>hgrow7.cell (hr6 j v hv) (λe=>by have:=(hsvA _ e.symm).2;have e2:(⟨W.heap.size,4+j,none⟩:Addr).block=W.heap.size:=rfl;omega)
 have ht7:V7.cell? ⟨G.A,G.oA+5,none⟩=some (.int .i64 (t+1)):=hgrow7.cell (hk6.cell htc hnA) (λe=>by have:=(hsvA _ e.symm).1;have e2:(⟨G.A,G.oA+5,none⟩:Addr).block=G.A:=rfl;omega)
 have hkA:Keep (λk=>k=G.A∨k=G.B∨bv.ownBlock=some k∨sv.ownBlock=some k) W (V7.setCell ⟨G.A,G.oA+4,none⟩ (.slice (some ⟨g,0,none⟩) (ns+1) cap)):=by
  have q1:Keep (λk=>(k=G.A∨k=G.B∨bv.ownBlock=some k∨sv.ownBlock=some k)∨W.heap.size≤k) W V4:=hkJ.out.mono λk _ e=>.inl (e.imp id λe=>e.imp id .inl)
  have q2:Keep (λk=>(k=G.A∨k=G.B∨bv.ownBlock=some k∨sv.ownBlock=some k)∨W.heap.size≤k) V4 (V5.alloc (.cells #[.int .i64 (t+1),.int .i64 2,.int .i64 100,.int .i64 1,.int .i64 0,.int .i64 0,.int .i64 3,.int .i64 0,.int .i64 0,.int .i64 0,.int .i64 0,.int .i64 5,.int .i64 0,.int .i64 0,.int .i64 0,.string ⟨#[115]⟩,.slice none 0 0,.int .i64 0,.string ⟨#[]⟩,.slice none 0 0,.string ⟨#[]⟩] 104)):=hk6.mono λk _ e=>.inr (by omega)
  have q3:Keep (λk=>(k=G.A∨k=G.B∨bv.ownBlock=some k∨sv.ownBlock=some k)∨W.heap.size≤k) (V5.alloc (.cells #[.int .i64 (t+1),.int .i64 2,.int .i64 100,.int .i64 1,.int .i64 0,.int .i64 0,.int .i64 3,.int .i64 0,.int .i64 0,.int .i64 0,.int .i64 0,.int .i64 5,.int .i64 0,.int .i64 0,.int .i64 0,.string ⟨#[115]⟩,.slice none 0 0,.int .i64 0,.string ⟨#[]⟩,.slice none 0 0,.string ⟨#[]⟩] 104)) V7:=(Keep.grown (F:=λk=>sv.ownBlock=some k) hgrow7 λk hk=>hk).mono λk _ e=>.inl (.inr (.inr (.inr e)))
  have q4:Keep (λk=>(k=G.A∨k=G.B∨bv.ownBlock=some k∨sv.ownBlock=some k)∨W.heap.size≤k) V7 (V7.setCell ⟨G.A,G.oA+4,none⟩ (.slice (some ⟨g,0,none⟩) (ns+1) cap)):=Keep.setCell _ _ _ (.inl (.inl rfl))
  exact(((q1.trans q2).trans q3).trans q4).mono λk hk e=>e.elim id λe=>absurd hk (by omega)
 have hfs:Fresh W sv (.slice (some ⟨g,0,none⟩) (ns+1) cap):=λk hk=>(hfr7 k hk).imp id λe=>by rw[World.size_alloc]at e;omega
 refine hK _ _ ⟨⟨hc7,ht7,hr7⟩,step_nil ?_⟩
 have hst7H:Hid _:=hst7
 have hkAH:Hid _:=hkA
 have hfsH:Hid _:=hfs
 clear hst7 hkA hfs ht7 hr7 hsvA hfr7 hown7 hgrow7 hat7 hK hst6 hr6 hk6 hb6 hr5 hk5 hb5 hcall hsrow hrJ hkJ hstH hltW
 simp only[List.drop_succ_cons,List.drop_zero]
 go_wp2
 refine NoPanic.normal ?_
 refine wpN_seq (of_wp ?_)
 go_wp2
 refine of_wp ?_
 go_wp2
 go_ret
 exact⟨rfl,bv',_,hst7H.out,hfwH.out,hfsH.out,hkAH.out⟩
end
end Go.Rm
set_option linter.unusedVariables false
set_option linter.unusedSimpArgs false
noncomputable section
namespace Go.Rm
open Go Go.Conc Go.Proofs Go.RowKit Go.Kn Go.Ry
def rows (b:Nat):List Value:=(List.replicate b readC).flatten
theorem rows_succ (b:Nat):rows (b+1)=rows b++readC:=by
 unfold rows
 rw[List.replicate_succ',List.flatten_append]
 simp
theorem rows_drop (b:Nat):(rows (b+1)).drop 20=rows b:=by
 unfold rows
 rw[List.replicate_succ,List.flatten_cons]
 exact List.drop_left' (by rfl)
theorem rows_at (b i:Nat) (h:i<b):((rows b).drop (i*20)).take 20=readC:=by
 induction b generalizing i with
 |zero=>omega
 |succ b ih=>
  cases i with
  |zero=>
   unfold rows
   rw[List.replicate_succ,List.flatten_cons,Nat.zero_mul,List.drop_zero]
   exact List.take_left' (by rfl)
  |succ i=>
   rw[Nat.succ_mul,Nat.add_comm,←List.drop_drop,rows_drop]
   exact ih i (by omega)
section
variable {G:Geo} {W:World} {b:Nat} {bv:Value} {sv:Value} {ns:Nat} {ss:List Value} {t:Int}
structure DoR (G:Geo) (W:World) (b p:Nat) (bv sv:Value) (ns:Nat) (t:Int) (bv' sv':Value) (ns':Nat) (ss':List Value) (t':Int) (w':World):Prop where
 st:Wst G w' (next b p) bv' (rows (next b p)) sv' ns' ss' t'
 ns1:ns'≤ns+1
 t0:0≤t'
 t1:t'≤t+1
 fb:Fresh W bv bv'
 fs:Fresh W sv sv'
 keep:Keep (λk=>k=G.A∨k=G.B∨bv.ownBlock=some k∨sv.ownBlock=some k) W w'
theorem do_ok (p:Nat) (hp:p<4) (h:Wst G W b bv (rows b) sv ns ss t) (hb:b≤80) (hns:ns≤1000) (ht0:0≤t) (ht:t≤900) (ao:Option Addr) (c:Nat) (hn:G.nd=.slice ao 3 c) (I:World→Prop) (g0:Nat) (hI:I W) (hIk:∀V V',I V→Below g0 V V'→I V') (hgA:g0≤G.A) (hgB:g0≤G.B) (hgb:g0≤G.base)
 (hmay:∀V,I V→Calls Tryz.prog 68 #[.agg readC.toArray] V λe w'=>e=.returned (.bool true)∧Below V.heap.size V w')
 (hcl:∀V,I V→Calls Tryz.prog 40 #[.agg readC.toArray] V λe w'=>e=.returned (.agg readC.toArray)∧Below V.heap.size V w'):
 Calls Tryz.prog 11 #[.pointer (some ⟨G.A,G.oA,none⟩),.agg (actB p).toArray] W λe w'=>e=.returned (.int .i64 (if okB b p then 0 else 2301))∧∃bv' sv' ns' ss' t',DoR G W b p bv sv ns t bv' sv' ns' ss' t' w':=by
 have hle:G.base≤W.heap.size:=h.bag.le
 have hno:∀w',Below W.heap.size W w'→next b p=b→∃bv' sv' ns' ss' t',DoR G W b p bv sv ns t bv' sv' ns' ss' t' w':=λw' hb e=>
  ⟨bv,sv,ns,ss,t,by rw[e];exact h.keep_new hb,by omega,ht0,by omega,oneFresh,oneFresh,(Keep.of_below (F:=λk=>W.heap.size≤k) hb λk _ hk=>hk).mono λk h1 h2=>absurd h1 (by omega)⟩
 have hIV:∀V,Below W.heap.size W V→I V:=λV hV=>hIk _ _ hI (hV.mono (by omega))
 match p,hp with
 |0,_=>exact(do_no 0 (.inl rfl) λV hV=>may_deliver (h.keep_new hV) (by omega)).mono λe w' ⟨h1,h2⟩=>⟨h1,hno w' h2 rfl⟩
 |1,_=>exact(do_no 1 (.inr (.inl rfl)) λV hV=>may_tick (h.keep_new hV) ao c hn).mono λe w' ⟨h1,h2⟩=>⟨h1,hno w' h2 rfl⟩
 |2,_=>
  refine(do_read h (by omega) hns ht0 (by omega) I g0 hI hIk hgA hgB hgb (λV hV=>may_read (h.keep_new hV) ao c hn λV2 hV2=>hmay V2 (hIk _ _ (hIV V hV) (hV2.mono (by have:=hV.size;omega)))) hcl).mono λe w' ⟨h1,bv',sv',h2,h3,h4,h5⟩=>⟨h1,bv',sv',ns+1,_,t+1,by show Wst G w' (b+1) bv' (rows (b+1)) _ _ _ _;rw[rows_succ];exact h2,Nat.le_refl _,by omega,by omega,h3,h4,h5⟩
 |3,_=>
  rcases Nat.eq_zero_or_pos b with hb0|hb0
  ·subst hb0
   exact(do_no 3 (.inr (.inr rfl)) λV hV=>may_drop (h.keep_new hV) (by omega) false rfl).mono λe w' ⟨h1,h2⟩=>⟨h1,hno w' h2 rfl⟩
  ·refine(do_drop h hb0 (by omega) ht0 (by omega) λV hV=>may_drop (h.keep_new hV) (by omega) true (by simp[hb0])).mono λe w' ⟨h1,bv',h2,h3,h4⟩=>⟨by rw[h1];simp[okB,hb0],bv',sv,ns,ss,t+1,?_,by omega,by omega,by omega,h3,oneFresh,h4.mono λk _ e=>by rcases e with e|e|e;exact .inl e;exact .inr (.inl e);exact .inr (.inr (.inl e))⟩
   obtain⟨m,rfl⟩:∃m,b=m+1:=⟨b-1,by omega⟩
   have e1:(rows (m+1)).take (0*20)++(rows (m+1)).drop ((0+1)*20)=rows m:=by
    rw[Nat.zero_mul,List.take_zero,List.nil_append,Nat.zero_add,Nat.one_mul,rows_drop]
   rw[e1]at h2
   exact h2
set_option maxHeartbeats 1000000 in
set_option maxRecDepth 100000 in
theorem bag_ok (h:Wst G W b bv (rows b) sv ns ss t) (hb:b≤1000) (hcl:∀V,Below W.heap.size W V→Calls Tryz.prog 40 #[.agg readC.toArray] V λe w'=>e=.returned (.agg readC.toArray)∧Below V.heap.size V w'):
 Calls Tryz.prog 13 #[.pointer (some ⟨G.A,G.oA,none⟩)] W λe w'=>∃ao c,e=.returned (.slice ao b c)∧Below W.heap.size W w':=by
 have ha:=all_ok h.bag hb λi V hi hV=>by rw[rows_at b i hi];exact hcl V hV
 have hc:=h.bagp
 have haH:Hid _:=ha
 clear h hcl ha
 go_enter Tryz.func13,Tryz.ntmps13
 go_wp2_with (go_at_call 44;refine Calls.mono haH.out ?_;rintro e V ⟨v,rfl,hr,hV⟩;obtain⟨ao,c,rfl⟩:=row_val hr;clear hr)
 go_ret
 exact⟨ao,c,rfl,hV⟩
end
end Go.Rm
set_option linter.unusedVariables false
set_option linter.unusedSimpArgs false
noncomputable section
namespace Go.Rm
open Go Go.Conc Go.Proofs Go.RowKit Go.Kn Go.Kx Go.Ry Go.Ev
open Go.Proofs.YthklkhndoojmfaaGreatDoor.Ev (act_ok may_ok clone_ok number_ok3 new_ok nodes_ok got_ok NP toldC)
theorem gat_on {w V:World} {b k:Nat} (h:GAt w b k) (hb:Below w.heap.size w V):GAt V b k:=by
 obtain⟨C,ty,fr,v,h1,h2⟩:=h
 exact⟨C,ty,fr,v,(hb.block b (Array.getElem?_eq_some_iff.1 h1).1).trans h1,h2⟩
theorem gw_on {w V:World} {b0 b1 b2:Nat} (h:GW b0 b1 b2 w) (hb:Below w.heap.size w V):GW b0 b1 b2 V:=⟨gat_on h.c0 hb,gat_on h.c1 hb,gat_on h.c2 hb⟩
def strs (l:List ByteArray):List Value:=l.map Value.string
def at40 (a:Act):Nat:=match a.tmps[40]? with|some (Value.int _ k)=>k.toNat|_=>0
structure RunS (G:Geo) (g0:Nat) (ρ:Rho) (w w1:World) (ps:List Nat) (i:Nat) (v bv sv:Value) (ns:Nat) (ss:List Value) (t:Int) (V:World):Prop where
 st:Wst G V (bagOf (ps.take i)) bv (rows (bagOf (ps.take i))) sv ns ss t
 keep:Keep (λk=>k=G.A∨k=G.B∨G.base≤k) w1 V
 ns1:ns≤i
 t0:0≤t
 t1:t≤i
 own:V.ownsRow G.base 9 1 v i (strs (tells 0 (ps.take i)))
 apart:∀k,v.ownBlock=some k→bv.ownBlock≠some k∧sv.ownBlock≠some k
theorem flat_at:∀(ps:List Nat) (i:Nat) (h:i<ps.length),((ps.flatMap actB).drop (i*24)).take 24=actB ps[i]
 |[],i,h=>by simp at h
 |p::ps,0,h=>by
  rw[List.flatMap_cons,Nat.zero_mul,List.drop_zero]
  exact List.take_left' (actB_len p)
 |p::ps,i+1,h=>by
  rw[List.flatMap_cons,Nat.succ_mul,Nat.add_comm,←List.drop_drop,List.drop_left' (actB_len p)]
  exact flat_at ps i (by simpa using h)
structure RunF (V:World) (b:Nat) (bv sv:Value) (ns:Nat) (ss:List Value) (t:Int) (G:Geo) (u:Value) (p:Nat) (v:Value) (i:Nat) (l:List ByteArray) (V1:World):Prop where
 below:Below V.heap.size V V1
 size:V.heap.size<V1.heap.size
 st:Wst G V1 b bv (rows b) sv ns ss t
 range:V1.rangeAt V.heap.size 0 (actB p)
 own:V1.ownsRow G.base 9 1 v i (strs l)
theorem tell_eq (b p:Nat):bs (tellL b p)=wordsB (bs (markL (okB b p))) [((next b p:Nat):Int)]:=by
 unfold tellL
 rw[bs_append]
 show _=bs (markL (okB b p))++numB _
 congr 1
theorem runS_next {G:Geo} {g0:Nat} {ρ:Rho} {w w1 V V1 V2 V4 W6:World} {ps:List Nat} {i b p:Nat} {v v' bv bv2 sv sv2:Value} {ns ns2:Nat} {ss2:List Value} {t t2:Int} {s:ByteArray} {o:Obj} (hbase:G.base=w1.heap.size) (hlt:i<ps.length)
 (e1:bagOf (ps.take (i+1))=next b p) (e2:tells 0 (ps.take (i+1))=tells 0 (ps.take i)++[s]) (hk:Keep (λk=>k=G.A∨k=G.B∨G.base≤k) w1 V) (hb1:Below V.heap.size V V1) (hD:DoR G V1 b p bv sv ns t bv2 sv2 ns2 ss2 t2 V2) (hb4:Below V2.heap.size V2 V4)
 (hown5:(V4.alloc o).ownsRow G.base 9 1 v i (strs (tells 0 (ps.take i)))) (hown6:W6.ownsRow G.base 9 1 v' (i+1) (strs (tells 0 (ps.take i))++[.string s])) (hg6:(V4.alloc o).grownBy W6 v.ownBlock) (hat:v'.ownBlock=v.ownBlock∨v'.ownBlock=some (V4.heap.size+1))
 (hap:∀k,v.ownBlock=some k→bv.ownBlock≠some k∧sv.ownBlock≠some k) (hns:ns≤i) (ht:t≤i) (hvl:∀k,v.ownBlock=some k→k<V1.heap.size) (hbase0:∀k,bv.ownBlock=some k∨sv.ownBlock=some k→G.base≤k):RunS G g0 ρ w w1 ps (i+1) v' bv2 sv2 ns2 ss2 t2 W6:=by
 obtain⟨hst2,hns1,ht20,ht21,hfb,hfs,hkD⟩:=hD
 have hle:G.base≤V2.heap.size:=hst2.bag.le
 have h45:Below V2.heap.size V2 (V4.alloc o):=hb4.alloc hb4.size o
 have hst4:=hst2.keep_new h45
 have hvb:∀k,v.ownBlock=some k→G.base≤k:=λk hk=>(World.ownsRow.lt hown5 k hk).1
 have hbb:∀k,bv2.ownBlock=some k→v.ownBlock≠some k:=λk hk e=>by
  rcases hfb k hk with h|h
  ·exact(hap k e).1 h
  ·have:=hvl k e;omega
 have hss:∀k,sv2.ownBlock=some k→v.ownBlock≠some k:=λk hk e=>by
  rcases hfs k hk with h|h
  ·exact(hap k e).2 h
  ·have:=hvl k e;omega
 have hlt2:G.A<G.base:=hst2.lt
 have hlt3:G.B<G.base:=hst2.bag.lt
 refine⟨?_,?_,by omega,ht20,by omega,?_,?_⟩
 ·rw[e1]
  exact hst4.keep (F:=λk=>v.ownBlock=some k) (Keep.grown hg6 λk h=>h) (λe=>by have:=hvb _ e;omega) (λe=>by have:=hvb _ e;omega) hbb hss
 ·have hV:V.heap.size≤V1.heap.size:=hb1.size
  have hw1:w1.heap.size≤V.heap.size:=hk.size
  have k1:Keep (λk=>k=G.A∨k=G.B∨G.base≤k) V V1:=Keep.of_below hb1 λk h1 h2=>absurd h1 (by omega)
  have k2:Keep (λk=>k=G.A∨k=G.B∨G.base≤k) V1 V2:=hkD.mono λk _ e=>by
   rcases e with e|e|e|e
   ·exact .inl e
   ·exact .inr (.inl e)
   ·exact .inr (.inr (hbase0 k (.inl e)))
   ·exact .inr (.inr (hbase0 k (.inr e)))
  have k3:Keep (λk=>k=G.A∨k=G.B∨G.base≤k) V2 (V4.alloc o):=Keep.of_below h45 λk h1 h2=>absurd h1 (by omega)
  have k4:Keep (λk=>k=G.A∨k=G.B∨G.base≤k) (V4.alloc o) W6:=Keep.grown hg6 λk h=>.inr (.inr (hvb k h))
  exact(((hk.trans k1).trans k2).trans k3).trans k4
 ·rw[e2]
  show W6.ownsRow _ _ _ _ _ ((tells 0 (ps.take i)++[s]).map Value.string)
  rw[List.map_append]
  exact hown6
 ·intro k hk'
  rcases hat with h|h
  ·rw[h]at hk'
   exact⟨λe=>hbb k e hk',λe=>hss k e hk'⟩
  ·rw[h]at hk'
   cases hk'
   have h1:=hb4.size
   exact⟨λe=>by have:=(World.ownsRow.lt hst2.bag.row _ e).2;omega,λe=>by have:=(World.ownsRow.lt hst2.sent _ e).2;omega⟩
end Go.Rm
set_option linter.unusedVariables false
set_option linter.unusedSimpArgs false
noncomputable section
namespace Go.Rm
open Go Go.Conc Go.Proofs Go.RowKit Go.Kn Go.Kx Go.Ry Go.Ev
open Go.Proofs.YthklkhndoojmfaaGreatDoor.Ev (act_ok may_ok clone_ok number_ok3 new_ok nodes_ok got_ok NP toldC)
def zeroN:List Value:=[.bool false,.int .i64 0,.int .i64 0,.int .i64 0,.int .i64 0,.int .i64 0,.int .i64 0,.int .i64 0]
def at61 (a:Act):Nat:=match a.tmps[61]? with|some (Value.int _ k)=>k.toNat|_=>0
theorem nodeC_one:toldC.toArray.all (·.oneCell')=true:=by simp[toldC,Value.oneCell']
theorem nodeC_there (W:World):(W.alloc (.cells zeroN.toArray 57)).there W.heap.size 0 toldC.toArray.size:=alloc_there W zeroN.toArray 57
theorem nodeC_range (W:World):((W.alloc (.cells zeroN.toArray 57)).setCells W.heap.size 0 toldC).rangeAt W.heap.size 0 toldC:=
 World.rangeAt_setCells_same _ W.heap.size 0 toldC (nodeC_there W)
def nums8 (j:Nat):List Int:=[(j:Int),0,0,0,0,0,0,0]
theorem nums8_cells (W:World) (j:Nat):∀(i:Nat) (h:i<(nums8 j).length),(W.alloc (.cells #[.int .i64 (j:Nat),.int .i64 0,.int .i64 0,.int .i64 0,.int .i64 0,.int .i64 0,.int .i64 0,.int .i64 0] 3)).cell? ⟨W.heap.size,i,none⟩=some (.int .i64 (nums8 j)[i]):=λi h=>by
 rw[World.cell?_alloc_at (w:=W) _ _ _ _ rfl]
 have h':i<8:=h
 match i,h' with
 |0,_|1,_|2,_|3,_|4,_|5,_|6,_|7,_=>rfl
theorem nums8_small (j:Nat) (hj:j≤3):∀x∈nums8 j,0≤x∧x≤1000:=λx hx=>by
 simp[nums8]at hx
 omega
theorem cons_of {α:Type} {n:Nat}:∀{l:List α},l.length=n+1→∃a r,l=a::r∧r.length=n
 |[],h=>by simp at h
 |a::r,h=>⟨a,r,rfl,by simpa using h⟩
structure RunN (G:Geo) (w1:World) (ps:List Nat) (bv sv:Value) (ns:Nat) (ss:List Value) (t:Int) (g o j:Nat) (v:Value) (V:World):Prop where
 st:Wst G V (bagOf ps) bv (rows (bagOf ps)) sv ns ss t
 keep:Keep (λk=>k=G.A∨k=G.B∨G.base≤k) w1 V
 own:V.ownsRow G.base 9 1 v (ps.length+j) (strs (tells 0 ps++lasts.take j))
 apart:∀k,v.ownBlock=some k→bv.ownBlock≠some k∧sv.ownBlock≠some k
 rng:∀i,i<3→V.rangeAt g (o+i*8) toldC
 gv:v.ownBlock≠some g
theorem strs_snoc (l:List ByteArray) (s:ByteArray):strs (l++[s])=strs l++[.string s]:=by simp[strs]
theorem lasts_take (j:Nat) (hj:j<4) (s:ByteArray) (hs:lasts[j]?=some s):lasts.take (j+1)=lasts.take j++[s]:=by
 rw[List.take_add_one,hs];rfl
theorem node_eq:∀j,j<3→lasts[j]?=some (wordsB ⟨#[110,111,100,101]⟩ (nums8 j))
 |0,_=>by kernel_rfl
 |1,_=>by kernel_rfl
 |2,_=>by kernel_rfl
theorem got_eq:lasts[3]?=some (wordsB ⟨#[103,111,116]⟩ [0]):=by kernel_rfl
theorem runN_next {G:Geo} {w1 V V5 W6:World} {ps:List Nat} {bv sv v v':Value} {ns:Nat} {ss:List Value} {t:Int} {g o j N:Nat} {s:ByteArray} (h:RunN G w1 ps bv sv ns ss t g o j v V) (hbase:G.base≤w1.heap.size) (hb:Below V.heap.size V V5) (hj:j<4) (hs:lasts[j]?=some s)
 (hown6:W6.ownsRow G.base 9 1 v' (ps.length+j+1) (strs (tells 0 ps++lasts.take j)++[.string s])) (hg6:V5.grownBy W6 v.ownBlock) (hat:v'.ownBlock=v.ownBlock∨v'.ownBlock=some N) (hN:V.heap.size≤N):RunN G w1 ps bv sv ns ss t g o (j+1) v' W6:=by
 obtain⟨hst,hk,hown,hap,hrng,hgv⟩:=h
 have hgl:g<V.heap.size:=World.block_lt_of_cell? V _ (hrng 0 (by omega) 0 _ rfl)
 have hst5:=hst.keep_new hb
 have hvb:∀k,v.ownBlock=some k→G.base≤k:=λk hk=>(World.ownsRow.lt hown k hk).1
 have hA:G.A<G.base:=hst.lt
 have hB:G.B<G.base:=hst.bag.lt
 have hw1:=hk.size
 have kg:Keep (λk=>v.ownBlock=some k) V5 W6:=Keep.grown hg6 λk h=>h
 refine⟨?_,?_,?_,?_,?_,?_⟩
 ·exact hst5.keep kg (λe=>by have:=hvb _ e;omega) (λe=>by have:=hvb _ e;omega) (λk e f=>(hap k f).1 e) (λk e f=>(hap k f).2 e)
 ·refine(hk.trans (Keep.of_below hb λk h1 h2=>absurd h1 (by omega))).trans (kg.mono λk _ e=>.inr (.inr (hvb k e)))
 ·rw[lasts_take j hj s hs,←List.append_assoc,strs_snoc]
  exact hown6
 ·intro k hk'
  rcases hat with h|h
  ·rw[h]at hk';exact hap k hk'
  ·rw[h]at hk'
   cases hk'
   exact⟨λe=>by have:=(World.ownsRow.lt hst.bag.row _ e).2;omega,λe=>by have:=(World.ownsRow.lt hst.sent _ e).2;omega⟩
 ·intro i hi k u hu
  exact kg.cell ((hb.cell hgl).trans (hrng i hi k u hu)) (λe=>hgv e)
 ·rcases hat with h|h
  ·rw[h];exact hgv
  ·rw[h];intro e;cases e;omega
set_option maxHeartbeats 4000000 in
theorem split_rest {l:List Value} (h:l.length=60):∃u58 u59 u60 u61 u62 u63 u64 u65 u66 u67 u68 u69 u70 u71 u72 u73 u74 u75 u76 u77 u78 u79 u80 u81 u82 u83 u84 u85 u86 u87 u88 u89 u90 u91 u92 u93 u94 u95 u96 rest,l=u58::u59::u60::u61::u62::u63::u64::u65::u66::u67::u68::u69::u70::u71::u72::u73::u74::u75::u76::u77::u78::u79::u80::u81::u82::u83::u84::u85::u86::u87::u88::u89::u90::u91::u92::u93::u94::u95::u96::rest∧rest.length=21:=by
 obtain⟨u58,l58,e58,h⟩:=cons_of h
 obtain⟨u59,l59,e59,h⟩:=cons_of h
 obtain⟨u60,l60,e60,h⟩:=cons_of h
 obtain⟨u61,l61,e61,h⟩:=cons_of h
 obtain⟨u62,l62,e62,h⟩:=cons_of h
 obtain⟨u63,l63,e63,h⟩:=cons_of h
 obtain⟨u64,l64,e64,h⟩:=cons_of h
 obtain⟨u65,l65,e65,h⟩:=cons_of h
 obtain⟨u66,l66,e66,h⟩:=cons_of h
 obtain⟨u67,l67,e67,h⟩:=cons_of h
 obtain⟨u68,l68,e68,h⟩:=cons_of h
 obtain⟨u69,l69,e69,h⟩:=cons_of h
 obtain⟨u70,l70,e70,h⟩:=cons_of h
 obtain⟨u71,l71,e71,h⟩:=cons_of h
 obtain⟨u72,l72,e72,h⟩:=cons_of h
 obtain⟨u73,l73,e73,h⟩:=cons_of h
 obtain⟨u74,l74,e74,h⟩:=cons_of h
 obtain⟨u75,l75,e75,h⟩:=cons_of h
 obtain⟨u76,l76,e76,h⟩:=cons_of h
 obtain⟨u77,l77,e77,h⟩:=cons_of h
 obtain⟨u78,l78,e78,h⟩:=cons_of h
 obtain⟨u79,l79,e79,h⟩:=cons_of h
 obtain⟨u80,l80,e80,h⟩:=cons_of h
 obtain⟨u81,l81,e81,h⟩:=cons_of h
 obtain⟨u82,l82,e82,h⟩:=cons_of h
 obtain⟨u83,l83,e83,h⟩:=cons_of h
 obtain⟨u84,l84,e84,h⟩:=cons_of h
 obtain⟨u85,l85,e85,h⟩:=cons_of h
 obtain⟨u86,l86,e86,h⟩:=cons_of h
 obtain⟨u87,l87,e87,h⟩:=cons_of h
 obtain⟨u88,l88,e88,h⟩:=cons_of h
 obtain⟨u89,l89,e89,h⟩:=cons_of h
 obtain⟨u90,l90,e90,h⟩:=cons_of h
 obtain⟨u91,l91,e91,h⟩:=cons_of h
 obtain⟨u92,l92,e92,h⟩:=cons_of h
 obtain⟨u93,l93,e93,h⟩:=cons_of h
 obtain⟨u94,l94,e94,h⟩:=cons_of h
 obtain⟨u95,l95,e95,h⟩:=cons_of h
 obtain⟨u96,l96,e96,h⟩:=cons_of h
 exact⟨u58,u59,u60,u61,u62,u63,u64,u65,u66,u67,u68,u69,u70,u71,u72,u73,u74,u75,u76,u77,u78,u79,u80,u81,u82,u83,u84,u85,u86,u87,u88,u89,u90,u91,u92,u93,u94,u95,u96,l96,by rw[e58,e59,e60,e61,e62,e63,e64,e65,e66,e67,e68,e69,e70,e71,e72,e73,e74,e75,e76,e77,e78,e79,e80,e81,e82,e83,e84,e85,e86,e87,e88,e89,e90,e91,e92,e93,e94,e95,e96],h⟩
set_option maxHeartbeats 4000000 in
theorem split_last {l:List Value} (h:l.length=21):∃u97 u98 u99 u100 u101 u102 u103 u104 u105 u106 u107 u108 u109 u110 u111 u112 u113 u114 u115 u116 u117,l=u97::u98::u99::u100::u101::u102::u103::u104::u105::u106::u107::u108::u109::u110::u111::u112::u113::u114::u115::u116::u117::[]:=by
 obtain⟨u97,l97,e97,h⟩:=cons_of h
 obtain⟨u98,l98,e98,h⟩:=cons_of h
 obtain⟨u99,l99,e99,h⟩:=cons_of h
 obtain⟨u100,l100,e100,h⟩:=cons_of h
 obtain⟨u101,l101,e101,h⟩:=cons_of h
 obtain⟨u102,l102,e102,h⟩:=cons_of h
 obtain⟨u103,l103,e103,h⟩:=cons_of h
 obtain⟨u104,l104,e104,h⟩:=cons_of h
 obtain⟨u105,l105,e105,h⟩:=cons_of h
 obtain⟨u106,l106,e106,h⟩:=cons_of h
 obtain⟨u107,l107,e107,h⟩:=cons_of h
 obtain⟨u108,l108,e108,h⟩:=cons_of h
 obtain⟨u109,l109,e109,h⟩:=cons_of h
 obtain⟨u110,l110,e110,h⟩:=cons_of h
 obtain⟨u111,l111,e111,h⟩:=cons_of h
 obtain⟨u112,l112,e112,h⟩:=cons_of h
 obtain⟨u113,l113,e113,h⟩:=cons_of h
 obtain⟨u114,l114,e114,h⟩:=cons_of h
 obtain⟨u115,l115,e115,h⟩:=cons_of h
 obtain⟨u116,l116,e116,h⟩:=cons_of h
 obtain⟨u117,l117,e117,h⟩:=cons_of h
 have e:=List.eq_nil_of_length_eq_zero h
 exact⟨u97,u98,u99,u100,u101,u102,u103,u104,u105,u106,u107,u108,u109,u110,u111,u112,u113,u114,u115,u116,u117,by rw[e97,e98,e99,e100,e101,e102,e103,e104,e105,e106,e107,e108,e109,e110,e111,e112,e113,e114,e115,e116,e117,e]⟩
set_option maxHeartbeats 4000000 in
theorem open_nodes {C:Act→World→Prop} {S:Nat→Value→World→Prop} {T:ByteArray} {n:Nat} {ao:Option Addr} {ac g o c:Nat} {pA:Value} {u1 u11 u12 u13 u16 u17 u18 u19 u20 u21 u22 u23 u24 u25 u26 u27 u28 u29 u30 u31 u32 u33 u34 u35 u36 u37 u41 u42 u43 u44 u45 u46 u47 u48 u49 u50 u51 u52 u53 u54 u55 u56 u57:Value} {rest:List Value}
 (h:∀(V:World) (j:Nat) (v u14 u15 u62 u63 u64 u65 u66 u67 u68 u69 u70 u71 u72 u73 u74 u75 u76 u77 u78 u79 u80 u81 u82 u83 u84 u85 u86 u87 u88 u89 u90 u91 u92 u93 u94 u95 u96:Value),j≤3→S j v V→C ⟨(.string T::u1::.string ⟨#[]⟩::.int .i64 0::.int .i64 0::.int .i64 3::.slice ao n ac::.int .i64 0::.int .i64 0::pA::v::u11::u12::u13::u14::u15::u16::u17::u18::u19::u20::u21::u22::u23::u24::u25::u26::u27::u28::u29::u30::u31::u32::u33::u34::u35::u36::u37::.slice ao n ac::.int .i64 (n:Nat)::.int .i64 (n:Nat)::u41::u42::u43::u44::u45::u46::u47::u48::u49::u50::u51::u52::u53::u54::u55::u56::u57::pA::.slice (some ⟨g,o,none⟩) 3 c::.int .i64 3::.int .i64 (j:Nat)::u62::u63::u64::u65::u66::u67::u68::u69::u70::u71::u72::u73::u74::u75::u76::u77::u78::u79::u80::u81::u82::u83::u84::u85::u86::u87::u88::u89::u90::u91::u92::u93::u94::u95::u96::rest).toArray,[]⟩ V):
 ∀a V,(∃(j:Nat) (v u14 u15 u62 u63 u64 u65 u66 u67 u68 u69 u70 u71 u72 u73 u74 u75 u76 u77 u78 u79 u80 u81 u82 u83 u84 u85 u86 u87 u88 u89 u90 u91 u92 u93 u94 u95 u96:Value),j≤3∧S j v V∧a=⟨(.string T::u1::.string ⟨#[]⟩::.int .i64 0::.int .i64 0::.int .i64 3::.slice ao n ac::.int .i64 0::.int .i64 0::pA::v::u11::u12::u13::u14::u15::u16::u17::u18::u19::u20::u21::u22::u23::u24::u25::u26::u27::u28::u29::u30::u31::u32::u33::u34::u35::u36::u37::.slice ao n ac::.int .i64 (n:Nat)::.int .i64 (n:Nat)::u41::u42::u43::u44::u45::u46::u47::u48::u49::u50::u51::u52::u53::u54::u55::u56::u57::pA::.slice (some ⟨g,o,none⟩) 3 c::.int .i64 3::.int .i64 (j:Nat)::u62::u63::u64::u65::u66::u67::u68::u69::u70::u71::u72::u73::u74::u75::u76::u77::u78::u79::u80::u81::u82::u83::u84::u85::u86::u87::u88::u89::u90::u91::u92::u93::u94::u95::u96::rest).toArray,[]⟩)→C a V:=by
 rintro a V ⟨j,v,u14,u15,u62,u63,u64,u65,u66,u67,u68,u69,u70,u71,u72,u73,u74,u75,u76,u77,u78,u79,u80,u81,u82,u83,u84,u85,u86,u87,u88,u89,u90,u91,u92,u93,u94,u95,u96,h1,h2,rfl⟩
 exact h V j v u14 u15 _ _ _ _ _ _ _ _ _ _ _ _ _ _ _ _ _ _ _ _ _ _ _ _ _ _ _ _ _ _ _ _ _ _ _ h1 h2
end Go.Rm
