/-
  The world's Do at a drop and a doubling at any place: walked.
-/
import Derived.Test.YticddijkkbcdmaaGreatRbC
set_option linter.unusedVariables false
set_option linter.unusedSimpArgs false
noncomputable section
namespace Go.Rm
open Go Go.Conc Go.Proofs Go.RowKit Go.Kn Go.Ry
section
variable {G:Geo} {W:World} {b:Nat} {bv:Value} {xs:List Value} {sv:Value} {ns:Nat} {ss:List Value} {t:Int}
set_option maxHeartbeats 2000000 in
set_option maxRecDepth 100000 in
theorem do_dropK (h:Wst G W b bv xs sv ns ss t) (k:Nat) (hk:k<b) (hb:b≤1000) (ht0:0≤t) (ht:t≤1000)
 (hmay:∀V,Below W.heap.size W V→Calls Tryz.prog 13 #[.pointer (some ⟨G.A,G.oA,none⟩),.agg (actC 1 k).toArray] V λe w'=>e=.returned (.bool true)∧Below V.heap.size V w'):
 Calls Tryz.prog 6 #[.pointer (some ⟨G.A,G.oA,none⟩),.agg (actC 1 k).toArray] W λe w'=>e=.returned (.int .i64 0)∧∃bv',Wst G w' (b-1) bv' (xs.take (k*20)++xs.drop ((k+1)*20)) sv ns ss (t+1)∧Fresh W bv bv'∧Keep (λk=>k=G.A∨k=G.B∨bv.ownBlock=some k) W w':=by
 have hA:=h.lt'
 have hbw:Hid (∀o,Below W.heap.size W (W.alloc o)):=λo=>Below.alloc (Below.refl _ _) (Nat.le_refl _) o
 have mixed:Tryz.prog.follows .mixedOrders=true:=by kernel_rfl
 obtain⟨cs,hcs,hcl⟩:∃cs:List Value,cs=actC 1 k∧cs.length=24:=⟨_,rfl,rfl⟩
 have hk0:cs[0]?=some (.int .i64 1):=by rw[hcs];rfl
 have hk1:cs[1]?=some (.int .i64 (k:Nat)):=by rw[hcs];rfl
 rw[←hcs]at hmay⊢
 have hbox:∀j v,cs[j]?=some v→(W.alloc (.cells cs.toArray 36)).cell? ⟨W.heap.size,j,none⟩=some v:=λj v hv=>by
  rw[World.cell?_alloc_at (w:=W) _ _ _ _ rfl,List.getElem?_toArray];exact hv
 have hrg:Hid ((W.alloc (.cells cs.toArray 36)).rangeAt W.heap.size 0 cs):=λj v hv=>by rw[Nat.zero_add];exact hbox j v hv
 have hi:(Tryz.prog.info? 36).map (·.size)=some cs.length:=by rw[hcl];kernel_rfl
 have hN:W.heap.size<(W.alloc (.cells cs.toArray 36)).heap.size:=by rw[World.size_alloc];omega
 have hcall:Hid (Calls Tryz.prog 13 #[.pointer (some ⟨G.A,G.oA,none⟩),.agg cs.toArray] (W.alloc (.cells cs.toArray 36)) λe w'=>e=.returned (.bool true)∧DoF G W b bv xs sv ns ss t (.int .i64 1) (.int .i64 (k:Nat)) w'):=
  (hmay _ (hbw.out _)).mono λe w' ⟨h1,h2⟩=>⟨h1,(hbw.out _).trans (h2.mono (hbw.out _).size),h.keep_new ((hbw.out _).trans (h2.mono (hbw.out _).size)),Nat.lt_of_lt_of_le hN h2.size,(h2.cell hN).trans (hbox 0 _ hk0),(h2.cell hN).trans (hbox 1 _ hk1)⟩
 clear hmay hcs hcl hk0 hk1 hbox hN hbw
 have hwr:IntKind.i64.wrap (t+1)=t+1:=by simp[IntKind.wrap,IntKind.bits,IntKind.signed];omega
 refine calls_of_wpN Tryz.func6 rfl ?_
 simp only[Tryz.ntmps6,List.size_toArray,List.length_cons,List.length_nil,Nat.reduceAdd,Nat.reduceSub,Array.replicate_succ,
  Array.replicate_zero,List.push_toArray,List.append_toArray,List.nil_append,List.cons_append]
 refine wpN_seq (of_wp ?_)
 go_wp2
 refine wpN_seq (wpN_block ?_)
 refine wpN_seq (of_wp ?_)
 go_wp2
 refine wpN_cond (t:=false) rfl ?_
 rw[if_neg (by decide)]
 refine wpN_seq (of_wp ?_)
 go_wp2_with (first|(refine wpList_load_mid (op:={dst:=some 10,op:=.load 36 (.tmp 3),type:=_,pos:=_,after:=_,guard:=none}) rfl 36 (.tmp 3) rfl W.heap.size 0 rfl cs _ ?hr1 Tryz.underlying36 rfl hi ?_;case hr1=>exact hrg.out)|(go_at_call 13;refine Calls.mono hcall.out ?_;rintro e V ⟨rfl,hF⟩))
 clear hcall hrg hi
 have hct:=hF.st.timec
 have hft:=hF.st.sentf 5 (by omega)
 have hG:=hF.tick hA
 clear hF
 refine of_wp ?_
 go_wp2
 refine wpN_seq (of_wp ?_)
 go_wp2
 refine(λ(h:∀V3,DoG G W b bv xs sv ns ss (t+1) (.int .i64 1) (.int .i64 (k:Nat)) V3→WpN Tryz.prog _ _ _ V3)=>h _ hG) ?_
 clear hG hct hft
 intro V3 hG
 have hN:W.heap.size<V3.heap.size:=hG.size
 have hst:Hid _:=hG.st
 have hkp:Hid _:=hG.keep
 have hn0:=hG.k0
 have hn1:=hG.k1
 have hbp:=hG.st.bagp
 have hdrop:=drop_ok (hG.st.bag.keep (F:=λ_=>False) (Keep.drew V3) (λh=>h) (λ_ _ h=>h)) k hk hb
 have hdropH:Hid _:=hdrop
 clear hG hdrop
 refine wpN_seq ?_
 refine wpN_seq (of_wp ?_)
 go_wp2
 refine wpN_block ?_
 refine wpN_seq (of_wp ?_)
 go_wp2
 refine wpN_cond (t:=false) rfl ?_
 rw[if_neg (by decide)]
 refine wpN_seq (of_wp ?_)
 go_wp2
 refine wpN_cond (t:=true) rfl ?_
 rw[if_pos rfl]
 refine of_wp ?_
 refine wp_region_noPanic (wp_region_steps 6 [(0,true),(1,true),(2,true),(3,true),(4,true),(5,true)] (λV=>V.cell? ⟨G.A,G.oA+2,none⟩=some (.pointer (some ⟨G.B,G.oB,none⟩))∧V.cell? ⟨W.heap.size,1,none⟩=some (.int .i64 (k:Nat))) mixed (by kernel_rfl) (λ_ _ _ _ h=>h.elim) ⟨hbp,hn1⟩ ?_)
 refine step_take2 (v:=?v0) (a':=?a0) rfl (y_runG (by first|rfl|simp[Region.wanted,yielded,Act.put,Act.eval]) λw hS=>?p0) ?h0 ?_
 case p0=>obtain⟨hs1,hs2⟩:=hS;go_simp;try exact rfl
 case h0=>go_simp;exact rfl
 refine step_take2 (v:=?v1) (a':=?a1) rfl (y_runG (by first|rfl|simp[Region.wanted,yielded,Act.put,Act.eval]) λw hS=>?p1) ?h1 ?_
 case p1=>obtain⟨hs1,hs2⟩:=hS;go_simp;try exact rfl
 case h1=>go_simp;exact rfl
 refine step_take2 (v:=?v2) (a':=?a2) rfl (y_runG (by first|rfl|simp[Region.wanted,yielded,Act.put,Act.eval]) λw hS=>?p2) ?h2 ?_
 case p2=>obtain⟨hs1,hs2⟩:=hS;go_simp;try exact rfl
 case h2=>go_simp;exact rfl
 refine step_take2 (v:=?v3) (a':=?a3) rfl (y_runG (by first|rfl|simp[Region.wanted,yielded,Act.put,Act.eval]) λw hS=>?p3) ?h3 ?_
 case p3=>obtain⟨hs1,hs2⟩:=hS;go_simp;try exact rfl
 case h3=>go_simp;exact rfl
 refine step_take2 (v:=?v4) (a':=?a4) rfl (y_runG (by first|rfl|simp[Region.wanted,yielded,Act.put,Act.eval]) λw hS=>?p4) ?h4 ?_
 case p4=>obtain⟨hs1,hs2⟩:=hS;go_simp;try exact rfl
 case h4=>go_simp;exact rfl
 refine step_take2 (v:=?v5) (a':=?a5) rfl (y_runG (by first|rfl|simp[Region.wanted,yielded,Act.put,Act.eval]) λw hS=>?p5) ?h5 ?_
 case p5=>obtain⟨hs1,hs2⟩:=hS;go_simp;try exact rfl
 case h5=>go_simp;exact rfl
 refine step_nil ?_
 simp only[List.drop_succ_cons,List.drop_zero]
 go_wp2_with (go_at_call 15;refine Calls.mono hdropH.out ?_;rintro e V4 ⟨rfl,bv',hst4,hfr4,hk4⟩;replace hst4:Hid _:=hst4;replace hfr4:Hid _:=hfr4;replace hk4:Hid _:=hk4)
 refine NoPanic.normal ?_
 have hres:=hst.out.rebag hst4.out (λk hk=>(hfr4.out k hk)) ((Keep.drew V3).trans hk4.out)
 have hkf:Keep (λk=>k=G.A∨k=G.B∨bv.ownBlock=some k) W V4:=(hkp.out.mono λk _ e=>.inl e).trans (((Keep.drew V3).trans hk4.out).mono λk _ e=>.inr e)
 have hfw:Fresh W bv bv':=λk hk=>(hfr4.out k hk).imp id λe=>by have e2:V3.drew.heap.size=V3.heap.size:=rfl;omega
 have hresH:Hid _:=hres
 have hkfH:Hid _:=hkf
 have hfwH:Hid _:=hfw
 clear hres hkf hfw hst4 hfr4 hk4 hkp hst hdropH
 refine wpN_seq (of_wp ?_)
 go_wp2
 refine of_wp ?_
 go_wp2
 go_ret
 exact⟨rfl,bv',hresH.out,hfwH.out,hkfH.out⟩
set_option maxHeartbeats 2000000 in
set_option maxRecDepth 100000 in
theorem do_double (h:Wst G W b bv xs sv ns ss t) (k:Nat) (hk:k<b) (hb:b≤900) (mc:List Value) (hmc:mc=(xs.drop (k*20)).take 20) (I:World→Prop) (g0:Nat) (hI:I W) (hIk:∀V V',I V→Below g0 V V'→I V') (hgA:g0≤G.A) (hgB:g0≤G.B) (hgb:g0≤G.base)
 (hcl:∀V,I V→Calls Tryz.prog 22 #[.agg mc.toArray] V λe w'=>e=.returned (.agg mc.toArray)∧Below V.heap.size V w') (ht0:0≤t) (ht:t≤1000)
 (hmay:∀V,Below W.heap.size W V→Calls Tryz.prog 13 #[.pointer (some ⟨G.A,G.oA,none⟩),.agg (actC 2 k).toArray] V λe w'=>e=.returned (.bool true)∧Below V.heap.size V w'):
 Calls Tryz.prog 6 #[.pointer (some ⟨G.A,G.oA,none⟩),.agg (actC 2 k).toArray] W λe w'=>e=.returned (.int .i64 0)∧∃bv',Wst G w' (b+1) bv' (xs++mc) sv ns ss (t+1)∧Fresh W bv bv'∧Keep (λk=>k=G.A∨k=G.B∨bv.ownBlock=some k) W w':=by
 have hA:=h.lt'
 have hmcH:Hid _:=hmc
 clear hmc
 have hbw:Hid (∀o,Below W.heap.size W (W.alloc o)):=λo=>Below.alloc (Below.refl _ _) (Nat.le_refl _) o
 have mixed:Tryz.prog.follows .mixedOrders=true:=by kernel_rfl
 obtain⟨cs,hcs,hcl⟩:∃cs:List Value,cs=actC 2 k∧cs.length=24:=⟨_,rfl,rfl⟩
 have hk0:cs[0]?=some (.int .i64 2):=by rw[hcs];rfl
 have hk1:cs[1]?=some (.int .i64 (k:Nat)):=by rw[hcs];rfl
 rw[←hcs]at hmay⊢
 have hbox:∀j v,cs[j]?=some v→(W.alloc (.cells cs.toArray 36)).cell? ⟨W.heap.size,j,none⟩=some v:=λj v hv=>by
  rw[World.cell?_alloc_at (w:=W) _ _ _ _ rfl,List.getElem?_toArray];exact hv
 have hrg:Hid ((W.alloc (.cells cs.toArray 36)).rangeAt W.heap.size 0 cs):=λj v hv=>by rw[Nat.zero_add];exact hbox j v hv
 have hi:(Tryz.prog.info? 36).map (·.size)=some cs.length:=by rw[hcl];kernel_rfl
 have hN:W.heap.size<(W.alloc (.cells cs.toArray 36)).heap.size:=by rw[World.size_alloc];omega
 have hcall:Hid (Calls Tryz.prog 13 #[.pointer (some ⟨G.A,G.oA,none⟩),.agg cs.toArray] (W.alloc (.cells cs.toArray 36)) λe w'=>e=.returned (.bool true)∧DoF G W b bv xs sv ns ss t (.int .i64 2) (.int .i64 (k:Nat)) w'):=
  (hmay _ (hbw.out _)).mono λe w' ⟨h1,h2⟩=>⟨h1,(hbw.out _).trans (h2.mono (hbw.out _).size),h.keep_new ((hbw.out _).trans (h2.mono (hbw.out _).size)),Nat.lt_of_lt_of_le hN h2.size,(h2.cell hN).trans (hbox 0 _ hk0),(h2.cell hN).trans (hbox 1 _ hk1)⟩
 clear hmay hcs hcl hk0 hk1 hbox hN hbw
 have hwr:IntKind.i64.wrap (t+1)=t+1:=by simp[IntKind.wrap,IntKind.bits,IntKind.signed];omega
 refine calls_of_wpN Tryz.func6 rfl ?_
 simp only[Tryz.ntmps6,List.size_toArray,List.length_cons,List.length_nil,Nat.reduceAdd,Nat.reduceSub,Array.replicate_succ,
  Array.replicate_zero,List.push_toArray,List.append_toArray,List.nil_append,List.cons_append]
 refine wpN_seq (of_wp ?_)
 go_wp2
 refine wpN_seq (wpN_block ?_)
 refine wpN_seq (of_wp ?_)
 go_wp2
 refine wpN_cond (t:=false) rfl ?_
 rw[if_neg (by decide)]
 refine wpN_seq (of_wp ?_)
 go_wp2_with (first|(refine wpList_load_mid (op:={dst:=some 10,op:=.load 36 (.tmp 3),type:=_,pos:=_,after:=_,guard:=none}) rfl 36 (.tmp 3) rfl W.heap.size 0 rfl cs _ ?hr1 Tryz.underlying36 rfl hi ?_;case hr1=>exact hrg.out)|(go_at_call 13;refine Calls.mono hcall.out ?_;rintro e V ⟨rfl,hF⟩))
 clear hcall hrg hi
 have hct:=hF.st.timec
 have hft:=hF.st.sentf 5 (by omega)
 have hG:=hF.tick hA
 clear hF
 refine of_wp ?_
 go_wp2
 refine wpN_seq (of_wp ?_)
 go_wp2
 refine(λ(h:∀V3,DoG G W b bv xs sv ns ss (t+1) (.int .i64 2) (.int .i64 (k:Nat)) V3→WpN Tryz.prog _ _ _ V3)=>h _ hG) ?_
 clear hG hct hft
 intro V3 hG
 have hN:W.heap.size<V3.heap.size:=hG.size
 have hst:Hid _:=hG.st
 have hkp:Hid _:=hG.keep
 have hn0:=hG.k0
 have hn1:=hG.k1
 have hbp:=hG.st.bagp
 have hI3:I V3.drew:=hIk W _ hI (((hG.keep).below (by have:=h.lt';omega) (λk hk e=>by omega)).drew)
 have hdrop:=copy_ok (hG.st.bag.keep (F:=λ_=>False) (Keep.drew V3) (λh=>h) (λ_ _ h=>h)) k hk hb mc hmcH.out I g0 hI3 hIk (by show g0≤V3.heap.size;have:=h.lt';omega) hgB hgb hcl
 have hdropH:Hid _:=hdrop
 clear hG hdrop
 refine wpN_seq ?_
 refine wpN_seq (of_wp ?_)
 go_wp2
 refine wpN_block ?_
 refine wpN_seq (of_wp ?_)
 go_wp2
 refine wpN_cond (t:=false) rfl ?_
 rw[if_neg (by decide)]
 refine wpN_seq (of_wp ?_)
 go_wp2
 refine wpN_cond (t:=false) rfl ?_
 rw[if_neg (by decide)]
 refine wpN_seq (of_wp ?_)
 go_wp2
 refine wpN_cond (t:=true) rfl ?_
 rw[if_pos rfl]
 refine of_wp ?_
 refine wp_region_noPanic (wp_region_steps 6 [(0,true),(1,true),(2,true),(3,true),(4,true),(5,true)] (λV=>V.cell? ⟨G.A,G.oA+2,none⟩=some (.pointer (some ⟨G.B,G.oB,none⟩))∧V.cell? ⟨W.heap.size,1,none⟩=some (.int .i64 (k:Nat))) mixed (by kernel_rfl) (λ_ _ _ _ h=>h.elim) ⟨hbp,hn1⟩ ?_)
 refine step_take2 (v:=?v0) (a':=?a0) rfl (y_runG (by first|rfl|simp[Region.wanted,yielded,Act.put,Act.eval]) λw hS=>?p0) ?h0 ?_
 case p0=>obtain⟨hs1,hs2⟩:=hS;go_simp;try exact rfl
 case h0=>go_simp;exact rfl
 refine step_take2 (v:=?v1) (a':=?a1) rfl (y_runG (by first|rfl|simp[Region.wanted,yielded,Act.put,Act.eval]) λw hS=>?p1) ?h1 ?_
 case p1=>obtain⟨hs1,hs2⟩:=hS;go_simp;try exact rfl
 case h1=>go_simp;exact rfl
 refine step_take2 (v:=?v2) (a':=?a2) rfl (y_runG (by first|rfl|simp[Region.wanted,yielded,Act.put,Act.eval]) λw hS=>?p2) ?h2 ?_
 case p2=>obtain⟨hs1,hs2⟩:=hS;go_simp;try exact rfl
 case h2=>go_simp;exact rfl
 refine step_take2 (v:=?v3) (a':=?a3) rfl (y_runG (by first|rfl|simp[Region.wanted,yielded,Act.put,Act.eval]) λw hS=>?p3) ?h3 ?_
 case p3=>obtain⟨hs1,hs2⟩:=hS;go_simp;try exact rfl
 case h3=>go_simp;exact rfl
 refine step_take2 (v:=?v4) (a':=?a4) rfl (y_runG (by first|rfl|simp[Region.wanted,yielded,Act.put,Act.eval]) λw hS=>?p4) ?h4 ?_
 case p4=>obtain⟨hs1,hs2⟩:=hS;go_simp;try exact rfl
 case h4=>go_simp;exact rfl
 refine step_take2 (v:=?v5) (a':=?a5) rfl (y_runG (by first|rfl|simp[Region.wanted,yielded,Act.put,Act.eval]) λw hS=>?p5) ?h5 ?_
 case p5=>obtain⟨hs1,hs2⟩:=hS;go_simp;try exact rfl
 case h5=>go_simp;exact rfl
 refine step_nil ?_
 simp only[List.drop_succ_cons,List.drop_zero]
 go_wp2_with (go_at_call 16;refine Calls.mono hdropH.out ?_;rintro e V4 ⟨rfl,bv',hst4,hfr4,hk4⟩;replace hst4:Hid _:=hst4;replace hfr4:Hid _:=hfr4;replace hk4:Hid _:=hk4)
 refine NoPanic.normal ?_
 have hres:=hst.out.rebag hst4.out (λk hk=>(hfr4.out k hk)) ((Keep.drew V3).trans hk4.out)
 have hkf:Keep (λk=>k=G.A∨k=G.B∨bv.ownBlock=some k) W V4:=(hkp.out.mono λk _ e=>.inl e).trans (((Keep.drew V3).trans hk4.out).mono λk _ e=>.inr e)
 have hfw:Fresh W bv bv':=λk hk=>(hfr4.out k hk).imp id λe=>by have e2:V3.drew.heap.size=V3.heap.size:=rfl;omega
 have hresH:Hid _:=hres
 have hkfH:Hid _:=hkf
 have hfwH:Hid _:=hfw
 clear hres hkf hfw hst4 hfr4 hk4 hkp hst hdropH
 refine wpN_seq (of_wp ?_)
 go_wp2
 refine of_wp ?_
 go_wp2
 go_ret
 exact⟨rfl,bv',hresH.out,hfwH.out,hkfH.out⟩
end
end Go.Rm
set_option linter.unusedVariables false
set_option linter.unusedSimpArgs false
noncomputable section
namespace Go.Rm
open Go Go.Conc Go.Proofs Go.RowKit Go.Kn Go.Ry
section
variable {G:Geo} {W:World} {b:Nat} {bv:Value} {xs:List Value} {sv:Value} {ns:Nat} {ss:List Value} {t:Int}
theorem client_one (V:World):Calls Tryz.prog 39 #[.int .i64 1] V λe w'=>e=.returned (.bool false)∧w'=V:=by
 go_enter Tryz.func39,Tryz.ntmps39
 go_wp2
 go_ret
 exact⟨rfl,rfl⟩
set_option maxHeartbeats 2000000 in
set_option maxRecDepth 100000 in
theorem up_one (h:Wst G W b bv xs sv ns ss t) (gn on c:Nat) (hn:G.nd=.slice (some ⟨gn,on,none⟩) 3 c) (p1:Addr) (hp:W.cell? ⟨gn,on+1,none⟩=some (.pointer (some p1))):Calls Tryz.prog 34 #[.pointer (some ⟨G.A,G.oA,none⟩),.int .i64 1] W λe w'=>e=.returned (.pointer (some p1))∧w'=W:=by
 have hc:=h.nodes
 rw[hn]at hc
 clear h hn
 go_enter Tryz.func34,Tryz.ntmps34
 go_wp2
 go_ret
 exact⟨rfl,rfl⟩
structure DlvF (G:Geo) (V1:World) (b:Nat) (bv:Value) (xs:List Value) (sv:Value) (ns:Nat) (ss:List Value) (t:Int) (N:Nat) (mc:List Value) (V:World):Prop where
 below:Below N V1 V
 st:Wst G V b bv xs sv ns ss t
 range:V.rangeAt N 0 mc
 lt:N<V.heap.size
theorem dlv_put {V2 W3:World} (hst:Wst G V2 b bv xs sv ns ss t) {Fn:Nat→Prop} (hk3:Keep (λk=>Fn k∨V2.heap.size≤k) V2 W3) (hFn:∀k,Fn k→k<G.base∧k≠G.A∧k≠G.B) (am:List Value) (haml:am.length=20) (hamo:∀u∈am,u.oneCell'=true) (hb:b≤900) (g o c:Nat) (hr3:W3.rangeAt g o am)
 (J:World→Prop) (hJ3:J W3) (hJk:∀V V',J V→Keep (λk=>k=G.A∨k=G.B∨G.base≤k) V V'→J V')
 (hcl:∀V,J V→Calls Tryz.prog 22 #[.agg am.toArray] V λe w'=>e=.returned (.agg am.toArray)∧Below V.heap.size V w'):
 Calls Tryz.prog 17 #[.pointer (some ⟨G.A,G.oA,none⟩),.slice (some ⟨g,o,none⟩) 1 c] W3 λe w'=>e=.returned (.tuple #[])∧∃bv',Wst G w' (b+1) bv' (xs++am) sv ns ss t∧Fresh W3 bv bv'∧Keep (λk=>k=G.B∨bv.ownBlock=some k) W3 w':=by
 have hA:=hst.lt'
 have hBl:G.B<V2.heap.size:=World.block_lt_of_cell? _ _ hst.bag.cell
 have hst3:Wst G W3 b bv xs sv ns ss t:=hst.keep hk3 (λe=>e.elim (λe=>(hFn _ e).2.1 rfl) λe=>by omega) (λe=>e.elim (λe=>(hFn _ e).2.2 rfl) λe=>by omega)
  (λk hk e=>by have:=hst.bag.row.lt k hk;exact e.elim (λe=>by have:=(hFn _ e).1;omega) λe=>by omega) (λk hk e=>by have:=hst.sent.lt k hk;exact e.elim (λe=>by have:=(hFn _ e).1;omega) λe=>by omega)
 exact(put1_ok hst3 am haml hamo hb g o c hr3 J G.base hJ3 (λV V' hV hb=>hJk V V' hV (Keep.of_below hb λk _ e=>.inr (.inr e))) hst3.bag.le hcl).mono λe w' ⟨h1,h2⟩=>⟨h1,h2.res⟩
set_option maxHeartbeats 4000000 in
set_option maxRecDepth 100000 in
theorem deliver_ok (h:Wst G W (b+1) bv xs sv ns ss t) (hb:b≤900) (mc am:List Value) (hmc:mc=(xs.drop (0*20)).take 20) (hto:mc[2]?=some (.int .i64 1)) (haml:am.length=20) (hamo:∀u∈am,u.oneCell'=true)
 (J:World→Prop) (Fn:Nat→Prop) (hJ:J W) (hJk:∀V V',J V→Keep (λk=>k=G.A∨k=G.B∨G.base≤k) V V'→J V') (hFn:∀k,Fn k→k<G.base∧k≠G.A∧k≠G.B)
 (gn on cn:Nat) (hn:G.nd=.slice (some ⟨gn,on,none⟩) 3 cn) (p1:Addr) (hp:∀V,J V→V.cell? ⟨gn,on+1,none⟩=some (.pointer (some p1)))
 (hrec:∀V,J V→Calls Tryz.prog 40 #[.pointer (some p1),.agg mc.toArray] V λe w'=>∃g o c,e=.returned (.slice (some ⟨g,o,none⟩) 1 c)∧w'.rangeAt g o am∧J w'∧Keep (λk=>Fn k∨V.heap.size≤k) V w')
 (hcl:∀V,J V→Calls Tryz.prog 22 #[.agg am.toArray] V λe w'=>e=.returned (.agg am.toArray)∧Below V.heap.size V w'):
 Calls Tryz.prog 14 #[.pointer (some ⟨G.A,G.oA,none⟩),.int .i64 0] W λe w'=>e=.returned (.tuple #[])∧J w'∧∃bv',Wst G w' (b+1) bv' (xs.drop 20++am) sv ns ss t∧Fresh W bv bv'∧Keep (λk=>k=G.B∨bv.ownBlock=some k∨Fn k) W w':=by
 have hxl:xs.length=(b+1)*20:=h.bag.row.1
 have hml:mc.length=20:=by rw[hmc,List.length_take,List.length_drop];omega
 have hmo:∀u∈mc,u.oneCell'=true:=λu hu=>h.bag.one u (List.mem_of_mem_drop (List.mem_of_mem_take (hmc▸hu)))
 have hmo':mc.toArray.all (·.oneCell')=true:=Array.all_eq_true_iff_forall_mem.2 λu hu=>hmo u (by simpa using hu)
 have hiM:(Tryz.prog.info? 34).map (·.size)=some mc.length:=by rw[hml];kernel_rfl
 have hms:mc.toArray.size=20:=by rw[List.size_toArray];exact hml
 have htake:Hid _:=take_ok h.bag 0 (Nat.succ_pos b) (by omega)
 rw[←hmc]at htake
 have hbp:=h.bagp
 have hA:=h.lt'
 have hBl:G.B<W.heap.size:=World.block_lt_of_cell? _ _ h.bag.cell
 have hle:=h.bag.le
 have hbvl:∀k,bv.ownBlock=some k→G.base≤k∧k<W.heap.size:=λk hk=>h.bag.row.lt k hk
 have hbvH:Hid _:=hbvl
 have hH:Hid _:=h
 clear hmc hbvl h
 refine calls_of_wpN Tryz.func14 rfl ?_
 simp only[Tryz.ntmps14,List.size_toArray,List.length_cons,List.length_nil,Nat.reduceAdd,Nat.reduceSub,Array.replicate_succ,
  Array.replicate_zero,List.push_toArray,List.append_toArray,List.nil_append,List.cons_append]
 refine wpN_seq (of_wp ?_)
 go_wp2_with (first|(go_at_call 38;refine Calls.mono htake.out ?_;rintro e V1 ⟨rfl,bv1,hb1,hf1,hk1⟩;have hth:Hid ((V1.alloc (.cells zM.toArray 34)).there V1.heap.size 0 mc.toArray.size):=(by rw[hms];exact zeroM_there V1))|(refine wpList_store_mid (op:={dst:=none,op:=.store 34 (.tmp 4) (.tmp 14),type:=_,pos:=_,after:=_,guard:=none}) rfl 34 (.tmp 4) (.tmp 14) rfl V1.heap.size 0 mc.toArray rfl rfl ?ht hiM hmo' ?_;case ht=>exact hth.out))
 have el:xs.take (0*20)++xs.drop ((0+1)*20)=xs.drop 20:=by simp
 have hst1:=hH.out.rebag hb1 hf1 hk1
 rw[el,Nat.add_sub_cancel]at hst1
 have hs1:W.heap.size≤V1.heap.size:=hk1.size
 have hF:DlvF G V1 b bv1 (xs.drop 20) sv ns ss t V1.heap.size mc ((V1.alloc (.cells zM.toArray 34)).setCells V1.heap.size 0 mc):=by
  have hbb:Below V1.heap.size V1 ((V1.alloc (.cells zM.toArray 34)).setCells V1.heap.size 0 mc):=setCells_below (Below.refl _ _) V1.heap.size (Nat.le_refl _) mc 0 _ ((Below.refl _ _).alloc (Nat.le_refl _) _)
  exact⟨hbb,hst1.keep_new hbb,World.rangeAt_setCells_same _ _ _ _ (by rw[←List.size_toArray];exact hth.out),by rw[size_setCells',World.size_alloc];omega⟩
 have hJ1:J V1:=hJk W V1 hJ (hk1.mono λk _ e=>e.elim (λe=>.inr (.inl e)) λe=>.inr (.inr (hbvH.out k e).1))
 have hb1l:∀k,bv1.ownBlock=some k→G.base≤k∧(bv.ownBlock=some k∨W.heap.size≤k):=λk hk=>⟨(hb1.row.lt k hk).1,hf1 k hk⟩
 have hk1H:Hid _:=hk1
 have hb1H:Hid _:=hb1l
 refine(λ(h:∀V2,DlvF G V1 b bv1 (xs.drop 20) sv ns ss t V1.heap.size mc V2→WpN Tryz.prog _ _ _ V2)=>h _ hF) ?_
 obtain⟨N,hN⟩:∃N,V1.heap.size=N:=⟨_,rfl⟩
 clear hF hth htake hst1 hb1 hf1 hk1 hb1l el hbp
 rw[hN]
 intro V2 hF
 have hJ2:J V2:=hJk V1 V2 hJ1 (Keep.of_below hF.below λk _ e=>.inr (.inr (by omega)))
 have hc2:V2.cell? ⟨N,2,none⟩=some (.int .i64 1):=by have:=hF.range 2 _ hto;rwa [Nat.zero_add]at this
 have hup:Hid _:=up_one hF.st gn on cn hn p1 (hp V2 hJ2)
 have hrc:Hid _:=hrec V2 hJ2
 have hrg:Hid _:=hF.range
 have hst2:Hid _:=hF.st
 have hbl2:Hid _:=hF.below
 have hlt2:=hF.lt
 have hHle:G.base≤N:=by omega
 have hltA:=hF.st.lt
 have hltB:=hF.st.bag.lt
 clear hF hJ1
 refine wpN_seq (of_wp ?_)
 go_wp2_with (go_at_call 39;refine(client_one _).mono ?_;rintro e W9 ⟨rfl,hW9⟩;have h9:=hW9.symm;clear hW9;subst h9)
 refine wpN_seq (of_wp ?_)
 go_wp2_with (go_at_call 34;refine Calls.mono hup.out ?_;rintro e W9 ⟨rfl,hW9⟩;have h9:=hW9.symm;clear hW9;subst h9)
 refine wpN_seq (of_wp ?_)
 go_wp2
 refine wpN_cond (t:=true) rfl ?_
 rw[if_pos rfl]
 refine of_wp ?_
 go_wp2_with (first|(refine wpList_load_mid (op:={dst:=some 42,op:=.load 34 (.tmp 4),type:=_,pos:=_,after:=_,guard:=none}) rfl 34 (.tmp 4) rfl N 0 rfl mc _ ?hr1 Tryz.underlying34 rfl hiM ?_;case hr1=>exact hrg.out)|(go_at_call 40;refine Calls.mono hrc.out ?_;rintro e W3 ⟨g,o,c,rfl,hr3,hJ3,hk3⟩;have hpt:Hid _:=(dlv_put hst2.out (hk3.mono λk _ e=>e) (λk h=>(hFn k h)) am haml hamo (by omega) g o c hr3 J hJ3 hJk hcl))|(go_at_call 17;refine Calls.mono hpt.out ?_;rintro e W4 ⟨rfl,bv',hst4,hfr4,hk4⟩))
 go_end0
 have hs3:V2.heap.size≤W3.heap.size:=hk3.size
 have hb2:Keep (λk=>N≤k) V1 V2:=Keep.of_below hbl2.out λk _ e=>e
 have hF':Keep (λk=>(k=G.B∨bv.ownBlock=some k∨Fn k)∨W.heap.size≤k) W W4:=
  (((hk1H.out.mono (G:=λk=>(k=G.B∨bv.ownBlock=some k∨Fn k)∨W.heap.size≤k) λk _ e=>.inl (e.elim .inl λe=>.inr (.inl e))).trans (hb2.mono λk _ e=>.inr (by omega))).trans (hk3.mono λk _ e=>e.elim (λe=>.inl (.inr (.inr e))) λe=>.inr (by omega))).trans (hk4.mono λk _ e=>e.elim (λe=>.inl (.inl e)) λe=>(hb1H.out k e).2.elim (λe=>.inl (.inr (.inl e))) .inr)
 refine⟨rfl,hJk W3 W4 hJ3 (hk4.mono λk _ e=>e.elim (λe=>.inr (.inl e)) λe=>.inr (.inr (hb1H.out k e).1)),bv',hst4,λk hk=>?_,hF'.mono λk hk e=>e.elim id λe=>absurd hk (by omega)⟩
 rcases hfr4 k hk with e|e
 ·exact(hb1H.out k e).2
 ·exact .inr (by omega)
end
end Go.Rm
set_option linter.unusedVariables false
set_option linter.unusedSimpArgs false
noncomputable section
namespace Go.Rm
open Go Go.Conc Go.Proofs Go.RowKit Go.Kn Go.Ry
section
variable {G:Geo} {W:World} {b:Nat} {bv:Value} {xs:List Value} {sv:Value} {ns:Nat} {ss:List Value} {t:Int}
set_option maxHeartbeats 2000000 in
set_option maxRecDepth 100000 in
theorem do_deliver (h:Wst G W (b+1) bv xs sv ns ss t) (hb:b≤890) (ht0:0≤t) (ht:t≤1000) (mc am:List Value) (hmc:mc=(xs.drop (0*20)).take 20) (hto:mc[2]?=some (.int .i64 1)) (haml:am.length=20) (hamo:∀u∈am,u.oneCell'=true)
 (J:World→Prop) (Fn:Nat→Prop) (hJ:J W) (hJk:∀V V',J V→Keep (λk=>k=G.A∨k=G.B∨G.base≤k) V V'→J V') (hFn:∀k,Fn k→k<G.base∧k≠G.A∧k≠G.B)
 (gn on cn:Nat) (hn:G.nd=.slice (some ⟨gn,on,none⟩) 3 cn) (p1:Addr) (hp:∀V,J V→V.cell? ⟨gn,on+1,none⟩=some (.pointer (some p1)))
 (hrec:∀V,J V→Calls Tryz.prog 40 #[.pointer (some p1),.agg mc.toArray] V λe w'=>∃g o c,e=.returned (.slice (some ⟨g,o,none⟩) 1 c)∧w'.rangeAt g o am∧J w'∧Keep (λk=>Fn k∨V.heap.size≤k) V w')
 (hcl:∀V,J V→Calls Tryz.prog 22 #[.agg am.toArray] V λe w'=>e=.returned (.agg am.toArray)∧Below V.heap.size V w'):
 Calls Tryz.prog 6 #[.pointer (some ⟨G.A,G.oA,none⟩),.agg (actC 0 (0:Nat)).toArray] W λe w'=>e=.returned (.int .i64 0)∧J w'∧∃bv',Wst G w' (b+1) bv' (xs.drop 20++am) sv ns ss (t+1)∧Fresh W bv bv'∧Keep (λk=>k=G.A∨k=G.B∨bv.ownBlock=some k∨Fn k) W w':=by
 have hmay:=λV (hV:Below W.heap.size W V)=>may_bag (h.keep_new hV) 0 (.inl rfl) 0 (Nat.succ_pos b) (by omega)
 have hmcH:Hid _:=hmc
 have hle:=h.bag.le
 have hbvH:Hid (∀k,bv.ownBlock=some k→G.base≤k∧k<W.heap.size):=λk hk=>h.bag.row.lt k hk
 clear hmc
 have hA:=h.lt'
 have hbw:Hid (∀o,Below W.heap.size W (W.alloc o)):=λo=>Below.alloc (Below.refl _ _) (Nat.le_refl _) o
 have mixed:Tryz.prog.follows .mixedOrders=true:=by kernel_rfl
 obtain⟨cs,hcs,hcl⟩:∃cs:List Value,cs=actC 0 (0:Nat)∧cs.length=24:=⟨_,rfl,rfl⟩
 have hk0:cs[0]?=some (.int .i64 0):=by rw[hcs];rfl
 have hk1:cs[1]?=some (.int .i64 (0:Nat)):=by rw[hcs];rfl
 rw[←hcs]at hmay⊢
 have hbox:∀j v,cs[j]?=some v→(W.alloc (.cells cs.toArray 36)).cell? ⟨W.heap.size,j,none⟩=some v:=λj v hv=>by
  rw[World.cell?_alloc_at (w:=W) _ _ _ _ rfl,List.getElem?_toArray];exact hv
 have hrg:Hid ((W.alloc (.cells cs.toArray 36)).rangeAt W.heap.size 0 cs):=λj v hv=>by rw[Nat.zero_add];exact hbox j v hv
 have hi:(Tryz.prog.info? 36).map (·.size)=some cs.length:=by rw[hcl];kernel_rfl
 have hN:W.heap.size<(W.alloc (.cells cs.toArray 36)).heap.size:=by rw[World.size_alloc];omega
 have hcall:Hid (Calls Tryz.prog 13 #[.pointer (some ⟨G.A,G.oA,none⟩),.agg cs.toArray] (W.alloc (.cells cs.toArray 36)) λe w'=>e=.returned (.bool true)∧DoF G W (b+1) bv xs sv ns ss t (.int .i64 0) (.int .i64 (0:Nat)) w'):=
  (hmay _ (hbw.out _)).mono λe w' ⟨h1,h2⟩=>⟨h1,(hbw.out _).trans (h2.mono (hbw.out _).size),h.keep_new ((hbw.out _).trans (h2.mono (hbw.out _).size)),Nat.lt_of_lt_of_le hN h2.size,(h2.cell hN).trans (hbox 0 _ hk0),(h2.cell hN).trans (hbox 1 _ hk1)⟩
 clear hmay hcs hcl hk0 hk1 hbox hN hbw
 have hwr:IntKind.i64.wrap (t+1)=t+1:=by simp[IntKind.wrap,IntKind.bits,IntKind.signed];omega
 refine calls_of_wpN Tryz.func6 rfl ?_
 simp only[Tryz.ntmps6,List.size_toArray,List.length_cons,List.length_nil,Nat.reduceAdd,Nat.reduceSub,Array.replicate_succ,
  Array.replicate_zero,List.push_toArray,List.append_toArray,List.nil_append,List.cons_append]
 refine wpN_seq (of_wp ?_)
 go_wp2
 refine wpN_seq (wpN_block ?_)
 refine wpN_seq (of_wp ?_)
 go_wp2
 refine wpN_cond (t:=false) rfl ?_
 rw[if_neg (by decide)]
 refine wpN_seq (of_wp ?_)
 go_wp2_with (first|(refine wpList_load_mid (op:={dst:=some 10,op:=.load 36 (.tmp 3),type:=_,pos:=_,after:=_,guard:=none}) rfl 36 (.tmp 3) rfl W.heap.size 0 rfl cs _ ?hr1 Tryz.underlying36 rfl hi ?_;case hr1=>exact hrg.out)|(go_at_call 13;refine Calls.mono hcall.out ?_;rintro e V ⟨rfl,hF⟩))
 clear hcall hrg hi
 have hct:=hF.st.timec
 have hft:=hF.st.sentf 5 (by omega)
 have hG:=hF.tick hA
 clear hF
 refine of_wp ?_
 go_wp2
 refine wpN_seq (of_wp ?_)
 go_wp2
 refine(λ(h:∀V3,DoG G W (b+1) bv xs sv ns ss (t+1) (.int .i64 0) (.int .i64 (0:Nat)) V3→WpN Tryz.prog _ _ _ V3)=>h _ hG) ?_
 clear hG hct hft
 intro V3 hG
 have hN:W.heap.size<V3.heap.size:=hG.size
 have hst:Hid _:=hG.st
 have hkp:Hid _:=hG.keep
 have hn0:=hG.k0
 have hn1:=hG.k1
 have hbp:=hG.st.bagp
 have hJ3:J V3:=hJk W V3 hJ (hG.keep.mono λk _ e=>.inl e)
 have hdrop:=deliver_ok hG.st (by omega) mc am hmcH.out hto haml hamo J Fn hJ3 hJk hFn gn on cn hn p1 hp hrec hcl
 have hdropH:Hid _:=hdrop
 clear hG hdrop
 refine wpN_seq ?_
 refine wpN_seq (of_wp ?_)
 go_wp2
 refine wpN_block ?_
 refine wpN_seq (of_wp ?_)
 go_wp2
 refine wpN_cond (t:=true) rfl ?_
 rw[if_pos rfl]
 refine of_wp ?_
 go_wp2_with (go_at_call 14;refine Calls.mono hdropH.out ?_;rintro e V4 ⟨rfl,hJ4,bv',hst4,hfr4,hk4⟩)
 have hs3:W.heap.size≤V3.heap.size:=by omega
 have hres:Hid _:=hst4
 have hJ4H:Hid _:=hJ4
 have hkf:Hid (Keep (λk=>k=G.A∨k=G.B∨bv.ownBlock=some k∨Fn k) W V4):=(hkp.out.mono λk _ e=>.inl e).trans (hk4.mono λk _ e=>.inr e)
 have hfw:Hid (Fresh W bv bv'):=λk hk=>(hfr4 k hk).imp id λe=>by omega
 clear hst4 hfr4 hk4 hkp hst hdropH hJ4
 refine wpN_seq (of_wp ?_)
 go_wp2
 refine of_wp ?_
 go_wp2
 go_ret
 exact⟨rfl,hJ4H.out,bv',hres.out,hfw.out,hkf.out⟩
end
end Go.Rm
