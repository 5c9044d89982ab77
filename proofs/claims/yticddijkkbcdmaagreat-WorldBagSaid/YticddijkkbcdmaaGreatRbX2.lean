/-
  A pick that doubles a message: the act, and what is looked at behind it.
-/
import Derived.Test.YticddijkkbcdmaaGreatRbX
set_option linter.unusedVariables false
set_option linter.unusedSimpArgs false
noncomputable section
namespace Go.Rm
open Go Go.Conc Go.Proofs Go.RowKit Go.Kn Go.Ry Go.Ev
section
variable {G:Geo} {g0:Nat} {ρ:Rho} {p:Nat×Nat} {w V:World} {n:Nat} {rs:List Nat} {bv sv:Value} {ns:Nat} {ss:List Value} {t:Int}
set_option maxHeartbeats 8000000 in
set_option maxRecDepth 100000 in
theorem do_double_ok (hg:GB G g0 ρ p) (h:SB G g0 ρ w n (reads rs) bv sv ns ss t V) (hn:n≤150) (L:Nat) (hL:rs.length=L) (hM:L≤60) (k:Nat) (hk:k<L) (gb c:Nat) (hK:BagK G (reads rs) (.slice (some ⟨gb,0,none⟩) L c) bv sv V) (s0 s1 s2 s3 s4 s6 s7 s8:Value) (f:List Value) (hf:f.length=161):
 WpN Tryz.prog cDo (AtDo G g0 ρ w n rs.length s0 s1 s2 s3 s4 s6 s7 s8) ⟨(s0::s1::s2::s3::s4::.pointer (some ⟨G.A,G.oA,none⟩)::s6::s7::s8::.slice (some ⟨gb,0,none⟩) L c::.int .i64 (k:Nat)::.int .i64 2::f).toArray,[]⟩ V:=by
 revert f
 refine open_do ?_
 intro u12 u13 u14 u15 u16 u17 u18 u19 u20 u21 u22 u23 u24 u25 u26 u27 u28 u29 u30 u31 u32 u33 u34 u35 u36 u37 u38 u39 u40 u41 u42 u43 u44 u45 u46 u47 u48 u49 u50 u51 u52 u53 u54 u55 u56 u57 u58 u59 u60 u61 u62 u63 u64 u65 u66 u67 u68 u69 u70 u71 u72 u73 u74 u75 u76 u77 u78 u79 u80 u81 u82 u83 u84 u85 u86 u87 u88 u89 u90 u91 u92 u93 u94 u95 u96 u97 u98 u99 u100 u101 u102 u103 u104 u105 u106 u107 u108 u109 u110 u111 u112 u113 u114 u115 u116 u117 u118 u119 u120 u121 rest hr
 have mixed:Tryz.prog.follows .mixedOrders=true:=by kernel_rfl
 have hk':k<(reads rs).length:=by rw[reads_len];omega
 have hdo:Hid _:=sb_double hg h (by omega) (by rw[reads_len];omega) k hk'
 have hlen:Hid ((reads rs++[(reads rs)[k]]).length=L+1):=by unfold Hid;simp[reads_len,hL]
 obtain⟨x,hx⟩:∃x,(reads rs)[k]=(false,x):=⟨_,reads_at rs k hk'⟩
 have hx5:x<5:=by have:=h.few _ (List.getElem_mem hk');rw[hx]at this;exact this
 have hrs:Hid (reads rs++[(reads rs)[k]]=reads (rs++[x])):=by unfold Hid;rw[hx,reads_snoc]
 have hlenr:Hid ((rs++[x]).length≤rs.length+1):=by unfold Hid;simp
 have hat:Hid (∀{V':World} {bv' sv':Value},BagK G (reads rs) (.slice (some ⟨gb,0,none⟩) L c) bv' sv' V'→V'.rangeAt gb (k*20) (readN x)∧gb<V'.heap.size):=λhK=>by
  obtain⟨g,c',e,_,h3,_,_,h6⟩:=hK.at' k hk'
  cases e
  rw[hx]at h6
  exact⟨h6,h3⟩
 have hat2:Hid (∀{V1 V2:World} {v2:Value},BagC V1 (reads rs++[(reads rs)[k]]) v2 V2→∃gn c2,v2=.slice (some ⟨gn,0,none⟩) (L+1) c2∧V2.rangeAt gn (L*20) (readN x)∧gn<V2.heap.size):=fun{V1 V2 v2} hC=>by
  obtain⟨g,c',e,h2,h3⟩:=hC.at' L (by rw[hlen.out];omega)
  rw[hlen.out]at e
  have e2:(reads rs++[(reads rs)[k]])[L]'(by rw[hlen.out];omega)=(false,x):=by rw[List.getElem_append_right (by rw[reads_len];omega)];simp[reads_len,hL,hx]
  rw[e2]at h3
  exact⟨g,c',e,h3,World.block_lt_of_cell? V2 _ (h3 0 _ rfl)⟩
 have hLL:(L:Int)<(L:Int)+1:=by omega
 have hkI:(k:Int)<(L:Int):=by omega
 have hwL:IntKind.i64.wrap ((L:Int)+1)=(L:Int)+1:=wrap64 (L+1) (by omega)
 have hKH:Hid _:=hK
 have hiM:(Tryz.prog.info? 34).map (·.size)=some (readN x).length:=by kernel_rfl
 have hgH:Hid _:=hg
 have hrH:Hid _:=hr
 clear h hg hL hr hK hx
 refine wpN_seq (of_wp ?_)
 go_wp2_with (go_at_call 6;refine Calls.mono hdo.out ?_;rintro e V1 ⟨rfl,bv1,sv1,ns1,ss1,t1,hS1,hsp⟩;replace hsp:Hid _:=hKH.out.step hsp;replace hS1:Hid _:=hS1)
 have hbag:Hid _:=sb_bag hgH.out hS1.out (by rw[hlen.out];omega)
 clear hdo hS1 hKH
 refine wpN_seq (of_wp ?_)
 go_wp2_with (go_at_call 7;refine Calls.mono hbag.out ?_;rintro e V2 ⟨v2,rfl,hC,hS2⟩;have hK2:=hat.out (hsp.out.new hC.below);obtain⟨gn,c2,hv2,hn2,hgn⟩:=hat2.out hC;subst hv2;clear hC;replace hS2:Hid _:=hS2)
 obtain⟨hK3,hgb⟩:=hK2
 have hSx:Hid (V2.drew.rangeAt gn (L*20) (readN x)∧V2.drew.rangeAt gb (k*20) (readN x)):=⟨hn2,hK3⟩
 have hkeep:Hid (∀W',Below V2.drew.heap.size V2.drew W'→W'.rangeAt gn (L*20) (readN x)∧W'.rangeAt gb (k*20) (readN x)):=λW' hW=>⟨λj v hv=>(hW.cell (by exact hgn)).trans (hn2 j v hv),λj v hv=>(hW.cell (by exact hgb)).trans (hK3 j v hv)⟩
 clear hbag hn2 hK3 hgn hgb hat hat2 hsp hlen
 refine wpN_seq (of_wp ?_)
 refine wp_region_noPanic (wp_region_steps 39 [(0,true),(1,false),(2,true),(3,true),(4,true),(5,true),(6,true),(7,true),(8,true),(9,true),(10,true),(11,true),(12,true),(13,true),(14,true),(15,true),(16,true),(17,true),(18,true),(19,true),(20,true),(21,true),(22,true),(23,true),(24,true),(25,true),(26,true),(27,true),(28,true),(29,true),(30,true),(31,true),(32,true),(33,true),(34,true),(35,false),(36,true),(37,true),(38,true)] (λV=>V.rangeAt gn (L*20) (readN x)∧V.rangeAt gb (k*20) (readN x)) mixed (by kernel_rfl) (λ_ _ _ _ h=>h.elim) hSx.out ?_)
 refine step_take2 (v:=?v0) (a':=?a0) rfl (y_runG (by first|rfl|simp[Region.wanted,yielded,Act.put,Act.eval]) λw hS=>?p0) ?h0 ?_
 case p0=>clear hS;go_simp;try first|exact rfl|exact hwL.symm
 case h0=>go_simp;exact rfl
 refine step_op rfl λK' hK=>?_
 go_simp
 go_at_call 8
 refine(num_ok _ _).mono ?_
 rintro e W9 ⟨rfl,hW9⟩
 subst hW9
 refine hK _ _ ⟨hSx.out,?_⟩
 clear hK K'
 refine step_take2 (v:=?v2) (a':=?a2) rfl (y_runG (by first|rfl|simp[Region.wanted,yielded,Act.put,Act.eval]) λw hS=>?p2) ?h2 ?_
 case p2=>clear hS;go_simp;try first|exact rfl|exact hwL.symm
 case h2=>go_simp;exact rfl
 refine step_take2 (v:=?v3) (a':=?a3) rfl (y_runG (by first|rfl|simp[Region.wanted,yielded,Act.put,Act.eval]) λw hS=>?p3) ?h3 ?_
 case p3=>clear hS;go_simp;try first|exact rfl|exact hwL.symm
 case h3=>go_simp;exact rfl
 refine step_take2 (v:=?v4) (a':=?a4) rfl (y_runG (by first|rfl|simp[Region.wanted,yielded,Act.put,Act.eval]) λw hS=>?p4) ?h4 ?_
 case p4=>clear hS;go_simp;try first|exact rfl|exact hwL.symm
 case h4=>go_simp;exact rfl
 refine step_take2 (v:=?v5) (a':=?a5) rfl (y_runG (by first|rfl|simp[Region.wanted,yielded,Act.put,Act.eval]) λw hS=>?p5) ?h5 ?_
 case p5=>clear hS;go_simp;try first|exact rfl|exact hwL.symm
 case h5=>go_simp;exact rfl
 refine step_take2 (v:=?v6) (a':=?a6) rfl (y_runG (by first|rfl|simp[Region.wanted,yielded,Act.put,Act.eval]) λw hS=>?p6) ?h6 ?_
 case p6=>clear hS;go_simp;try first|exact rfl|exact hwL.symm
 case h6=>go_simp;exact rfl
 refine step_take2 (v:=undef) (a':=?a7) rfl (y_skip (by first|rfl|simp[Region.wanted,yielded,Act.put,Act.eval])) ?h7 ?_
 case h7=>go_simp;exact rfl
 refine step_take2 (v:=undef) (a':=?a8) rfl (y_skip (by first|rfl|simp[Region.wanted,yielded,Act.put,Act.eval])) ?h8 ?_
 case h8=>go_simp;exact rfl
 refine step_take2 (v:=undef) (a':=?a9) rfl (y_skip (by first|rfl|simp[Region.wanted,yielded,Act.put,Act.eval])) ?h9 ?_
 case h9=>go_simp;exact rfl
 refine step_take2 (v:=undef) (a':=?a10) rfl (y_skip (by first|rfl|simp[Region.wanted,yielded,Act.put,Act.eval])) ?h10 ?_
 case h10=>go_simp;exact rfl
 refine step_take2 (v:=undef) (a':=?a11) rfl (y_skip (by first|rfl|simp[Region.wanted,yielded,Act.put,Act.eval])) ?h11 ?_
 case h11=>go_simp;exact rfl
 refine step_take2 (v:=undef) (a':=?a12) rfl (y_skip (by first|rfl|simp[Region.wanted,yielded,Act.put,Act.eval])) ?h12 ?_
 case h12=>go_simp;exact rfl
 refine step_take2 (v:=?v13) (a':=?a13) rfl (y_runG (by first|rfl|simp[Region.wanted,yielded,Act.put,Act.eval]) λw hS=>?p13) ?h13 ?_
 case p13=>clear hS;go_simp;try first|exact rfl|exact hwL.symm
 case h13=>go_simp;exact rfl
 refine step_take2 (v:=?v14) (a':=?a14) rfl (y_runG (by first|rfl|simp[Region.wanted,yielded,Act.put,Act.eval]) λw hS=>?p14) ?h14 ?_
 case p14=>clear hS;go_simp;try first|exact rfl|exact hwL.symm
 case h14=>go_simp;exact rfl
 refine step_take2 (v:=?v15) (a':=?a15) rfl (y_runG (by first|rfl|simp[Region.wanted,yielded,Act.put,Act.eval]) λw hS=>?p15) ?h15 ?_
 case p15=>clear hS;go_simp;try first|exact rfl|exact hwL.symm
 case h15=>go_simp;exact rfl
 refine step_take2 (v:=?v16) (a':=?a16) rfl (y_runG (by first|rfl|simp[Region.wanted,yielded,Act.put,Act.eval]) λw hS=>?p16) ?h16 ?_
 case p16=>clear hS;go_simp;try first|exact rfl|exact hwL.symm
 case h16=>go_simp;exact rfl
 refine step_take2 (v:=?v17) (a':=?a17) rfl (y_runG (by first|rfl|simp[Region.wanted,yielded,Act.put,Act.eval]) λw hS=>?p17) ?h17 ?_
 case p17=>clear hS;go_simp;try first|exact rfl|exact hwL.symm
 case h17=>go_simp;exact rfl
 refine step_take2 (v:=?v18) (a':=?a18) rfl (y_runG (by first|rfl|simp[Region.wanted,yielded,Act.put,Act.eval]) λw hS=>?p18) ?h18 ?_
 case p18=>clear hS;go_simp;try first|exact rfl|exact hwL.symm
 case h18=>go_simp;exact rfl
 refine step_take2 (v:=?v19) (a':=?a19) rfl (y_runG (by first|rfl|simp[Region.wanted,yielded,Act.put,Act.eval]) λw hS=>?p19) ?h19 ?_
 case p19=>clear hS;go_simp;try first|exact rfl|exact hwL.symm
 case h19=>go_simp;exact rfl
 refine step_take2 (v:=?v20) (a':=?a20) rfl (y_runG (by first|rfl|simp[Region.wanted,yielded,Act.put,Act.eval]) λw hS=>?p20) ?h20 ?_
 case p20=>clear hS;go_simp;try first|exact rfl|exact hwL.symm
 case h20=>go_simp;exact rfl
 refine step_take2 (v:=?v21) (a':=?a21) rfl (y_runG (by first|rfl|simp[Region.wanted,yielded,Act.put,Act.eval]) λw hS=>?p21) ?h21 ?_
 case p21=>clear hS;go_simp;try first|exact rfl|exact hwL.symm
 case h21=>go_simp;exact rfl
 refine step_take2 (v:=?v22) (a':=?a22) rfl (y_runG (by first|rfl|simp[Region.wanted,yielded,Act.put,Act.eval]) λw hS=>?p22) ?h22 ?_
 case p22=>clear hS;go_simp;try first|exact rfl|exact hwL.symm
 case h22=>go_simp;exact rfl
 refine step_take2 (v:=?v23) (a':=?a23) rfl (y_runG (by first|rfl|simp[Region.wanted,yielded,Act.put,Act.eval]) λw hS=>?p23) ?h23 ?_
 case p23=>clear hS;go_simp;try first|exact rfl|exact hwL.symm
 case h23=>go_simp;exact rfl
 refine step_take2 (v:=?v24) (a':=?a24) rfl (y_runG (by first|rfl|simp[Region.wanted,yielded,Act.put,Act.eval]) λw hS=>?p24) ?h24 ?_
 case p24=>clear hS;go_simp;try first|exact rfl|exact hwL.symm
 case h24=>go_simp;exact rfl
 refine step_take2 (v:=?v25) (a':=?a25) rfl (y_runG (by first|rfl|simp[Region.wanted,yielded,Act.put,Act.eval]) λw hS=>?p25) ?h25 ?_
 case p25=>clear hS;go_simp;try first|exact rfl|exact hwL.symm
 case h25=>go_simp;exact rfl
 refine step_take2 (v:=?v26) (a':=?a26) rfl (y_runG (by first|rfl|simp[Region.wanted,yielded,Act.put,Act.eval]) λw hS=>?p26) ?h26 ?_
 case p26=>clear hS;go_simp;try first|exact rfl|exact hwL.symm
 case h26=>go_simp;exact rfl
 refine step_take2 (v:=?v27) (a':=?a27) rfl (y_runG (by first|rfl|simp[Region.wanted,yielded,Act.put,Act.eval]) λw hS=>?p27) ?h27 ?_
 case p27=>clear hS;go_simp;try first|exact rfl|exact hwL.symm
 case h27=>go_simp;exact rfl
 refine step_take2 (v:=?v28) (a':=?a28) rfl (y_runG (by first|rfl|simp[Region.wanted,yielded,Act.put,Act.eval]) λw hS=>?p28) ?h28 ?_
 case p28=>clear hS;go_simp;try first|exact rfl|exact hwL.symm
 case h28=>go_simp;exact rfl
 refine step_take2 (v:=?v29) (a':=?a29) rfl (y_runG (by first|rfl|simp[Region.wanted,yielded,Act.put,Act.eval]) λw hS=>?p29) ?h29 ?_
 case p29=>clear hS;go_simp;try first|exact rfl|exact hwL.symm
 case h29=>go_simp;exact rfl
 refine step_take2 (v:=.agg (readN x).toArray) (a':=?a30) rfl (y_runG (by first|rfl|simp[Region.wanted,yielded,Act.put,Act.eval]) λw hS=>y_load_mid rfl rfl hS.1 Tryz.underlying34 rfl hiM) ?h30 ?_
 case h30=>go_simp;exact rfl
 refine step_take2 (v:=?v31) (a':=?a31) rfl (y_runG (by first|rfl|simp[Region.wanted,yielded,Act.put,Act.eval]) λw hS=>?p31) ?h31 ?_
 case p31=>clear hS;go_simp;try first|exact rfl|exact hwL.symm
 case h31=>go_simp;exact rfl
 refine step_take2 (v:=?v32) (a':=?a32) rfl (y_runG (by first|rfl|simp[Region.wanted,yielded,Act.put,Act.eval]) λw hS=>?p32) ?h32 ?_
 case p32=>clear hS;go_simp;try first|exact rfl|exact hwL.symm
 case h32=>go_simp;exact rfl
 refine step_take2 (v:=?v33) (a':=?a33) rfl (y_runG (by first|rfl|simp[Region.wanted,yielded,Act.put,Act.eval]) λw hS=>?p33) ?h33 ?_
 case p33=>clear hS;go_simp;try first|exact rfl|exact hwL.symm
 case h33=>go_simp;exact rfl
 refine step_take2 (v:=.agg (readN x).toArray) (a':=?a34) rfl (y_runG (by first|rfl|simp[Region.wanted,yielded,Act.put,Act.eval]) λw hS=>y_load_mid rfl rfl hS.2 Tryz.underlying34 rfl hiM) ?h34 ?_
 case h34=>go_simp;exact rfl
 refine step_op rfl λK' hK=>?_
 go_simp
 go_at_call 9
 refine(sameR_ok x hx5 _).mono ?_
 rintro e W5 ⟨rfl,hb5⟩
 have hb5H:Hid _:=hb5
 refine hK _ _ ⟨hkeep.out _ hb5,?_⟩
 clear hK K' hb5
 refine step_take2 (v:=?v36) (a':=?a36) rfl (y_runG (by first|rfl|simp[Region.wanted,yielded,Act.put,Act.eval]) λw hS=>?p36) ?h36 ?_
 case p36=>clear hS;go_simp;try first|exact rfl|exact hwL.symm
 case h36=>go_simp;exact rfl
 refine step_take2 (v:=?v37) (a':=?a37) rfl (y_runG (by first|rfl|simp[Region.wanted,yielded,Act.put,Act.eval]) λw hS=>?p37) ?h37 ?_
 case p37=>clear hS;go_simp;try first|exact rfl|exact hwL.symm
 case h37=>go_simp;exact rfl
 refine step_take2 (v:=?v38) (a':=?a38) rfl (y_runG (by first|rfl|simp[Region.wanted,yielded,Act.put,Act.eval]) λw hS=>?p38) ?h38 ?_
 case p38=>clear hS;go_simp;try first|exact rfl|exact hwL.symm
 case h38=>go_simp;exact rfl
 refine step_nil ?_
 simp only[List.drop_succ_cons,List.drop_zero]
 go_wp2
 refine NoPanic.normal ?_
 refine of_wp ?_
 go_wp2
 have h9:=hS2.out
 rw[hrs.out]at h9
 exact⟨rfl,_,_,_,_,_,_,_,hlenr.out,by simp[hrH.out],h9.new hgH.out (((Below.refl _ _).drew).trans (hb5H.out.mono (Nat.le_refl _))),rfl⟩
end
end Go.Rm
