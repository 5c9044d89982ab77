/-
  A pick that drops a message: the act, and what is looked at behind it.
-/
import Derived.Test.YticddijkkbcdmaaGreatRbW
set_option linter.unusedVariables false
set_option linter.unusedSimpArgs false
noncomputable section
namespace Go.Rm
open Go Go.Conc Go.Proofs Go.RowKit Go.Kn Go.Ry Go.Ev
theorem open_do {C:List Value→Prop} (h:∀(u12 u13 u14 u15 u16 u17 u18 u19 u20 u21 u22 u23 u24 u25 u26 u27 u28 u29 u30 u31 u32 u33 u34 u35 u36 u37 u38 u39 u40 u41 u42 u43 u44 u45 u46 u47 u48 u49 u50 u51 u52 u53 u54 u55 u56 u57 u58 u59 u60 u61 u62 u63 u64 u65 u66 u67 u68 u69 u70 u71 u72 u73 u74 u75 u76 u77 u78 u79 u80 u81 u82 u83 u84 u85 u86 u87 u88 u89 u90 u91 u92 u93 u94 u95 u96 u97 u98 u99 u100 u101 u102 u103 u104 u105 u106 u107 u108 u109 u110 u111 u112 u113 u114 u115 u116 u117 u118 u119 u120 u121:Value) (rest:List Value),rest.length=51→C (u12::u13::u14::u15::u16::u17::u18::u19::u20::u21::u22::u23::u24::u25::u26::u27::u28::u29::u30::u31::u32::u33::u34::u35::u36::u37::u38::u39::u40::u41::u42::u43::u44::u45::u46::u47::u48::u49::u50::u51::u52::u53::u54::u55::u56::u57::u58::u59::u60::u61::u62::u63::u64::u65::u66::u67::u68::u69::u70::u71::u72::u73::u74::u75::u76::u77::u78::u79::u80::u81::u82::u83::u84::u85::u86::u87::u88::u89::u90::u91::u92::u93::u94::u95::u96::u97::u98::u99::u100::u101::u102::u103::u104::u105::u106::u107::u108::u109::u110::u111::u112::u113::u114::u115::u116::u117::u118::u119::u120::u121::rest)):∀f:List Value,f.length=161→C f:=by
 refine open10 ?_
 intro u12 u13 u14 u15 u16 u17 u18 u19 u20 u21
 refine open10 ?_
 intro u22 u23 u24 u25 u26 u27 u28 u29 u30 u31
 refine open10 ?_
 intro u32 u33 u34 u35 u36 u37 u38 u39 u40 u41
 refine open10 ?_
 intro u42 u43 u44 u45 u46 u47 u48 u49 u50 u51
 refine open10 ?_
 intro u52 u53 u54 u55 u56 u57 u58 u59 u60 u61
 refine open10 ?_
 intro u62 u63 u64 u65 u66 u67 u68 u69 u70 u71
 refine open10 ?_
 intro u72 u73 u74 u75 u76 u77 u78 u79 u80 u81
 refine open10 ?_
 intro u82 u83 u84 u85 u86 u87 u88 u89 u90 u91
 refine open10 ?_
 intro u92 u93 u94 u95 u96 u97 u98 u99 u100 u101
 refine open10 ?_
 intro u102 u103 u104 u105 u106 u107 u108 u109 u110 u111
 refine open10 ?_
 intro u112 u113 u114 u115 u116 u117 u118 u119 u120 u121
 exact h u12 u13 u14 u15 u16 u17 u18 u19 u20 u21 u22 u23 u24 u25 u26 u27 u28 u29 u30 u31 u32 u33 u34 u35 u36 u37 u38 u39 u40 u41 u42 u43 u44 u45 u46 u47 u48 u49 u50 u51 u52 u53 u54 u55 u56 u57 u58 u59 u60 u61 u62 u63 u64 u65 u66 u67 u68 u69 u70 u71 u72 u73 u74 u75 u76 u77 u78 u79 u80 u81 u82 u83 u84 u85 u86 u87 u88 u89 u90 u91 u92 u93 u94 u95 u96 u97 u98 u99 u100 u101 u102 u103 u104 u105 u106 u107 u108 u109 u110 u111 u112 u113 u114 u115 u116 u117 u118 u119 u120 u121
section
variable {G:Geo} {g0:Nat} {ρ:Rho} {p:Nat×Nat} {w V:World} {n:Nat} {rs:List Nat} {bv sv:Value} {ns:Nat} {ss:List Value} {t:Int}
def AtDo (G:Geo) (g0:Nat) (ρ:Rho) (w:World) (n m:Nat) (s0 s1 s2 s3 s4 s6 s7 s8:Value):Exit→Act→World→Prop:=λe a V=>e=.normal∧∃(rs:List Nat) (bv sv:Value) (ns:Nat) (ss:List Value) (t:Int) (f:List Value),rs.length≤m+1∧f.length=164∧SB G g0 ρ w (n+1) (reads rs) bv sv ns ss t V∧a=⟨(s0::s1::s2::s3::s4::.pointer (some ⟨G.A,G.oA,none⟩)::s6::s7::s8::f).toArray,[]⟩
set_option maxHeartbeats 8000000 in
set_option maxRecDepth 100000 in
theorem do_drop_ok (hg:GB G g0 ρ p) (h:SB G g0 ρ w n (reads rs) bv sv ns ss t V) (hn:n≤150) (L:Nat) (hL:rs.length=L) (hM:L≤60) (k:Nat) (hk:k<L) (ao:Option Addr) (c:Nat) (s0 s1 s2 s3 s4 s6 s7 s8:Value) (f:List Value) (hf:f.length=161):
 WpN Tryz.prog cDo (AtDo G g0 ρ w n rs.length s0 s1 s2 s3 s4 s6 s7 s8) ⟨(s0::s1::s2::s3::s4::.pointer (some ⟨G.A,G.oA,none⟩)::s6::s7::s8::.slice ao L c::.int .i64 (k:Nat)::.int .i64 1::f).toArray,[]⟩ V:=by
 obtain⟨M,rfl⟩:∃M,L=M+1:=⟨L-1,by omega⟩
 revert f
 refine open_do ?_
 intro u12 u13 u14 u15 u16 u17 u18 u19 u20 u21 u22 u23 u24 u25 u26 u27 u28 u29 u30 u31 u32 u33 u34 u35 u36 u37 u38 u39 u40 u41 u42 u43 u44 u45 u46 u47 u48 u49 u50 u51 u52 u53 u54 u55 u56 u57 u58 u59 u60 u61 u62 u63 u64 u65 u66 u67 u68 u69 u70 u71 u72 u73 u74 u75 u76 u77 u78 u79 u80 u81 u82 u83 u84 u85 u86 u87 u88 u89 u90 u91 u92 u93 u94 u95 u96 u97 u98 u99 u100 u101 u102 u103 u104 u105 u106 u107 u108 u109 u110 u111 u112 u113 u114 u115 u116 u117 u118 u119 u120 u121 rest hr
 have mixed:Tryz.prog.follows .mixedOrders=true:=by kernel_rfl
 have hdo:Hid _:=sb_drop hg h (by omega) (by rw[reads_len];omega) k (by rw[reads_len];omega)
 have hlen:Hid (((reads rs).eraseIdx k).length=M):=by unfold Hid;rw[List.length_eraseIdx_of_lt (by rw[reads_len];omega),reads_len];omega
 have hlenr:Hid ((rs.eraseIdx k).length≤rs.length+1):=by unfold Hid;have:=List.length_eraseIdx_le rs k;omega
 have hwM:IntKind.i64.wrap (M:Int)=(M:Int):=wrap64 M (by omega)
 have hgH:Hid _:=hg
 have hrH:Hid _:=hr
 clear h hg hL hr
 refine wpN_seq (of_wp ?_)
 go_wp2_with (go_at_call 6;refine Calls.mono hdo.out ?_;rintro e V1 ⟨rfl,bv1,sv1,ns1,ss1,t1,hS1,hsp⟩;clear hsp;replace hS1:Hid _:=hS1)
 have hbag:Hid _:=sb_bag hgH.out hS1.out (by rw[hlen.out];omega)
 clear hdo hS1
 refine wpN_seq (of_wp ?_)
 go_wp2_with (go_at_call 7;refine Calls.mono hbag.out ?_;rintro e V2 ⟨v2,rfl,hC,hS2⟩;obtain⟨ao2,c2,hv2⟩:=hC.val;rw[hlen.out]at hv2;subst hv2;clear hC;replace hS2:Hid _:=hS2)
 clear hbag
 refine wpN_seq (of_wp ?_)
 refine wp_region_noPanic (wp_region_steps 39 [(0,true),(1,false),(2,true),(3,true),(4,true),(5,true),(6,true),(7,true),(8,true),(9,true),(10,true),(11,true),(12,true),(13,true),(14,true),(15,true),(16,true),(17,true),(18,true),(19,true),(20,true),(21,true),(22,true),(23,true),(24,true),(25,true),(26,true),(27,true),(28,true),(29,true),(30,true),(31,true),(32,true),(33,true),(34,true),(35,false),(36,true),(37,true),(38,true)] (λV=>True) mixed (by kernel_rfl) (λ_ _ _ _ h=>h.elim) trivial ?_)
 refine step_take2 (v:=?v0) (a':=?a0) rfl (y_runG (by first|rfl|simp[Region.wanted,yielded,Act.put,Act.eval]) λw hS=>?p0) ?h0 ?_
 case p0=>go_simp;try first|exact rfl|exact hwM.symm
 case h0=>go_simp;exact rfl
 refine step_op rfl λK' hK=>?_
 go_simp
 go_at_call 8
 refine(num_ok _ _).mono ?_
 rintro e W9 ⟨rfl,hW9⟩
 subst hW9
 refine hK _ _ ⟨trivial,?_⟩
 clear hK K'
 refine step_take2 (v:=?v2) (a':=?a2) rfl (y_runG (by first|rfl|simp[Region.wanted,yielded,Act.put,Act.eval]) λw hS=>?p2) ?h2 ?_
 case p2=>go_simp;try first|exact rfl|exact hwM.symm
 case h2=>go_simp;exact rfl
 refine step_take2 (v:=?v3) (a':=?a3) rfl (y_runG (by first|rfl|simp[Region.wanted,yielded,Act.put,Act.eval]) λw hS=>?p3) ?h3 ?_
 case p3=>go_simp;try first|exact rfl|exact hwM.symm
 case h3=>go_simp;exact rfl
 refine step_take2 (v:=?v4) (a':=?a4) rfl (y_runG (by first|rfl|simp[Region.wanted,yielded,Act.put,Act.eval]) λw hS=>?p4) ?h4 ?_
 case p4=>go_simp;try first|exact rfl|exact hwM.symm
 case h4=>go_simp;exact rfl
 refine step_take2 (v:=?v5) (a':=?a5) rfl (y_runG (by first|rfl|simp[Region.wanted,yielded,Act.put,Act.eval]) λw hS=>?p5) ?h5 ?_
 case p5=>go_simp;try first|exact rfl|exact hwM.symm
 case h5=>go_simp;exact rfl
 refine step_take2 (v:=?v6) (a':=?a6) rfl (y_runG (by first|rfl|simp[Region.wanted,yielded,Act.put,Act.eval]) λw hS=>?p6) ?h6 ?_
 case p6=>go_simp;try first|exact rfl|exact hwM.symm
 case h6=>go_simp;exact rfl
 refine step_take2 (v:=?v7) (a':=?a7) rfl (y_runG (by first|rfl|simp[Region.wanted,yielded,Act.put,Act.eval]) λw hS=>?p7) ?h7 ?_
 case p7=>go_simp;try first|exact rfl|exact hwM.symm
 case h7=>go_simp;exact rfl
 refine step_take2 (v:=?v8) (a':=?a8) rfl (y_runG (by first|rfl|simp[Region.wanted,yielded,Act.put,Act.eval]) λw hS=>?p8) ?h8 ?_
 case p8=>go_simp;try first|exact rfl|exact hwM.symm
 case h8=>go_simp;exact rfl
 refine step_take2 (v:=?v9) (a':=?a9) rfl (y_runG (by first|rfl|simp[Region.wanted,yielded,Act.put,Act.eval]) λw hS=>?p9) ?h9 ?_
 case p9=>go_simp;try first|exact rfl|exact hwM.symm
 case h9=>go_simp;exact rfl
 refine step_take2 (v:=?v10) (a':=?a10) rfl (y_runG (by first|rfl|simp[Region.wanted,yielded,Act.put,Act.eval]) λw hS=>?p10) ?h10 ?_
 case p10=>go_simp;try first|exact rfl|exact hwM.symm
 case h10=>go_simp;exact rfl
 refine step_take2 (v:=?v11) (a':=?a11) rfl (y_runG (by first|rfl|simp[Region.wanted,yielded,Act.put,Act.eval]) λw hS=>?p11) ?h11 ?_
 case p11=>go_simp;try first|exact rfl|exact hwM.symm
 case h11=>go_simp;exact rfl
 refine step_take2 (v:=?v12) (a':=?a12) rfl (y_runG (by first|rfl|simp[Region.wanted,yielded,Act.put,Act.eval]) λw hS=>?p12) ?h12 ?_
 case p12=>go_simp;try first|exact rfl|exact hwM.symm
 case h12=>go_simp;exact rfl
 refine step_take2 (v:=?v13) (a':=?a13) rfl (y_runG (by first|rfl|simp[Region.wanted,yielded,Act.put,Act.eval]) λw hS=>?p13) ?h13 ?_
 case p13=>go_simp;try first|exact rfl|exact hwM.symm
 case h13=>go_simp;exact rfl
 refine step_take2 (v:=?v14) (a':=?a14) rfl (y_runG (by first|rfl|simp[Region.wanted,yielded,Act.put,Act.eval]) λw hS=>?p14) ?h14 ?_
 case p14=>go_simp;try first|exact rfl|exact hwM.symm
 case h14=>go_simp;exact rfl
 refine step_take2 (v:=?v15) (a':=?a15) rfl (y_runG (by first|rfl|simp[Region.wanted,yielded,Act.put,Act.eval]) λw hS=>?p15) ?h15 ?_
 case p15=>go_simp;try first|exact rfl|exact hwM.symm
 case h15=>go_simp;exact rfl
 refine step_take2 (v:=?v16) (a':=?a16) rfl (y_runG (by first|rfl|simp[Region.wanted,yielded,Act.put,Act.eval]) λw hS=>?p16) ?h16 ?_
 case p16=>go_simp;try first|exact rfl|exact hwM.symm
 case h16=>go_simp;exact rfl
 refine step_take2 (v:=?v17) (a':=?a17) rfl (y_runG (by first|rfl|simp[Region.wanted,yielded,Act.put,Act.eval]) λw hS=>?p17) ?h17 ?_
 case p17=>go_simp;try first|exact rfl|exact hwM.symm
 case h17=>go_simp;exact rfl
 refine step_take2 (v:=?v18) (a':=?a18) rfl (y_runG (by first|rfl|simp[Region.wanted,yielded,Act.put,Act.eval]) λw hS=>?p18) ?h18 ?_
 case p18=>go_simp;try first|exact rfl|exact hwM.symm
 case h18=>go_simp;exact rfl
 refine step_take2 (v:=undef) (a':=?a19) rfl (y_skip (by first|rfl|simp[Region.wanted,yielded,Act.put,Act.eval])) ?h19 ?_
 case h19=>go_simp;exact rfl
 refine step_take2 (v:=undef) (a':=?a20) rfl (y_skip (by first|rfl|simp[Region.wanted,yielded,Act.put,Act.eval])) ?h20 ?_
 case h20=>go_simp;exact rfl
 refine step_take2 (v:=undef) (a':=?a21) rfl (y_skip (by first|rfl|simp[Region.wanted,yielded,Act.put,Act.eval])) ?h21 ?_
 case h21=>go_simp;exact rfl
 refine step_take2 (v:=undef) (a':=?a22) rfl (y_skip (by first|rfl|simp[Region.wanted,yielded,Act.put,Act.eval])) ?h22 ?_
 case h22=>go_simp;exact rfl
 refine step_take2 (v:=undef) (a':=?a23) rfl (y_skip (by first|rfl|simp[Region.wanted,yielded,Act.put,Act.eval])) ?h23 ?_
 case h23=>go_simp;exact rfl
 refine step_take2 (v:=undef) (a':=?a24) rfl (y_skip (by first|rfl|simp[Region.wanted,yielded,Act.put,Act.eval])) ?h24 ?_
 case h24=>go_simp;exact rfl
 refine step_take2 (v:=undef) (a':=?a25) rfl (y_skip (by first|rfl|simp[Region.wanted,yielded,Act.put,Act.eval])) ?h25 ?_
 case h25=>go_simp;exact rfl
 refine step_take2 (v:=undef) (a':=?a26) rfl (y_skip (by first|rfl|simp[Region.wanted,yielded,Act.put,Act.eval])) ?h26 ?_
 case h26=>go_simp;exact rfl
 refine step_take2 (v:=undef) (a':=?a27) rfl (y_skip (by first|rfl|simp[Region.wanted,yielded,Act.put,Act.eval])) ?h27 ?_
 case h27=>go_simp;exact rfl
 refine step_take2 (v:=undef) (a':=?a28) rfl (y_skip (by first|rfl|simp[Region.wanted,yielded,Act.put,Act.eval])) ?h28 ?_
 case h28=>go_simp;exact rfl
 refine step_take2 (v:=undef) (a':=?a29) rfl (y_skip (by first|rfl|simp[Region.wanted,yielded,Act.put,Act.eval])) ?h29 ?_
 case h29=>go_simp;exact rfl
 refine step_take2 (v:=undef) (a':=?a30) rfl (y_skip (by first|rfl|simp[Region.wanted,yielded,Act.put,Act.eval])) ?h30 ?_
 case h30=>go_simp;exact rfl
 refine step_take2 (v:=undef) (a':=?a31) rfl (y_skip (by first|rfl|simp[Region.wanted,yielded,Act.put,Act.eval])) ?h31 ?_
 case h31=>go_simp;exact rfl
 refine step_take2 (v:=undef) (a':=?a32) rfl (y_skip (by first|rfl|simp[Region.wanted,yielded,Act.put,Act.eval])) ?h32 ?_
 case h32=>go_simp;exact rfl
 refine step_take2 (v:=undef) (a':=?a33) rfl (y_skip (by first|rfl|simp[Region.wanted,yielded,Act.put,Act.eval])) ?h33 ?_
 case h33=>go_simp;exact rfl
 refine step_take2 (v:=undef) (a':=?a34) rfl (y_skip (by first|rfl|simp[Region.wanted,yielded,Act.put,Act.eval])) ?h34 ?_
 case h34=>go_simp;exact rfl
 refine step_op rfl λK' hK=>?_
 rw[if_neg (by first|decide|simp[Region.wanted,yielded,Act.put,Act.eval,undef])]
 refine hK _ _ ⟨trivial,?_⟩
 clear hK K'
 refine step_take2 (v:=undef) (a':=?a36) rfl (y_skip (by first|rfl|simp[Region.wanted,yielded,Act.put,Act.eval])) ?h36 ?_
 case h36=>go_simp;exact rfl
 refine step_take2 (v:=undef) (a':=?a37) rfl (y_skip (by first|rfl|simp[Region.wanted,yielded,Act.put,Act.eval])) ?h37 ?_
 case h37=>go_simp;exact rfl
 refine step_take2 (v:=?v38) (a':=?a38) rfl (y_runG (by first|rfl|simp[Region.wanted,yielded,Act.put,Act.eval]) λw hS=>?p38) ?h38 ?_
 case p38=>go_simp;try first|exact rfl|exact hwM.symm
 case h38=>go_simp;exact rfl
 refine step_nil ?_
 simp only[List.drop_succ_cons,List.drop_zero]
 go_wp2
 refine NoPanic.normal ?_
 refine of_wp ?_
 go_wp2
 have h9:=hS2.out
 rw[reads_erase]at h9
 exact⟨rfl,_,_,_,_,_,_,_,hlenr.out,by simp[hrH.out],h9.new hgH.out ((Below.refl _ _).drew),rfl⟩
end
end Go.Rm
