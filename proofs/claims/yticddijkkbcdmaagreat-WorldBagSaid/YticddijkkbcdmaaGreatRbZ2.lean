/-
  The law's comparison.
-/
import Derived.Test.YticddijkkbcdmaaGreatRbW
set_option linter.unusedVariables false
set_option linter.unusedSimpArgs false
noncomputable section
namespace Go.Rm
open Go Go.Conc Go.Proofs Go.RowKit Go.Kn Go.Ry Go.Ev
theorem open_cmp {C:List Value→Prop} (h:∀(u18 u19 u20 u21 u22 u23 u24 u25 u26 u27 u28 u29 u30 u31 u32 u33 u34 u35 u36 u37 u38 u39 u40 u41 u42 u43 u44 u45 u46 u47 u48 u49 u50 u51 u52 u53 u54 u55 u56 u57 u58 u59 u60 u61 u62 u63 u64 u65 u66 u67 u68 u69 u70 u71 u72 u73 u74 u75 u76 u77 u78 u79 u80 u81 u82 u83 u84 u85 u86 u87 u88 u89 u90 u91 u92 u93 u94 u95 u96 u97 u98 u99 u100 u101 u102 u103 u104 u105 u106 u107 u108 u109 u110 u111 u112 u113 u114 u115 u116 u117 u118 u119 u120 u121 u122 u123 u124 u125 u126 u127 u128 u129 u130 u131 u132 u133 u134 u135 u136 u137 u138 u139 u140 u141 u142 u143 u144 u145 u146 u147 u148 u149 u150 u151 u152 u153 u154 u155 u156 u157 u158 u159 u160 u161 u162 u163 u164 u165 u166 u167 u168 u169 u170 u171 u172:Value) (rest:List Value),rest.length=0→C (u18::u19::u20::u21::u22::u23::u24::u25::u26::u27::u28::u29::u30::u31::u32::u33::u34::u35::u36::u37::u38::u39::u40::u41::u42::u43::u44::u45::u46::u47::u48::u49::u50::u51::u52::u53::u54::u55::u56::u57::u58::u59::u60::u61::u62::u63::u64::u65::u66::u67::u68::u69::u70::u71::u72::u73::u74::u75::u76::u77::u78::u79::u80::u81::u82::u83::u84::u85::u86::u87::u88::u89::u90::u91::u92::u93::u94::u95::u96::u97::u98::u99::u100::u101::u102::u103::u104::u105::u106::u107::u108::u109::u110::u111::u112::u113::u114::u115::u116::u117::u118::u119::u120::u121::u122::u123::u124::u125::u126::u127::u128::u129::u130::u131::u132::u133::u134::u135::u136::u137::u138::u139::u140::u141::u142::u143::u144::u145::u146::u147::u148::u149::u150::u151::u152::u153::u154::u155::u156::u157::u158::u159::u160::u161::u162::u163::u164::u165::u166::u167::u168::u169::u170::u171::u172::rest)):∀f:List Value,f.length=155→C f:=by
 refine open10 ?_
 intro u18 u19 u20 u21 u22 u23 u24 u25 u26 u27
 refine open10 ?_
 intro u28 u29 u30 u31 u32 u33 u34 u35 u36 u37
 refine open10 ?_
 intro u38 u39 u40 u41 u42 u43 u44 u45 u46 u47
 refine open10 ?_
 intro u48 u49 u50 u51 u52 u53 u54 u55 u56 u57
 refine open10 ?_
 intro u58 u59 u60 u61 u62 u63 u64 u65 u66 u67
 refine open10 ?_
 intro u68 u69 u70 u71 u72 u73 u74 u75 u76 u77
 refine open10 ?_
 intro u78 u79 u80 u81 u82 u83 u84 u85 u86 u87
 refine open10 ?_
 intro u88 u89 u90 u91 u92 u93 u94 u95 u96 u97
 refine open10 ?_
 intro u98 u99 u100 u101 u102 u103 u104 u105 u106 u107
 refine open10 ?_
 intro u108 u109 u110 u111 u112 u113 u114 u115 u116 u117
 refine open10 ?_
 intro u118 u119 u120 u121 u122 u123 u124 u125 u126 u127
 refine open10 ?_
 intro u128 u129 u130 u131 u132 u133 u134 u135 u136 u137
 refine open10 ?_
 intro u138 u139 u140 u141 u142 u143 u144 u145 u146 u147
 refine open10 ?_
 intro u148 u149 u150 u151 u152 u153 u154 u155 u156 u157
 refine open10 ?_
 intro u158 u159 u160 u161 u162 u163 u164 u165 u166 u167
 refine open1 ?_
 intro u168
 refine open1 ?_
 intro u169
 refine open1 ?_
 intro u170
 refine open1 ?_
 intro u171
 refine open1 ?_
 intro u172
 exact h u18 u19 u20 u21 u22 u23 u24 u25 u26 u27 u28 u29 u30 u31 u32 u33 u34 u35 u36 u37 u38 u39 u40 u41 u42 u43 u44 u45 u46 u47 u48 u49 u50 u51 u52 u53 u54 u55 u56 u57 u58 u59 u60 u61 u62 u63 u64 u65 u66 u67 u68 u69 u70 u71 u72 u73 u74 u75 u76 u77 u78 u79 u80 u81 u82 u83 u84 u85 u86 u87 u88 u89 u90 u91 u92 u93 u94 u95 u96 u97 u98 u99 u100 u101 u102 u103 u104 u105 u106 u107 u108 u109 u110 u111 u112 u113 u114 u115 u116 u117 u118 u119 u120 u121 u122 u123 u124 u125 u126 u127 u128 u129 u130 u131 u132 u133 u134 u135 u136 u137 u138 u139 u140 u141 u142 u143 u144 u145 u146 u147 u148 u149 u150 u151 u152 u153 u154 u155 u156 u157 u158 u159 u160 u161 u162 u163 u164 u165 u166 u167 u168 u169 u170 u171 u172
structure CmpS (g0:Nat) (w:World) (rs:List Nat) (ao1 ao2:Option Addr) (V:World):Prop where
 below:Below g0 w V
 at':∀(i:Nat) (h:i<rs.length),∃g1 g2,ao1=some ⟨g1,0,none⟩∧ao2=some ⟨g2,0,none⟩∧V.cell? ⟨g1,i*20+10,none⟩=some (.int .i64 (rs[i]:Nat))∧V.cell? ⟨g2,i*20,none⟩=some (.int .i64 3)∧V.cell? ⟨g2,i*20+11,none⟩=some (.int .i64 2)∧V.cell? ⟨g2,i*20+10,none⟩=some (.int .i64 (rs[i]:Nat))
def AtCmp (g0:Nat) (w:World) (sl1 sl2:Value) (s0 s1 s2 s3 s4 s5 s6 s7 s8 s9 s10 s11 s12 s13 s15:Value):Exit→Act→World→Prop:=λe a V=>e=.normal∧∃(s17:Value) (f:List Value),f.length=155∧Below g0 w V∧a=⟨(s0::s1::s2::s3::s4::s5::s6::s7::s8::s9::s10::s11::s12::s13::sl1::s15::sl2::s17::f).toArray,[]⟩
def InvCmp (g0:Nat) (w:World) (rs:List Nat) (ao1 ao2:Option Addr) (c1 c2:Nat) (s0 s1 s2 s3 s4 s5 s6 s7 s8 s9 s10 s11 s12 s13 s15:Value) (a:Act) (V:World):Prop:=∃(i:Nat) (f:List Value),i≤rs.length∧f.length=155∧CmpS g0 w rs ao1 ao2 V∧a=⟨(s0::s1::s2::s3::s4::s5::s6::s7::s8::s9::s10::s11::s12::s13::.slice ao1 rs.length c1::s15::.slice ao2 rs.length c2::.int .i64 (i:Nat)::f).toArray,[]⟩
set_option maxHeartbeats 8000000 in
set_option maxRecDepth 100000 in
theorem loop_cmp {g0:Nat} {w V:World} {rs:List Nat} {ao1 ao2:Option Addr} (c1 c2:Nat) (hl:rs.length≤25) (h0:CmpS g0 w rs ao1 ao2 V) (s0 s1 s2 s3 s4 s5 s6 s7 s8 s9 s10 s11 s12 s13 s15:Value) (f:List Value) (hf:f.length=155):
 WpN Tryz.prog cCmp (AtCmp g0 w (.slice ao1 rs.length c1) (.slice ao2 rs.length c2) s0 s1 s2 s3 s4 s5 s6 s7 s8 s9 s10 s11 s12 s13 s15) ⟨(s0::s1::s2::s3::s4::s5::s6::s7::s8::s9::s10::s11::s12::s13::.slice ao1 rs.length c1::s15::.slice ao2 rs.length c2::.int .i64 0::f).toArray,[]⟩ V:=by
 have mixed:Tryz.prog.follows .mixedOrders=true:=by kernel_rfl
 refine wpN_block (wpN_loop (InvCmp g0 w rs ao1 ao2 c1 c2 s0 s1 s2 s3 s4 s5 s6 s7 s8 s9 s10 s11 s12 s13 s15) (λa _=>100-lat17 a) ?_ ?_)
 ·exact⟨0,f,Nat.zero_le _,hf,h0,rfl⟩
 ·clear h0 hf f
  rintro a V ⟨i,f,hi,hf,hS,rfl⟩
  revert f
  refine open_cmp ?_
  intro u18 u19 u20 u21 u22 u23 u24 u25 u26 u27 u28 u29 u30 u31 u32 u33 u34 u35 u36 u37 u38 u39 u40 u41 u42 u43 u44 u45 u46 u47 u48 u49 u50 u51 u52 u53 u54 u55 u56 u57 u58 u59 u60 u61 u62 u63 u64 u65 u66 u67 u68 u69 u70 u71 u72 u73 u74 u75 u76 u77 u78 u79 u80 u81 u82 u83 u84 u85 u86 u87 u88 u89 u90 u91 u92 u93 u94 u95 u96 u97 u98 u99 u100 u101 u102 u103 u104 u105 u106 u107 u108 u109 u110 u111 u112 u113 u114 u115 u116 u117 u118 u119 u120 u121 u122 u123 u124 u125 u126 u127 u128 u129 u130 u131 u132 u133 u134 u135 u136 u137 u138 u139 u140 u141 u142 u143 u144 u145 u146 u147 u148 u149 u150 u151 u152 u153 u154 u155 u156 u157 u158 u159 u160 u161 u162 u163 u164 u165 u166 u167 u168 u169 u170 u171 u172 rest hr
  obtain rfl:=List.eq_nil_of_length_eq_zero hr
  clear hr
  have hSH:Hid _:=hS
  rcases Nat.lt_or_ge i rs.length with hlt|hge
  ·obtain⟨g1,g2,rfl,rfl,k1,k2,k3,k4⟩:=hS.at' i hlt
   obtain⟨x,hx⟩:∃x,rs[i]=x:=⟨_,rfl⟩
   rw[hx]at k1 k4
   have hT:Hid (V.drew.cell? ⟨g1,i*20+10,none⟩=some (.int .i64 (x:Nat))∧V.drew.cell? ⟨g2,i*20,none⟩=some (.int .i64 3)∧V.drew.cell? ⟨g2,i*20+11,none⟩=some (.int .i64 2)∧V.drew.cell? ⟨g2,i*20+10,none⟩=some (.int .i64 (x:Nat))):=⟨k1,k2,k3,k4⟩
   have hlt2:Hid _:=hlt
   obtain⟨L,hL⟩:∃L,rs.length=L:=⟨_,rfl⟩
   have hLH:Hid _:=hL
   have hj1:(i:Int)<(L:Int):=by omega
   have hj2:i<L:=by omega
   have hj3:i≤25:=by omega
   rw[hL]
   clear hS k1 k2 k3 k4 hx hlt hi
   refine wpN_seq (of_wp ?_)
   go_wp2
   refine wpN_seq (wpN_block ?_)
   refine wpN_seq (of_wp ?_)
   refine wp_region_noPanic (wp_region_steps 26 [(0,true),(1,true),(2,true),(3,true),(4,true),(5,true),(6,true),(7,true),(8,true),(9,true),(10,true),(11,true),(12,true),(13,true),(14,true),(15,true),(16,true),(17,true),(18,true),(19,true),(20,true),(21,true),(22,true),(23,true),(24,true),(25,true)] (λV=>V.cell? ⟨g1,i*20+10,none⟩=some (.int .i64 (x:Nat))∧V.cell? ⟨g2,i*20,none⟩=some (.int .i64 3)∧V.cell? ⟨g2,i*20+11,none⟩=some (.int .i64 2)∧V.cell? ⟨g2,i*20+10,none⟩=some (.int .i64 (x:Nat))) mixed (by kernel_rfl) (λ_ _ _ _ h=>h.elim) hT.out ?_)
   refine step_take2 (v:=?v0) (a':=?a0) rfl (y_runG (by first|rfl|simp[Region.wanted,yielded,Act.put,Act.eval]) λw hS=>?p0) ?h0 ?_
   case p0=>clear hS;go_simp;try first|exact rfl|exact hj0.symm
   case h0=>go_simp;exact rfl
   refine step_take2 (v:=?v1) (a':=?a1) rfl (y_runG (by first|rfl|simp[Region.wanted,yielded,Act.put,Act.eval]) λw hS=>?p1) ?h1 ?_
   case p1=>clear hS;go_simp;try first|exact rfl|exact hj0.symm
   case h1=>go_simp;exact rfl
   refine step_take2 (v:=?v2) (a':=?a2) rfl (y_runG (by first|rfl|simp[Region.wanted,yielded,Act.put,Act.eval]) λw hS=>?p2) ?h2 ?_
   case p2=>clear hS;go_simp;try first|exact rfl|exact hj0.symm
   case h2=>go_simp;exact rfl
   refine step_take2 (v:=?v3) (a':=?a3) rfl (y_runG (by first|rfl|simp[Region.wanted,yielded,Act.put,Act.eval]) λw hS=>?p3) ?h3 ?_
   case p3=>clear hS;go_simp;try first|exact rfl|exact hj0.symm
   case h3=>go_simp;exact rfl
   refine step_take2 (v:=?v4) (a':=?a4) rfl (y_runG (by first|rfl|simp[Region.wanted,yielded,Act.put,Act.eval]) λw hS=>?p4) ?h4 ?_
   case p4=>obtain⟨hs1,hs2,hs3,hs4⟩:=hS;go_simp;try first|exact rfl|exact hj0.symm
   case h4=>go_simp;exact rfl
   refine step_take2 (v:=?v5) (a':=?a5) rfl (y_runG (by first|rfl|simp[Region.wanted,yielded,Act.put,Act.eval]) λw hS=>?p5) ?h5 ?_
   case p5=>clear hS;go_simp;try first|exact rfl|exact hj0.symm
   case h5=>go_simp;exact rfl
   refine step_take2 (v:=?v6) (a':=?a6) rfl (y_runG (by first|rfl|simp[Region.wanted,yielded,Act.put,Act.eval]) λw hS=>?p6) ?h6 ?_
   case p6=>clear hS;go_simp;try first|exact rfl|exact hj0.symm
   case h6=>go_simp;exact rfl
   refine step_take2 (v:=?v7) (a':=?a7) rfl (y_runG (by first|rfl|simp[Region.wanted,yielded,Act.put,Act.eval]) λw hS=>?p7) ?h7 ?_
   case p7=>clear hS;go_simp;try first|exact rfl|exact hj0.symm
   case h7=>go_simp;exact rfl
   refine step_take2 (v:=?v8) (a':=?a8) rfl (y_runG (by first|rfl|simp[Region.wanted,yielded,Act.put,Act.eval]) λw hS=>?p8) ?h8 ?_
   case p8=>clear hS;go_simp;try first|exact rfl|exact hj0.symm
   case h8=>go_simp;exact rfl
   refine step_take2 (v:=?v9) (a':=?a9) rfl (y_runG (by first|rfl|simp[Region.wanted,yielded,Act.put,Act.eval]) λw hS=>?p9) ?h9 ?_
   case p9=>clear hS;go_simp;try first|exact rfl|exact hj0.symm
   case h9=>go_simp;exact rfl
   refine step_take2 (v:=?v10) (a':=?a10) rfl (y_runG (by first|rfl|simp[Region.wanted,yielded,Act.put,Act.eval]) λw hS=>?p10) ?h10 ?_
   case p10=>clear hS;go_simp;try first|exact rfl|exact hj0.symm
   case h10=>go_simp;exact rfl
   refine step_take2 (v:=?v11) (a':=?a11) rfl (y_runG (by first|rfl|simp[Region.wanted,yielded,Act.put,Act.eval]) λw hS=>?p11) ?h11 ?_
   case p11=>obtain⟨hs1,hs2,hs3,hs4⟩:=hS;go_simp;try first|exact rfl|exact hj0.symm
   case h11=>go_simp;exact rfl
   refine step_take2 (v:=?v12) (a':=?a12) rfl (y_runG (by first|rfl|simp[Region.wanted,yielded,Act.put,Act.eval]) λw hS=>?p12) ?h12 ?_
   case p12=>clear hS;go_simp;try first|exact rfl|exact hj0.symm
   case h12=>go_simp;exact rfl
   refine step_take2 (v:=?v13) (a':=?a13) rfl (y_runG (by first|rfl|simp[Region.wanted,yielded,Act.put,Act.eval]) λw hS=>?p13) ?h13 ?_
   case p13=>clear hS;go_simp;try first|exact rfl|exact hj0.symm
   case h13=>go_simp;exact rfl
   refine step_take2 (v:=?v14) (a':=?a14) rfl (y_runG (by first|rfl|simp[Region.wanted,yielded,Act.put,Act.eval]) λw hS=>?p14) ?h14 ?_
   case p14=>clear hS;go_simp;try first|exact rfl|exact hj0.symm
   case h14=>go_simp;exact rfl
   refine step_take2 (v:=?v15) (a':=?a15) rfl (y_runG (by first|rfl|simp[Region.wanted,yielded,Act.put,Act.eval]) λw hS=>?p15) ?h15 ?_
   case p15=>clear hS;go_simp;try first|exact rfl|exact hj0.symm
   case h15=>go_simp;exact rfl
   refine step_take2 (v:=?v16) (a':=?a16) rfl (y_runG (by first|rfl|simp[Region.wanted,yielded,Act.put,Act.eval]) λw hS=>?p16) ?h16 ?_
   case p16=>clear hS;go_simp;try first|exact rfl|exact hj0.symm
   case h16=>go_simp;exact rfl
   refine step_take2 (v:=?v17) (a':=?a17) rfl (y_runG (by first|rfl|simp[Region.wanted,yielded,Act.put,Act.eval]) λw hS=>?p17) ?h17 ?_
   case p17=>clear hS;go_simp;try first|exact rfl|exact hj0.symm
   case h17=>go_simp;exact rfl
   refine step_take2 (v:=?v18) (a':=?a18) rfl (y_runG (by first|rfl|simp[Region.wanted,yielded,Act.put,Act.eval]) λw hS=>?p18) ?h18 ?_
   case p18=>clear hS;go_simp;try first|exact rfl|exact hj0.symm
   case h18=>go_simp;exact rfl
   refine step_take2 (v:=?v19) (a':=?a19) rfl (y_runG (by first|rfl|simp[Region.wanted,yielded,Act.put,Act.eval]) λw hS=>?p19) ?h19 ?_
   case p19=>obtain⟨hs1,hs2,hs3,hs4⟩:=hS;go_simp;try first|exact rfl|exact hj0.symm
   case h19=>go_simp;exact rfl
   refine step_take2 (v:=?v20) (a':=?a20) rfl (y_runG (by first|rfl|simp[Region.wanted,yielded,Act.put,Act.eval]) λw hS=>?p20) ?h20 ?_
   case p20=>clear hS;go_simp;try first|exact rfl|exact hj0.symm
   case h20=>go_simp;exact rfl
   refine step_take2 (v:=?v21) (a':=?a21) rfl (y_runG (by first|rfl|simp[Region.wanted,yielded,Act.put,Act.eval]) λw hS=>?p21) ?h21 ?_
   case p21=>clear hS;go_simp;try first|exact rfl|exact hj0.symm
   case h21=>go_simp;exact rfl
   refine step_take2 (v:=?v22) (a':=?a22) rfl (y_runG (by first|rfl|simp[Region.wanted,yielded,Act.put,Act.eval]) λw hS=>?p22) ?h22 ?_
   case p22=>clear hS;go_simp;try first|exact rfl|exact hj0.symm
   case h22=>go_simp;exact rfl
   refine step_take2 (v:=?v23) (a':=?a23) rfl (y_runG (by first|rfl|simp[Region.wanted,yielded,Act.put,Act.eval]) λw hS=>?p23) ?h23 ?_
   case p23=>clear hS;go_simp;try first|exact rfl|exact hj0.symm
   case h23=>go_simp;exact rfl
   refine step_take2 (v:=?v24) (a':=?a24) rfl (y_runG (by first|rfl|simp[Region.wanted,yielded,Act.put,Act.eval]) λw hS=>?p24) ?h24 ?_
   case p24=>obtain⟨hs1,hs2,hs3,hs4⟩:=hS;go_simp;try first|exact rfl|exact hj0.symm
   case h24=>go_simp;exact rfl
   refine step_take2 (v:=?v25) (a':=?a25) rfl (y_runG (by first|rfl|simp[Region.wanted,yielded,Act.put,Act.eval]) λw hS=>?p25) ?h25 ?_
   case p25=>clear hS;go_simp;try first|exact rfl|exact hj0.symm
   case h25=>go_simp;exact rfl
   refine step_nil ?_
   simp only[List.drop_succ_cons,List.drop_zero]
   go_wp2
   refine NoPanic.normal ?_
   refine of_wp ?_
   go_wp2
   refine of_wp ?_
   go_wp2
   have h9:=hSH.out
   have hlt3:=hlt2.out
   subst hL
   exact⟨⟨i+1,_,hlt3,rfl,⟨h9.below.drew,h9.at'⟩,rfl⟩,by simp[lat17];omega⟩
  ·have hj1:¬(i:Int)<(rs.length:Int):=by omega
   clear hS
   refine wpN_seq (of_wp ?_)
   go_wp2
   exact⟨rfl,_,_,rfl,hSH.out.below,rfl⟩
end Go.Rm
