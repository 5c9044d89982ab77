/-
  The law WorldBag: walked whole.
-/
import Derived.Test.YticddijkkbcdmaaGreatRbY
import Derived.Test.YticddijkkbcdmaaGreatRbZ1
import Derived.Test.YticddijkkbcdmaaGreatRbZ2
set_option linter.unusedVariables false
set_option linter.unusedSimpArgs false
noncomputable section
namespace Go.Rm
open Go Go.Conc Go.Proofs Go.RowKit Go.Kn Go.Ry Go.Ev
theorem open_bag {C:List Value→Prop} (h:∀(u8 u9 u10 u11 u12 u13 u14 u15 u16 u17 u18 u19 u20 u21 u22 u23 u24 u25 u26 u27 u28 u29 u30 u31 u32 u33 u34 u35 u36 u37 u38 u39 u40 u41 u42 u43 u44 u45 u46 u47 u48 u49 u50 u51 u52 u53 u54 u55 u56 u57 u58 u59 u60 u61 u62 u63 u64 u65 u66 u67 u68 u69 u70 u71 u72 u73 u74 u75 u76 u77 u78 u79 u80 u81 u82 u83 u84 u85 u86 u87 u88 u89 u90 u91 u92 u93 u94 u95 u96 u97 u98 u99 u100 u101 u102 u103 u104 u105 u106 u107 u108 u109 u110 u111 u112 u113 u114 u115 u116 u117 u118 u119 u120 u121 u122 u123:Value) (rest:List Value),rest.length=49→C (u8::u9::u10::u11::u12::u13::u14::u15::u16::u17::u18::u19::u20::u21::u22::u23::u24::u25::u26::u27::u28::u29::u30::u31::u32::u33::u34::u35::u36::u37::u38::u39::u40::u41::u42::u43::u44::u45::u46::u47::u48::u49::u50::u51::u52::u53::u54::u55::u56::u57::u58::u59::u60::u61::u62::u63::u64::u65::u66::u67::u68::u69::u70::u71::u72::u73::u74::u75::u76::u77::u78::u79::u80::u81::u82::u83::u84::u85::u86::u87::u88::u89::u90::u91::u92::u93::u94::u95::u96::u97::u98::u99::u100::u101::u102::u103::u104::u105::u106::u107::u108::u109::u110::u111::u112::u113::u114::u115::u116::u117::u118::u119::u120::u121::u122::u123::rest)):∀f:List Value,f.length=165→C f:=by
 refine open10 ?_
 intro u8 u9 u10 u11 u12 u13 u14 u15 u16 u17
 refine open10 ?_
 intro u18 u19 u20 u21 u22 u23 u24 u25 u26 u27
 refine open10 ?_
 intro u28 u29 u30 u31 u32 u33 u34 u35 u36 u37
 refine open10 ?_
 intro u38 u39 u40 u41 u42 u43 u44 u45 u46 u47
 refine open10 ?_
 intro u48 u49 u50 u51 u52 u53 u54 u55 u56 u57
 refine open10 ?_
 intro u58 u59 u60 u61 u62 u63 u64 u65 u66 u67
 refine open10 ?_
 intro u68 u69 u70 u71 u72 u73 u74 u75 u76 u77
 refine open10 ?_
 intro u78 u79 u80 u81 u82 u83 u84 u85 u86 u87
 refine open10 ?_
 intro u88 u89 u90 u91 u92 u93 u94 u95 u96 u97
 refine open10 ?_
 intro u98 u99 u100 u101 u102 u103 u104 u105 u106 u107
 refine open10 ?_
 intro u108 u109 u110 u111 u112 u113 u114 u115 u116 u117
 refine open1 ?_
 intro u118
 refine open1 ?_
 intro u119
 refine open1 ?_
 intro u120
 refine open1 ?_
 intro u121
 refine open1 ?_
 intro u122
 refine open1 ?_
 intro u123
 exact h u8 u9 u10 u11 u12 u13 u14 u15 u16 u17 u18 u19 u20 u21 u22 u23 u24 u25 u26 u27 u28 u29 u30 u31 u32 u33 u34 u35 u36 u37 u38 u39 u40 u41 u42 u43 u44 u45 u46 u47 u48 u49 u50 u51 u52 u53 u54 u55 u56 u57 u58 u59 u60 u61 u62 u63 u64 u65 u66 u67 u68 u69 u70 u71 u72 u73 u74 u75 u76 u77 u78 u79 u80 u81 u82 u83 u84 u85 u86 u87 u88 u89 u90 u91 u92 u93 u94 u95 u96 u97 u98 u99 u100 u101 u102 u103 u104 u105 u106 u107 u108 u109 u110 u111 u112 u113 u114 u115 u116 u117 u118 u119 u120 u121 u122 u123
theorem open_now {C:List Value→Prop} (h:∀(u16 u17 u18 u19 u20 u21 u22 u23 u24 u25 u26 u27 u28 u29 u30 u31 u32 u33 u34 u35 u36 u37 u38 u39 u40 u41 u42 u43 u44 u45 u46 u47 u48 u49 u50 u51 u52 u53 u54 u55 u56 u57 u58 u59 u60 u61 u62 u63 u64 u65 u66 u67 u68 u69 u70 u71 u72 u73 u74 u75 u76 u77 u78 u79 u80 u81 u82 u83 u84 u85 u86 u87 u88 u89 u90 u91 u92 u93 u94 u95 u96 u97 u98 u99 u100 u101 u102 u103 u104 u105 u106 u107 u108 u109 u110 u111 u112 u113 u114 u115 u116 u117 u118 u119 u120 u121 u122 u123 u124 u125 u126 u127 u128 u129 u130 u131 u132 u133 u134 u135 u136 u137 u138 u139:Value) (rest:List Value),rest.length=33→C (u16::u17::u18::u19::u20::u21::u22::u23::u24::u25::u26::u27::u28::u29::u30::u31::u32::u33::u34::u35::u36::u37::u38::u39::u40::u41::u42::u43::u44::u45::u46::u47::u48::u49::u50::u51::u52::u53::u54::u55::u56::u57::u58::u59::u60::u61::u62::u63::u64::u65::u66::u67::u68::u69::u70::u71::u72::u73::u74::u75::u76::u77::u78::u79::u80::u81::u82::u83::u84::u85::u86::u87::u88::u89::u90::u91::u92::u93::u94::u95::u96::u97::u98::u99::u100::u101::u102::u103::u104::u105::u106::u107::u108::u109::u110::u111::u112::u113::u114::u115::u116::u117::u118::u119::u120::u121::u122::u123::u124::u125::u126::u127::u128::u129::u130::u131::u132::u133::u134::u135::u136::u137::u138::u139::rest)):∀f:List Value,f.length=157→C f:=by
 refine open10 ?_
 intro u16 u17 u18 u19 u20 u21 u22 u23 u24 u25
 refine open10 ?_
 intro u26 u27 u28 u29 u30 u31 u32 u33 u34 u35
 refine open10 ?_
 intro u36 u37 u38 u39 u40 u41 u42 u43 u44 u45
 refine open10 ?_
 intro u46 u47 u48 u49 u50 u51 u52 u53 u54 u55
 refine open10 ?_
 intro u56 u57 u58 u59 u60 u61 u62 u63 u64 u65
 refine open10 ?_
 intro u66 u67 u68 u69 u70 u71 u72 u73 u74 u75
 refine open10 ?_
 intro u76 u77 u78 u79 u80 u81 u82 u83 u84 u85
 refine open10 ?_
 intro u86 u87 u88 u89 u90 u91 u92 u93 u94 u95
 refine open10 ?_
 intro u96 u97 u98 u99 u100 u101 u102 u103 u104 u105
 refine open10 ?_
 intro u106 u107 u108 u109 u110 u111 u112 u113 u114 u115
 refine open10 ?_
 intro u116 u117 u118 u119 u120 u121 u122 u123 u124 u125
 refine open10 ?_
 intro u126 u127 u128 u129 u130 u131 u132 u133 u134 u135
 refine open1 ?_
 intro u136
 refine open1 ?_
 intro u137
 refine open1 ?_
 intro u138
 refine open1 ?_
 intro u139
 exact h u16 u17 u18 u19 u20 u21 u22 u23 u24 u25 u26 u27 u28 u29 u30 u31 u32 u33 u34 u35 u36 u37 u38 u39 u40 u41 u42 u43 u44 u45 u46 u47 u48 u49 u50 u51 u52 u53 u54 u55 u56 u57 u58 u59 u60 u61 u62 u63 u64 u65 u66 u67 u68 u69 u70 u71 u72 u73 u74 u75 u76 u77 u78 u79 u80 u81 u82 u83 u84 u85 u86 u87 u88 u89 u90 u91 u92 u93 u94 u95 u96 u97 u98 u99 u100 u101 u102 u103 u104 u105 u106 u107 u108 u109 u110 u111 u112 u113 u114 u115 u116 u117 u118 u119 u120 u121 u122 u123 u124 u125 u126 u127 u128 u129 u130 u131 u132 u133 u134 u135 u136 u137 u138 u139
theorem IntsAt.on {w V:World} {ao:Option Addr} {zs:List Int} (h:IntsAt w ao zs) (hb:Below w.heap.size w V):IntsAt V ao zs:=λh0=>by
 obtain⟨b,o,rfl,hc⟩:=h h0
 exact⟨b,o,rfl,λj hj=>(hb.cell (World.block_lt_of_cell? w _ (hc j hj))).trans (hc j hj)⟩
set_option maxHeartbeats 8000000 in
set_option maxRecDepth 100000 in
theorem law_ok (zs xs:List Int) (ao1 ao2:Option Addr) (c1 c2:Nat) (w:World) (hz:IntsAt w ao1 zs) (hx:IntsAt w ao2 xs):
 Calls Tryz.prog 3 #[.slice ao1 zs.length c1,.slice ao2 xs.length c2] w λe w'=>e=.returned (.bool true)∧Below w.heap.size w w':=by
 have haw:Hid _:=awake_ok w
 refine calls_of_wpN Tryz.func3 rfl ?_
 simp only[Tryz.ntmps3,List.size_toArray,List.length_cons,List.length_nil,Nat.reduceAdd,Nat.reduceSub,Array.replicate_succ,
  Array.replicate_zero,List.push_toArray,List.append_toArray,List.nil_append,List.cons_append]
 refine wpN_seq (of_wp ?_)
 go_wp2
 refine wpN_seq (of_wp ?_)
 go_wp2_with (go_at_call 4;refine Calls.mono haw.out ?_;rintro e W1 ⟨rfl,hb1⟩;clear haw;replace hb1:Hid _:=hb1)
 have hz1:Hid _:=hz.on hb1.out
 have hx1:Hid _:=hx.on hb1.out
 have hthree:Hid _:=three_ok W1
 clear hz hx
 refine wpN_seq (of_wp ?_)
 go_wp2_with (go_at_call 5;refine Calls.mono hthree.out ?_;rintro e W2 ⟨G,ρ,p,rfl,hg,hS⟩;clear hthree;replace hg:Hid _:=hg;replace hS:Hid _:=hS)
 refine wpN_seq (of_wp ?_)
 go_wp2
 refine wpN_seq ?_
 refine wpN_seq (of_wp ?_)
 go_wp2
 refine(loop_send hg.out _ _ _ _ _ _ _ (by rfl) hS.out).mono ?_
 rintro e a V ⟨rfl,rs,bv,sv,ns,ss,t,f,hr5,hf,hS2,rfl⟩
 have hS2H:Hid _:=hS2
 clear hS hS2
 obtain⟨u8,f8,rfl,hf8⟩:=cons_of hf
 refine wpN_seq ?_
 refine wpN_seq (of_wp ?_)
 go_wp2
 refine(loop_pick hg.out (Nat.le_refl _) zs xs ao1 ao2 c1 c2 hz1.out hx1.out _ _ _ _ _ f8 hf8 hr5 hS2H.out).mono ?_
 clear hS2H hr5 hf hf8
 rintro e a V ⟨rfl,n,rs,bv,sv,ns,ss,t,f,hn,hl,hf,hS,rfl⟩
 have hbag:Hid _:=sb_bag hg.out hS (by rw[reads_len];omega)
 have hSH:Hid _:=hS
 have hrlen:Hid _:=reads_len rs
 clear hS
 revert f
 refine open_bag ?_
 intro u8 u9 u10 u11 u12 u13 u14 u15 u16 u17 u18 u19 u20 u21 u22 u23 u24 u25 u26 u27 u28 u29 u30 u31 u32 u33 u34 u35 u36 u37 u38 u39 u40 u41 u42 u43 u44 u45 u46 u47 u48 u49 u50 u51 u52 u53 u54 u55 u56 u57 u58 u59 u60 u61 u62 u63 u64 u65 u66 u67 u68 u69 u70 u71 u72 u73 u74 u75 u76 u77 u78 u79 u80 u81 u82 u83 u84 u85 u86 u87 u88 u89 u90 u91 u92 u93 u94 u95 u96 u97 u98 u99 u100 u101 u102 u103 u104 u105 u106 u107 u108 u109 u110 u111 u112 u113 u114 u115 u116 u117 u118 u119 u120 u121 u122 u123 rest hr
 have hrH:Hid _:=hr
 clear hr
 refine(wpN_seq (of_wp ?_):WpN _ _ _ _ _)
 go_wp2_with (go_at_call 7;refine Calls.mono hbag.out ?_;rintro e V1 ⟨v1,rfl,hC,hS1⟩;obtain⟨ao,c,hv1⟩:=hC.val;rw[hrlen.out]at hv1;subst hv1;replace hC:Hid _:=hC.k hSH.out;replace hS1:Hid _:=hS1)
 clear hbag hSH
 refine wpN_seq ?_
 refine wpN_seq (of_wp ?_)
 go_wp2
 refine(loop_del hg.out hn hl hS1.out ao c hC.out _ _ _ _ _ _ _ _ _ _ _ _ _ _ (by simp[hrH.out])).mono ?_
 clear hC hS1 hrlen
 rintro e a V ⟨rfl,n2,bv,sv,ns,ss,t,f,hf,hS,hK,rfl⟩
 have hml:Hid _:=mix_len rs rs.length (Nat.le_refl _)
 have hbag:Hid _:=sb_bag hg.out hS (by rw[hml.out];omega)
 have hKH:Hid _:=hK
 clear hS hK
 revert f
 refine open_now ?_
 intro u16 u17 u18 u19 u20 u21 u22 u23 u24 u25 u26 u27 u28 u29 u30 u31 u32 u33 u34 u35 u36 u37 u38 u39 u40 u41 u42 u43 u44 u45 u46 u47 u48 u49 u50 u51 u52 u53 u54 u55 u56 u57 u58 u59 u60 u61 u62 u63 u64 u65 u66 u67 u68 u69 u70 u71 u72 u73 u74 u75 u76 u77 u78 u79 u80 u81 u82 u83 u84 u85 u86 u87 u88 u89 u90 u91 u92 u93 u94 u95 u96 u97 u98 u99 u100 u101 u102 u103 u104 u105 u106 u107 u108 u109 u110 u111 u112 u113 u114 u115 u116 u117 u118 u119 u120 u121 u122 u123 u124 u125 u126 u127 u128 u129 u130 u131 u132 u133 u134 u135 u136 u137 u138 u139 rest2 hr2
 have hr2H:Hid _:=hr2
 clear hr2
 refine(wpN_seq (of_wp ?_):WpN _ _ _ _ _)
 go_wp2_with (go_at_call 7;refine Calls.mono hbag.out ?_;rintro e V2 ⟨v2,rfl,hC,hS1⟩;obtain⟨ao2,c2,hv2⟩:=hC.val;rw[hml.out]at hv2;subst hv2;replace hC:Hid _:=hC;replace hS1:Hid _:=hS1)
 have hcmp:Hid (CmpS W1.heap.size W1 rs ao ao2 V2):=⟨hS1.out.below,λi hi=>by
  obtain⟨g1,d1,e1,_,_,_,_,k1⟩:=(hKH.out.new hC.out.below).at' i (by rw[reads_len];exact hi)
  obtain⟨g2,d2,e2,_,k2⟩:=hC.out.at' i (by rw[hml.out];exact hi)
  have m1:cellsM ((reads rs)[i]'(by rw[reads_len];exact hi))=readN rs[i]:=by rw[reads_at];rfl
  have m2:(mix rs rs.length)[i]'(by rw[hml.out];exact hi)=(true,rs[i]):=by simp[mix_all]
  rw[m1]at k1
  rw[m2]at k2
  exact⟨g1,g2,(Value.slice.inj e1).1,(Value.slice.inj e2).1,k1 10 _ rfl,k2 0 _ rfl,k2 11 _ rfl,k2 10 _ rfl⟩⟩
 clear hbag hKH hC hS1 hml
 refine wpN_seq (of_wp ?_)
 go_wp2
 refine wpN_seq ?_
 refine wpN_seq (of_wp ?_)
 go_wp2
 refine(loop_cmp _ _ hl hcmp.out _ _ _ _ _ _ _ _ _ _ _ _ _ _ _ _ (by simp[hr2H.out])).mono ?_
 rintro e a V3 ⟨rfl,s17,f,hf,hb3,rfl⟩
 have hb3H:Hid _:=hb3
 clear hb3 hcmp
 refine(wpN_seq (of_wp ?_):WpN _ _ _ _ _)
 go_wp2
 refine of_wp ?_
 go_wp2
 go_ret
 exact⟨rfl,hb1.out.trans (hb3H.out.mono hb1.out.size)⟩
end Go.Rm
