/-
  The law's deliveries.
-/
import Derived.Test.YticddijkkbcdmaaGreatRbW
set_option linter.unusedVariables false
set_option linter.unusedSimpArgs false
noncomputable section
namespace Go.Rm
open Go Go.Conc Go.Proofs Go.RowKit Go.Kn Go.Ry Go.Ev
theorem open_del {C:List Value→Prop} (h:∀(u16 u17 u18 u19 u20 u21 u22 u23 u24 u25 u26 u27 u28 u29 u30 u31 u32 u33 u34 u35 u36 u37 u38 u39 u40 u41 u42 u43 u44 u45 u46 u47 u48 u49 u50 u51 u52 u53 u54 u55 u56 u57 u58 u59 u60 u61 u62 u63 u64 u65 u66 u67 u68 u69 u70 u71 u72 u73 u74 u75 u76 u77 u78 u79 u80 u81 u82 u83 u84 u85 u86 u87 u88 u89 u90 u91 u92 u93 u94 u95 u96 u97 u98 u99 u100 u101 u102 u103 u104 u105 u106 u107 u108 u109 u110 u111 u112 u113 u114 u115 u116 u117 u118 u119 u120 u121 u122 u123 u124 u125 u126 u127 u128 u129 u130 u131 u132:Value) (rest:List Value),rest.length=40→C (u16::u17::u18::u19::u20::u21::u22::u23::u24::u25::u26::u27::u28::u29::u30::u31::u32::u33::u34::u35::u36::u37::u38::u39::u40::u41::u42::u43::u44::u45::u46::u47::u48::u49::u50::u51::u52::u53::u54::u55::u56::u57::u58::u59::u60::u61::u62::u63::u64::u65::u66::u67::u68::u69::u70::u71::u72::u73::u74::u75::u76::u77::u78::u79::u80::u81::u82::u83::u84::u85::u86::u87::u88::u89::u90::u91::u92::u93::u94::u95::u96::u97::u98::u99::u100::u101::u102::u103::u104::u105::u106::u107::u108::u109::u110::u111::u112::u113::u114::u115::u116::u117::u118::u119::u120::u121::u122::u123::u124::u125::u126::u127::u128::u129::u130::u131::u132::rest)):∀f:List Value,f.length=157→C f:=by
 refine open10 ?_
 intro u16 u17 u18 u19 u20 u21 u22 u23 u24 u25
 refine open10 ?_
 intro u26 u27 u28 u29 u30 u31 u32 u33 u34 u35
 refine open10 ?_
 intro u36 u37 u38 u39 u40 u41 u42 u43 u44 u45
 refine open10 ?_
 intro u46 u47 u48 u49 u50 u51 u52 u53 u54 u55
 refine open10 ?_
 intro u56 u57 u58 u59 u60 u61 u62 u63 u64 u65
 refine open10 ?_
 intro u66 u67 u68 u69 u70 u71 u72 u73 u74 u75
 refine open10 ?_
 intro u76 u77 u78 u79 u80 u81 u82 u83 u84 u85
 refine open10 ?_
 intro u86 u87 u88 u89 u90 u91 u92 u93 u94 u95
 refine open10 ?_
 intro u96 u97 u98 u99 u100 u101 u102 u103 u104 u105
 refine open10 ?_
 intro u106 u107 u108 u109 u110 u111 u112 u113 u114 u115
 refine open10 ?_
 intro u116 u117 u118 u119 u120 u121 u122 u123 u124 u125
 refine open1 ?_
 intro u126
 refine open1 ?_
 intro u127
 refine open1 ?_
 intro u128
 refine open1 ?_
 intro u129
 refine open1 ?_
 intro u130
 refine open1 ?_
 intro u131
 refine open1 ?_
 intro u132
 exact h u16 u17 u18 u19 u20 u21 u22 u23 u24 u25 u26 u27 u28 u29 u30 u31 u32 u33 u34 u35 u36 u37 u38 u39 u40 u41 u42 u43 u44 u45 u46 u47 u48 u49 u50 u51 u52 u53 u54 u55 u56 u57 u58 u59 u60 u61 u62 u63 u64 u65 u66 u67 u68 u69 u70 u71 u72 u73 u74 u75 u76 u77 u78 u79 u80 u81 u82 u83 u84 u85 u86 u87 u88 u89 u90 u91 u92 u93 u94 u95 u96 u97 u98 u99 u100 u101 u102 u103 u104 u105 u106 u107 u108 u109 u110 u111 u112 u113 u114 u115 u116 u117 u118 u119 u120 u121 u122 u123 u124 u125 u126 u127 u128 u129 u130 u131 u132
section
variable {G:Geo} {g0:Nat} {ρ:Rho} {p:Nat×Nat} {w V:World} {n:Nat} {rs:List Nat} {bv sv:Value} {ns:Nat} {ss:List Value} {t:Int}
def AtDel (G:Geo) (g0:Nat) (ρ:Rho) (w:World) (rs:List Nat) (ao:Option Addr) (c:Nat) (s0 s1 s2 s3 s4 s6 s7 s8 s9 s10 s11 s12 s13:Value):Exit→Act→World→Prop:=λe a V=>e=.normal∧∃(n:Nat) (bv sv:Value) (ns:Nat) (ss:List Value) (t:Int) (f:List Value),f.length=157∧SB G g0 ρ w n (mix rs rs.length) bv sv ns ss t V∧BagK G (reads rs) (.slice ao rs.length c) bv sv V∧a=⟨(s0::s1::s2::s3::s4::.pointer (some ⟨G.A,G.oA,none⟩)::s6::s7::s8::s9::s10::s11::s12::s13::.slice ao rs.length c::.int .i64 (rs.length:Nat)::f).toArray,[]⟩
def InvDel (G:Geo) (g0:Nat) (ρ:Rho) (w:World) (n:Nat) (rs:List Nat) (ao:Option Addr) (c:Nat) (s0 s1 s2 s3 s4 s6 s7 s8 s9 s10 s11 s12 s13:Value) (a:Act) (V:World):Prop:=∃(j:Nat) (bv sv:Value) (ns:Nat) (ss:List Value) (t:Int) (f:List Value),j≤rs.length∧f.length=157∧SB G g0 ρ w (n+j) (mix rs j) bv sv ns ss t V∧BagK G (reads rs) (.slice ao rs.length c) bv sv V∧a=⟨(s0::s1::s2::s3::s4::.pointer (some ⟨G.A,G.oA,none⟩)::s6::s7::s8::s9::s10::s11::s12::s13::.slice ao rs.length c::.int .i64 (j:Nat)::f).toArray,[]⟩
set_option maxHeartbeats 4000000 in
set_option maxRecDepth 100000 in
theorem loop_del (hg:GB G g0 ρ p) (hn:n≤25) (hl:rs.length≤25) (h0:SB G g0 ρ w n (reads rs) bv sv ns ss t V) (ao:Option Addr) (c:Nat) (hK:BagK G (reads rs) (.slice ao rs.length c) bv sv V) (s0 s1 s2 s3 s4 s6 s7 s8 s9 s10 s11 s12 s13:Value) (f:List Value) (hf:f.length=157):
 WpN Tryz.prog cDel (AtDel G g0 ρ w rs ao c s0 s1 s2 s3 s4 s6 s7 s8 s9 s10 s11 s12 s13) ⟨(s0::s1::s2::s3::s4::.pointer (some ⟨G.A,G.oA,none⟩)::s6::s7::s8::s9::s10::s11::s12::s13::.slice ao rs.length c::.int .i64 0::f).toArray,[]⟩ V:=by
 refine wpN_block (wpN_loop (InvDel G g0 ρ w n rs ao c s0 s1 s2 s3 s4 s6 s7 s8 s9 s10 s11 s12 s13) (λa _=>100-lat15 a) ?_ ?_)
 ·exact⟨0,bv,sv,ns,ss,t,f,Nat.zero_le _,hf,by rw[mix_zero];exact h0,hK,rfl⟩
 ·clear h0 hK hf f
  rintro a V ⟨j,bv,sv,ns,ss,t,f,hj,hf,hS,hK,rfl⟩
  revert f
  refine open_del ?_
  intro u16 u17 u18 u19 u20 u21 u22 u23 u24 u25 u26 u27 u28 u29 u30 u31 u32 u33 u34 u35 u36 u37 u38 u39 u40 u41 u42 u43 u44 u45 u46 u47 u48 u49 u50 u51 u52 u53 u54 u55 u56 u57 u58 u59 u60 u61 u62 u63 u64 u65 u66 u67 u68 u69 u70 u71 u72 u73 u74 u75 u76 u77 u78 u79 u80 u81 u82 u83 u84 u85 u86 u87 u88 u89 u90 u91 u92 u93 u94 u95 u96 u97 u98 u99 u100 u101 u102 u103 u104 u105 u106 u107 u108 u109 u110 u111 u112 u113 u114 u115 u116 u117 u118 u119 u120 u121 u122 u123 u124 u125 u126 u127 u128 u129 u130 u131 u132 rest hr
  have hrH:Hid _:=hr
  have hKH:Hid _:=hK
  rcases Nat.lt_or_ge j rs.length with hlt|hge
  ·have hm:=mix_len rs j hj
   rw[mix_cons rs j hlt]at hS hm
   rw[List.length_cons]at hm
   have hdo:Hid _:=sb_deliver hg hS (by omega) (by omega)
   have hnx:Hid _:=mix_next rs j hlt
   obtain⟨L,hL⟩:∃L,rs.length=L:=⟨_,rfl⟩
   have hLH:Hid _:=hL
   have hj1:(j:Int)<(L:Int):=by omega
   have hj2:j≤25:=by omega
   have hlt2:Hid (j<L):=by unfold Hid;omega
   rw[hL]
   clear hS hK hr hm hg
   refine wpN_seq (of_wp ?_)
   go_wp2
   refine wpN_seq (wpN_block ?_)
   refine of_wp ?_
   go_wp2_with (go_at_call 6;refine Calls.mono hdo.out ?_;rintro e V2 ⟨rfl,bv',sv',ns',ss',t',h2,h3⟩;replace h3:Hid _:=hKH.out.step h3;replace h2:Hid _:=h2)
   refine of_wp ?_
   go_wp2
   have h4:=h2.out
   rw[hnx.out]at h4
   have h5:=h3.out
   have hlt3:=hlt2.out
   subst hL
   exact⟨⟨j+1,bv',sv',ns',ss',t',_,hlt3,by simp[hrH.out],h4,h5,rfl⟩,by simp[lat15];omega⟩
  ·have hje:j=rs.length:=by omega
   have hj1:¬(j:Int)<(rs.length:Int):=by omega
   have hSH:Hid _:=hS
   clear hS hK hr hg
   refine wpN_seq (of_wp ?_)
   go_wp2
   subst hje
   exact⟨rfl,_,bv,sv,ns,ss,t,_,by simp[hrH.out],hSH.out,hKH.out,rfl⟩
end
end Go.Rm
