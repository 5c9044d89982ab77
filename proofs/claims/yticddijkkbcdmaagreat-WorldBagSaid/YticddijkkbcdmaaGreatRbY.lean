/-
  The law's picks.
-/
import Derived.Test.YticddijkkbcdmaaGreatRbX2
set_option linter.unusedVariables false
set_option linter.unusedSimpArgs false
noncomputable section
namespace Go.Rm
open Go Go.Conc Go.Proofs Go.RowKit Go.Kn Go.Ry Go.Ev
theorem open_pick {C:List Value→Prop} (h:∀(u9 u10 u11 u12 u13 u14 u15 u16 u17 u18 u19 u20 u21 u22 u23 u24 u25 u26 u27 u28 u29 u30 u31 u32 u33 u34 u35 u36 u37 u38 u39 u40 u41 u42 u43 u44 u45 u46 u47 u48 u49 u50 u51 u52 u53 u54 u55 u56 u57 u58 u59 u60 u61 u62 u63 u64 u65 u66 u67 u68 u69 u70 u71 u72 u73 u74:Value) (rest:List Value),rest.length=98→C (u9::u10::u11::u12::u13::u14::u15::u16::u17::u18::u19::u20::u21::u22::u23::u24::u25::u26::u27::u28::u29::u30::u31::u32::u33::u34::u35::u36::u37::u38::u39::u40::u41::u42::u43::u44::u45::u46::u47::u48::u49::u50::u51::u52::u53::u54::u55::u56::u57::u58::u59::u60::u61::u62::u63::u64::u65::u66::u67::u68::u69::u70::u71::u72::u73::u74::rest)):∀f:List Value,f.length=164→C f:=by
 refine open10 ?_
 intro u9 u10 u11 u12 u13 u14 u15 u16 u17 u18
 refine open10 ?_
 intro u19 u20 u21 u22 u23 u24 u25 u26 u27 u28
 refine open10 ?_
 intro u29 u30 u31 u32 u33 u34 u35 u36 u37 u38
 refine open10 ?_
 intro u39 u40 u41 u42 u43 u44 u45 u46 u47 u48
 refine open10 ?_
 intro u49 u50 u51 u52 u53 u54 u55 u56 u57 u58
 refine open10 ?_
 intro u59 u60 u61 u62 u63 u64 u65 u66 u67 u68
 refine open1 ?_
 intro u69
 refine open1 ?_
 intro u70
 refine open1 ?_
 intro u71
 refine open1 ?_
 intro u72
 refine open1 ?_
 intro u73
 refine open1 ?_
 intro u74
 exact h u9 u10 u11 u12 u13 u14 u15 u16 u17 u18 u19 u20 u21 u22 u23 u24 u25 u26 u27 u28 u29 u30 u31 u32 u33 u34 u35 u36 u37 u38 u39 u40 u41 u42 u43 u44 u45 u46 u47 u48 u49 u50 u51 u52 u53 u54 u55 u56 u57 u58 u59 u60 u61 u62 u63 u64 u65 u66 u67 u68 u69 u70 u71 u72 u73 u74
theorem open_inc {C:List Value→Prop} (h:∀(u9 u10 u11 u12 u13 u14 u15 u16 u17 u18 u19 u20 u21 u22 u23 u24 u25 u26 u27 u28 u29 u30 u31 u32 u33 u34 u35 u36 u37 u38 u39 u40 u41 u42 u43 u44 u45 u46 u47 u48 u49 u50:Value) (rest:List Value),rest.length=122→C (u9::u10::u11::u12::u13::u14::u15::u16::u17::u18::u19::u20::u21::u22::u23::u24::u25::u26::u27::u28::u29::u30::u31::u32::u33::u34::u35::u36::u37::u38::u39::u40::u41::u42::u43::u44::u45::u46::u47::u48::u49::u50::rest)):∀f:List Value,f.length=164→C f:=by
 refine open10 ?_
 intro u9 u10 u11 u12 u13 u14 u15 u16 u17 u18
 refine open10 ?_
 intro u19 u20 u21 u22 u23 u24 u25 u26 u27 u28
 refine open10 ?_
 intro u29 u30 u31 u32 u33 u34 u35 u36 u37 u38
 refine open10 ?_
 intro u39 u40 u41 u42 u43 u44 u45 u46 u47 u48
 refine open1 ?_
 intro u49
 refine open1 ?_
 intro u50
 exact h u9 u10 u11 u12 u13 u14 u15 u16 u17 u18 u19 u20 u21 u22 u23 u24 u25 u26 u27 u28 u29 u30 u31 u32 u33 u34 u35 u36 u37 u38 u39 u40 u41 u42 u43 u44 u45 u46 u47 u48 u49 u50
section
variable {G:Geo} {g0:Nat} {ρ:Rho} {p:Nat×Nat} {w V:World} {n:Nat} {rs:List Nat} {bv sv:Value} {ns:Nat} {ss:List Value} {t:Int}
def AtPick (G:Geo) (g0:Nat) (ρ:Rho) (w:World) (s0 s1 s2 s3 s4 s6 s7:Value):Exit→Act→World→Prop:=λe a V=>e=.normal∧∃(n:Nat) (rs:List Nat) (bv sv:Value) (ns:Nat) (ss:List Value) (t:Int) (f:List Value),n≤25∧rs.length≤25∧f.length=165∧SB G g0 ρ w n (reads rs) bv sv ns ss t V∧a=⟨(s0::s1::s2::s3::s4::.pointer (some ⟨G.A,G.oA,none⟩)::s6::s7::f).toArray,[]⟩
def IntsAt (w:World) (ao:Option Addr) (zs:List Int):Prop:=0<zs.length→∃b off,ao=some ⟨b,off,none⟩∧∀j,j<zs.length→w.cell? ⟨b,off+j,none⟩=some (.int .i64 (zs.getD j 0))
def InvPick (G:Geo) (g0:Nat) (ρ:Rho) (w:World) (zs xs:List Int) (ao1 ao2:Option Addr) (c1 c2:Nat) (s2 s3 s4 s6 s7:Value) (a:Act) (V:World):Prop:=∃(i:Nat) (rs:List Nat) (bv sv:Value) (ns:Nat) (ss:List Value) (t:Int) (f:List Value),i≤20∧rs.length≤5+i∧f.length=164∧SB G g0 ρ w (5+i) (reads rs) bv sv ns ss t V∧a=⟨(.slice ao1 zs.length c1::.slice ao2 xs.length c2::s2::s3::s4::.pointer (some ⟨G.A,G.oA,none⟩)::s6::s7::.int .i64 (i:Nat)::f).toArray,[]⟩
set_option maxHeartbeats 8000000 in
set_option maxRecDepth 100000 in
theorem loop_pick (hg:GB G g0 ρ p) (hgw:w.heap.size≤g0) (zs xs:List Int) (ao1 ao2:Option Addr) (c1 c2:Nat) (hz:IntsAt w ao1 zs) (hx:IntsAt w ao2 xs) (s2 s3 s4 s6 s7:Value) (f:List Value) (hf:f.length=164) (hr5:rs.length=5) (h0:SB G g0 ρ w 5 (reads rs) bv sv ns ss t V):
 WpN Tryz.prog cPick (AtPick G g0 ρ w (.slice ao1 zs.length c1) (.slice ao2 xs.length c2) s2 s3 s4 s6 s7) ⟨(.slice ao1 zs.length c1::.slice ao2 xs.length c2::s2::s3::s4::.pointer (some ⟨G.A,G.oA,none⟩)::s6::s7::.int .i64 0::f).toArray,[]⟩ V:=by
 refine wpN_block (wpN_loop (InvPick G g0 ρ w zs xs ao1 ao2 c1 c2 s2 s3 s4 s6 s7) (λa _=>40-lat8 a) ?_ ?_)
 ·exact⟨0,rs,bv,sv,ns,ss,t,f,Nat.zero_le _,by omega,hf,h0,rfl⟩
 ·clear h0 hr5 hf f
  rintro a V ⟨i,rs,bv,sv,ns,ss,t,f,hi,hrl,hf,hS,rfl⟩
  revert f
  refine open_pick ?_
  intro u9 u10 u11 u12 u13 u14 u15 u16 u17 u18 u19 u20 u21 u22 u23 u24 u25 u26 u27 u28 u29 u30 u31 u32 u33 u34 u35 u36 u37 u38 u39 u40 u41 u42 u43 u44 u45 u46 u47 u48 u49 u50 u51 u52 u53 u54 u55 u56 u57 u58 u59 u60 u61 u62 u63 u64 u65 u66 u67 u68 u69 u70 u71 u72 u73 u74 rest hr
  have hrH:Hid _:=hr
  have hSH:Hid _:=hS
  have hgH:Hid _:=hg
  have hcase:(i<zs.length∧i<xs.length∧i<20)∨(¬(i:Int)<(zs.length:Int)∨(i:Int)<(zs.length:Int)∧¬(i:Int)<(xs.length:Int)∨(i:Int)<(zs.length:Int)∧(i:Int)<(xs.length:Int)∧¬(i:Int)<20):=by omega
  rcases hcase with⟨h1,h2,h3⟩|hdone
  ·obtain⟨b1,o1,rfl,hc1⟩:=hz (by omega)
   obtain⟨b2,o2,rfl,hc2⟩:=hx (by omega)
   obtain⟨z,hze⟩:∃z,zs.getD i 0=z:=⟨_,rfl⟩
   obtain⟨x,hxe⟩:∃x,xs.getD i 0=x:=⟨_,rfl⟩
   have hz1:=hc1 i h1
   have hx1:=hc2 i h2
   rw[hze]at hz1
   rw[hxe]at hx1
   have hzl:=World.block_lt_of_cell? w _ hz1
   have hxl:=World.block_lt_of_cell? w _ hx1
   have hcell:Hid (∀V',Below g0 w V'→V'.cell? ⟨b1,o1+i,none⟩=some (.int .i64 z)∧V'.cell? ⟨b2,o2+i,none⟩=some (.int .i64 x)):=λV' hV=>⟨(hV.cell (Nat.lt_of_lt_of_le hzl hgw)).trans hz1,(hV.cell (Nat.lt_of_lt_of_le hxl hgw)).trans hx1⟩
   have hbag:Hid _:=sb_bag hg hS (by rw[reads_len];omega)
   have hi1:(i:Int)<(zs.length:Int):=by omega
   have hi2:(i:Int)<(xs.length:Int):=by omega
   have hi3:(i:Int)<20:=by omega
   have hrlen:Hid _:=reads_len rs
   clear hc1 hc2 hze hxe hz1 hx1 hzl hxl hz hx hr hS hg h1 h2
   refine wpN_seq (of_wp ?_)
   go_wp2
   refine wpN_seq (wpN_block ?_)
   refine wpN_seq (of_wp ?_)
   go_wp2_with (go_at_call 7;refine Calls.mono hbag.out ?_;rintro e V1 ⟨v1,rfl,hC,hS1⟩;obtain⟨ao,c,hv1⟩:=hC.val;rw[hrlen.out]at hv1;subst hv1;replace hC:Hid _:=hC.k hSH.out;replace hS1:Hid _:=hS1)
   obtain⟨hz1,hx1⟩:=hcell.out V1 hS1.out.below
   have hS2:Hid _:=hS1
   clear hbag hcell hSH hS1
   rcases Nat.eq_zero_or_pos rs.length with hz0|hpos
   ·have hle25:Hid (rs.length≤25):=by unfold Hid;omega
    have hL0:(rs.length:Int)=0:=by omega
    rw[hz0]
    refine wpN_seq (of_wp ?_)
    go_wp2
    exact⟨rfl,5+i,rs,bv,sv,ns,ss,t,_,by omega,hle25.out,by simp[hrH.out],hS2.out,rfl⟩
   ·obtain⟨L,hL⟩:∃L,rs.length=L:=⟨_,rfl⟩
    have hLH:Hid _:=hL
    rw[hL]at hpos hrl
    rw[hL]at hC
    rw[hL]
    obtain⟨k,hk⟩:∃k,placeOf x L=k:=⟨_,rfl⟩
    have hkL:k<L:=by rw[←hk];exact placeOf_lt x L hpos
    have hrem:(IntKind.u64.wrap x).tmod (L:Int)=((k:Nat):Int):=by rw[←hk];exact placeOf_eq x L hpos
    have hwL:IntKind.u64.wrap (L:Int)=(L:Int):=wrapU L (by omega)
    have hwk:IntKind.u64.wrap (k:Int)=(k:Int):=wrapU k (by omega)
    have hwk2:IntKind.i64.wrap (k:Int)=(k:Int):=wrap64 k (by omega)
    have hL0:¬(L:Int)=0:=by omega
    obtain⟨gb,cb,eb,_⟩:=hC.out.at' 0 (by rw[reads_len,hLH.out];exact hpos)
    have eb1:=(Value.slice.inj eb).1
    subst eb1
    clear hk hL eb
    refine wpN_seq (of_wp ?_)
    go_wp2
    refine wpN_seq (of_wp ?_)
    go_wp2
    clear hrem hwL hwk hwk2 hx1
    have hthird:thirdOf z=0∨thirdOf z=1∨thirdOf z=2:=by have:=thirdOf_lt z;omega
    have hz2:(V1.alloc (.cells #[.int .i64 1,.int .i64 2,.int .i64 1] 3)).cell? ⟨b1,o1+i,none⟩=some (.int .i64 z):=(((Below.refl _ V1).alloc (Nat.le_refl _) _).cell (World.block_lt_of_cell? V1 _ hz1)).trans hz1
    have hn0:(V1.alloc (.cells #[.int .i64 1,.int .i64 2,.int .i64 1] 3)).cell? ⟨V1.heap.size,0,none⟩=some (.int .i64 1):=World.cell?_alloc_at (w:=V1) _ _ _ _ rfl
    have hn1:(V1.alloc (.cells #[.int .i64 1,.int .i64 2,.int .i64 1] 3)).cell? ⟨V1.heap.size,1,none⟩=some (.int .i64 2):=World.cell?_alloc_at (w:=V1) _ _ _ _ rfl
    have hn2:(V1.alloc (.cells #[.int .i64 1,.int .i64 2,.int .i64 1] 3)).cell? ⟨V1.heap.size,2,none⟩=some (.int .i64 1):=World.cell?_alloc_at (w:=V1) _ _ _ _ rfl
    have hte:=thirdOf_eq z
    clear hz1
    refine wpN_seq (of_wp ?_)
    rcases hthird with h3|h3|h3
    ·have hte0:(IntKind.u64.wrap z).tmod 3=0:=by rw[hte,h3];rfl
     clear hte h3 hn1 hn2
     go_wp2
     refine(do_drop_ok hgH.out (hS2.out.new hgH.out ((Below.refl _ _).alloc (Nat.le_refl _) _)) (by omega) L hLH.out (by omega) k hkL _ _ _ _ _ _ _ _ _ _ _ (by simp[hrH.out])).mono ?_
     rintro e a2 V3 ⟨rfl,rs3,bv3,sv3,ns3,ss3,t3,f3,hl3,hf3,hS3,rfl⟩
     have hS3H:Hid _:=hS3
     have hl4:=hLH.out
     clear hS3 hS2 hC
     revert f3
     refine open_inc ?_
     intro u9 u10 u11 u12 u13 u14 u15 u16 u17 u18 u19 u20 u21 u22 u23 u24 u25 u26 u27 u28 u29 u30 u31 u32 u33 u34 u35 u36 u37 u38 u39 u40 u41 u42 u43 u44 u45 u46 u47 u48 u49 u50 rest3 hr3
     refine(of_wp ?_:WpN _ _ _ _ _)
     go_wp2
     exact⟨⟨i+1,rs3,bv3,sv3,ns3,ss3,t3,_,by omega,by omega,by simp[hr3],hS3H.out,rfl⟩,by simp[lat8];omega⟩
    ·have hte1:(IntKind.u64.wrap z).tmod 3=1:=by rw[hte,h3];rfl
     clear hte h3 hn0 hn2
     go_wp2
     refine(do_double_ok hgH.out (hS2.out.new hgH.out ((Below.refl _ _).alloc (Nat.le_refl _) _)) (by omega) L hLH.out (by omega) k hkL gb _ (hC.out.new ((Below.refl _ _).alloc (Nat.le_refl _) _)) _ _ _ _ _ _ _ _ _ (by simp[hrH.out])).mono ?_
     rintro e a2 V3 ⟨rfl,rs3,bv3,sv3,ns3,ss3,t3,f3,hl3,hf3,hS3,rfl⟩
     have hS3H:Hid _:=hS3
     have hl4:=hLH.out
     clear hS3 hS2 hC
     revert f3
     refine open_inc ?_
     intro u9 u10 u11 u12 u13 u14 u15 u16 u17 u18 u19 u20 u21 u22 u23 u24 u25 u26 u27 u28 u29 u30 u31 u32 u33 u34 u35 u36 u37 u38 u39 u40 u41 u42 u43 u44 u45 u46 u47 u48 u49 u50 rest3 hr3
     refine(of_wp ?_:WpN _ _ _ _ _)
     go_wp2
     exact⟨⟨i+1,rs3,bv3,sv3,ns3,ss3,t3,_,by omega,by omega,by simp[hr3],hS3H.out,rfl⟩,by simp[lat8];omega⟩
    ·have hte2:(IntKind.u64.wrap z).tmod 3=2:=by rw[hte,h3];rfl
     clear hte h3 hn0 hn1
     go_wp2
     refine(do_drop_ok hgH.out (hS2.out.new hgH.out ((Below.refl _ _).alloc (Nat.le_refl _) _)) (by omega) L hLH.out (by omega) k hkL _ _ _ _ _ _ _ _ _ _ _ (by simp[hrH.out])).mono ?_
     rintro e a2 V3 ⟨rfl,rs3,bv3,sv3,ns3,ss3,t3,f3,hl3,hf3,hS3,rfl⟩
     have hS3H:Hid _:=hS3
     have hl4:=hLH.out
     clear hS3 hS2 hC
     revert f3
     refine open_inc ?_
     intro u9 u10 u11 u12 u13 u14 u15 u16 u17 u18 u19 u20 u21 u22 u23 u24 u25 u26 u27 u28 u29 u30 u31 u32 u33 u34 u35 u36 u37 u38 u39 u40 u41 u42 u43 u44 u45 u46 u47 u48 u49 u50 rest3 hr3
     refine(of_wp ?_:WpN _ _ _ _ _)
     go_wp2
     exact⟨⟨i+1,rs3,bv3,sv3,ns3,ss3,t3,_,by omega,by omega,by simp[hr3],hS3H.out,rfl⟩,by simp[lat8];omega⟩
  ·rcases hdone with h1|⟨h1,h2⟩|⟨h1,h2,h3⟩
   all_goals
    clear hz hx hg hS hr
    refine wpN_seq (of_wp ?_)
    go_wp2
    exact⟨rfl,5+i,rs,bv,sv,ns,ss,t,_,by omega,by omega,by simp[hrH.out],hSH.out,rfl⟩
end
end Go.Rm
