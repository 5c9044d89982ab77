/-
  A part of the proof.
-/
import Derived.Test.YthklkhndoojmfaaGreatDoorKxLines
set_option linter.unusedVariables false
set_option linter.unusedSimpArgs false
noncomputable section
namespace Go.Kx
open Go Go.Conc Go.Proofs Go.RowKit Go.Kn
def runBody:Code:=match Tryz.f6.body with
 |some (.seq _ (.scope c))=>c
 |_=>.skip
def spineL (id:Nat):Code→List Code
 |.seq (.region i ops d) b=>if i=id then[]else .region i ops d::spineL id b
 |.seq a b=>a::spineL id b
 |_=>[]
def spineF (id:Nat):Code→List Oper
 |.seq (.region i ops d) b=>if i=id then ops.toList else spineF id b
 |.seq a b=>spineF id b
 |_=>[]
def spineY (id:Nat):Code→Code
 |.seq (.region i ops d) b=>if i=id then b else spineY id b
 |.seq _ b=>spineY id b
 |c=>c
def runL:List Code:=spineL 23 runBody
def runF:List Oper:=spineF 23 runBody
def runY:Code:=spineY 23 runBody
theorem ops_sel_shut {P:Program} {Q:Exit→Act→World→Prop} {a:Act} {w:World} {ops:Array Oper} {i:Nat} {rest:List Nat} {o:Oper} {c cap s r:Nat} {z:Value} (ho:ops[i]?=some o) (hw:Region.wanted o (yielded ops a.tmps)=true)
 (hr:(execOp a.eval o).run P w=.ok (.comm #[rcase c z] false .select) w) (hc:w.heap[c]?=some (.chan cap #[] true s r false))
 (h:OpsTo P ops Q rest (a.put o.dst (.tuple #[.int .i64 0,.bool false,z])) w):OpsTo P ops Q (i::rest) a w:=by
 refine OpsTo.step (λb k cs hb=>?_) h
 have h1:=step_lone_select_recv_shut (P:=P) (stepG_comm (P:=P) (main:=true) (b:=b) (k:=k) (cs:=cs) (ops:=ops) (rest:=rest) ho hw hb hr) hc
 rw[Frame.finish_at,ho]at h1
 exact h1
structure Drain (w W:World) (B:Nat) (os:List ByteArray) (j:Nat) (V:World):Prop where
 below:Below w.heap.size w V
 chan:∃s r,V.heap[w.heap.size]?=some (.chan os.length ((os.drop j).map Value.string).toArray true s r false)
 bld:Lib.IsBuilder 62 5 B B (Lib.byteCells (jt (os.take j))) V
 lt:w.heap.size<B
def bufLen (w:World) (c:Nat):Nat:=match w.heap[c]? with|some (.chan _ b _ _ _ _)=>b.size|_=>0
set_option maxHeartbeats 2000000 in
set_option maxRecDepth 100000 in
theorem run_tail (os:List ByteArray) (hos:os.length≤1000000) (hsz:(jt os).length≤1000000000) (u0 u1 u2 u3 u4 u5 u6 u7 u8 u9 u10 u11 u12 u13 u14 u15 u16 u17 u18 u19 u20 u21 u22 u23 u24 u25 u26 u27 u28 u29 u30 u31 u32 u33 u34 u35 u36 u37 u38 u39 u40 u41 u42 u43 u44 u45 u46 u47 u48 u49 u50 u51 u52 u53 u54 u55 u56 u57 u58 u59 u60 u61 u62 u63 u64 u65 u66 u67 u68 u69 u70 u71 u72 u73 u74 u75 u76 u77 u78 u79 u80 u81 u82 u83 u84 u85 u86 u87 u88 u89 u90 u91 u92 u93 u94 u95 u96 u97 u98 u99 u100 u101 u102 u103 u105 u106 u107 u108 u109 u110 u111 u112 u113 u114 u115 u116 u117:Value) (rest:List Value) (g off cap:Nat) (w:World) (hg:g<w.heap.size) (hcell:∀(i:Nat) (h:i<os.length),w.cell? ⟨g,off+i,none⟩=some (.string os[i]))
 (R:Ending→World→Prop) (hR:∀w',Below w.heap.size w w'→R (.returned (.tuple #[.string ⟨(jt os).toArray⟩,.int .i64 0,.int .i64 0])) w'):
 OpsTo Tryz.prog runF.toArray (Exit.then (WpN Tryz.prog runY (Exit.noGoto (bodyPost Tryz.prog Tryz.f6 R))) (Exit.noGoto (bodyPost Tryz.prog Tryz.f6 R))) [8,9]
  {tmps:=(u0::u1::u2::u3::u4::u5::u6::u7::u8::u9::u10::u11::u12::u13::u14::u15::u16::u17::u18::u19::u20::u21::u22::u23::u24::u25::u26::u27::u28::u29::u30::u31::u32::u33::u34::u35::u36::u37::u38::u39::u40::u41::u42::u43::u44::u45::u46::u47::u48::u49::u50::u51::u52::u53::u54::u55::u56::u57::u58::u59::u60::u61::u62::u63::u64::u65::u66::u67::u68::u69::u70::u71::u72::u73::u74::u75::u76::u77::u78::u79::u80::u81::u82::u83::u84::u85::u86::u87::u88::u89::u90::u91::u92::u93::u94::u95::u96::u97::u98::u99::u100::u101::u102::u103::.slice (some ⟨g,off,none⟩) os.length cap::u105::u106::u107::u108::u109::u110::u111::u112::u113::u114::u115::u116::u117::rest).toArray,defers:=[]} w:=by
 have hl:=lines_ok os hos g off cap w hg hcell
 refine ops_two rfl rfl ?_
 conv=>{arg 4;arg 1;whnf}
 conv=>{arg 4;arg 2;arg 1;whnf}
 go_wp2_with (go_at_call 15;refine hl.mono ?_;rintro e W ⟨rfl,hb,s0,hch⟩;clear hl)
 clear hcell
 have q2:w.heap.size<W.heap.size:=(Array.getElem?_eq_some_iff.1 hch).1
 conv=>arg 2;whnf
 refine wpN_seq (of_wp ?_)
 go_wp2
 refine wpN_seq (of_wp (wp_label ?_))
 have hd0:Drain w W W.heap.size os 0 (W.alloc (.cells #[.pointer none,.slice none 0 0] 62)):=by
  refine⟨hb.alloc (by omega) _,⟨s0,0,?_⟩,Lib.fresh_isBuilder 62 5 W,by omega⟩
  rw[Lib.alloc_old _ _ _ q2];exact hch
 obtain⟨B,hBe⟩:∃B,W.heap.size=B:=⟨_,rfl⟩
 have hBw:B≤W.heap.size:=by omega
 rw[hBe]at hd0⊢
 refine wpN_seq ?_
 refine wpN_block (wpN_loop (λa V=>∃(j:Nat) (v18 v19 v106 v107 v108 v109 v110 v111 v112 v113 v114 v115 v116:Value),j≤os.length∧Drain w W B os j V∧a={tmps:=(u0::u1::u2::u3::u4::u5::u6::u7::u8::u9::u10::u11::u12::u13::u14::u15::.chan (some w.heap.size)::.pointer (some ⟨B,0,none⟩)::v18::v19::u20::u21::u22::u23::u24::u25::u26::u27::u28::u29::u30::u31::u32::u33::u34::u35::u36::u37::u38::u39::u40::u41::u42::u43::u44::u45::u46::u47::u48::u49::u50::u51::u52::u53::u54::u55::u56::u57::u58::u59::u60::u61::u62::u63::u64::u65::u66::u67::u68::u69::u70::u71::u72::u73::u74::u75::u76::u77::u78::u79::u80::u81::u82::u83::u84::u85::u86::u87::u88::u89::u90::u91::u92::u93::u94::u95::u96::u97::u98::u99::u100::u101::u102::u103::.slice (some ⟨g,off,none⟩) os.length cap::.chan (some w.heap.size)::v106::v107::v108::v109::v110::v111::v112::v113::v114::v115::v116::u117::rest).toArray,defers:=[]}) (λa V=>bufLen V w.heap.size) ?_ ?_)
 ·exact⟨0,_,_,_,_,_,_,_,_,_,_,_,_,_,Nat.zero_le _,hd0,rfl⟩
 ·rintro a V ⟨j,v18,v19,v106,v107,v108,v109,v110,v111,v112,v113,v114,v115,v116,hj,hD,rfl⟩
  refine wpN_block ?_
  refine wpN_seq (of_wp ?_)
  go_wp2
  obtain⟨hV,⟨s,r,hc⟩,hB,hW⟩:=hD
  refine wpN_seq (wpN_region ?_)
  rcases Nat.lt_or_ge j os.length with hjl|hjl
  ·have hdr:os.drop j=os[j]::os.drop (j+1):=(List.drop_eq_getElem_cons hjl)
   have hc':=hc
   rw[hdr]at hc
   show OpsTo _ _ _ [0,1,2] _ _
   rw[List.map_cons]at hc
   refine ops_sel_cons (z:=.string ⟨#[]⟩) rfl rfl (by simp[execOp,Act.eval,rcase]) hc ?_
   intro V2 hV2
   have q3:w.heap.size<V.heap.size:=(Array.getElem?_eq_some_iff.1 hc).1
   have hm0:bufLen V w.heap.size=os.length-j:=by simp[bufLen,hc']
   have hV3:Below w.heap.size w V2:=hV2▸below_setChan hV (Nat.le_refl _) _ _ _ _ _ _
   have hB3:Lib.IsBuilder 62 5 B B (Lib.byteCells (jt (os.take j))) V2:=hV2▸isBuilder_setChan hB hW _ _ _ _ _ _
   have hc3:V2.heap[w.heap.size]?=some (.chan os.length ((os.drop (j+1)).map Value.string).toArray true s (r+1) false):=hV2▸heap_setChan _ _ _ _ _ _ _ _ q3
   have hW3:B≤V2.heap.size:=by rw[hV2];have:=isBuilder_lt hB;simp[World.setChan];omega
   have hws:=knPut B os j hjl hsz V2 hB3 hW3 ⟨#[10]⟩ rfl
   have hoj:(os[j]).size≤1000000000:=by
    have h1:=jt_le os (j+1)
    rw[jt_take os j hjl]at h1
    simp only[List.length_append,List.length_cons,List.length_nil]at h1
    have h5:(os[j]).size=(os[j]).data.toList.length:=by simp
    omega
   clear hV2 hV hB hB3
   generalize os[j]=oj at hws hoj
   clear hdr hc' hch hd0 hb hc
   refine ops_two rfl rfl ?_
   go_wp2
   refine wpN_block (wpN_cond (t:=true) rfl ?_)
   rw[if_pos rfl]
   refine wpN_seq (of_wp ?_)
   go_wp2
   refine wpN_seq (wpN_seq (of_wp ?_))
   go_wp2
   refine of_wp ?_
   go_wp2
   refine of_wp ?_
   go_wp2_with (go_at_call 17;refine hws.mono ?_;rintro e V3 ⟨rfl,hB4,hb4⟩)
   refine⟨⟨j+1,_,_,_,_,_,_,_,_,_,_,_,_,_,by omega,⟨hV3.trans (hb4.mono (by omega)),⟨s,r+1,(hb4.block _ hW).trans hc3⟩,hB4,hW⟩,rfl⟩,?_⟩
   rw[hm0]
   simp only[bufLen,(hb4.block _ hW).trans hc3]
   simp
   all_goals omega
  ·have hdr:os.drop j=[]:=List.drop_eq_nil_of_le hjl
   have hje:j=os.length:=by omega
   subst hje
   rw[hdr]at hc
   rw[List.take_of_length_le (Nat.le_refl _)]at hB
   show OpsTo _ _ _ [0,1,2] _ _
   refine ops_sel_shut (z:=.string ⟨#[]⟩) rfl rfl (by simp[execOp,Act.eval,rcase]) hc ?_
   have hst:=knString B B (jt os) V hB (by have:=isBuilder_lt hB;omega)
   clear hdr hc hch hd0 hB
   refine ops_two rfl rfl ?_
   go_wp2
   refine wpN_block (wpN_cond (t:=true) rfl ?_)
   rw[if_pos rfl]
   refine wpN_seq (of_wp ?_)
   go_wp2
   refine wpN_seq (wpN_seq (of_wp ?_))
   go_wp2
   refine of_wp ?_
   go_wp2
   refine wpN_seq (of_wp ?_)
   go_wp2_with (go_at_call 18;refine hst.mono ?_;rintro e V3 ⟨rfl,hb4⟩)
   refine of_wp ?_
   go_wp2
   simp only[Exit.noGoto_ret]
   go_ret3
   exact hR _ (hV.trans (hb4.mono (by omega)))
end Go.Kx
