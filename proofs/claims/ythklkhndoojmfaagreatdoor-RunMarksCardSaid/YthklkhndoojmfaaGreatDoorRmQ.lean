/-
  run.Run of such a script: walked.
-/
import Derived.Test.YthklkhndoojmfaaGreatDoorRmP3
set_option linter.unusedVariables false
set_option linter.unusedSimpArgs false
noncomputable section
namespace Go.Rm
open Go Go.Conc Go.Proofs Go.RowKit Go.Kn Go.Kx Go.Ry Go.Ev
open Go.Proofs.YthklkhndoojmfaaGreatDoor.Ev (act_ok may_ok clone_ok number_ok3 new_ok nodes_ok got_ok NP toldC)
set_option maxHeartbeats 4000000 in
theorem open_acts {C:Act→World→Prop} {n:Nat} {S:Nat→Value→Value→Value→Nat→List Value→Int→World→Prop} {T:ByteArray} {ao:Option Addr} {ac:Nat} {pA:Value}
 (h:∀(V:World) (i:Nat) (v bv sv:Value) (ns:Nat) (ss:List Value) (t:Int) (u1 u11 u12 u13 u14 u15 u16 u17 u18 u19 u20 u21 u22 u23 u24 u25 u26 u27 u28 u29 u30 u31 u32 u33 u34 u35 u36 u37 u41 u42 u43 u44 u45 u46 u47 u48 u49 u50 u51 u52 u53 u54 u55 u56 u57:Value) (rest:List Value),rest.length=60→i≤n→S i v bv sv ns ss t V→C ⟨(.string T::u1::.string ⟨#[]⟩::.int .i64 0::.int .i64 0::.int .i64 3::.slice ao n ac::.int .i64 0::.int .i64 0::pA::v::u11::u12::u13::u14::u15::u16::u17::u18::u19::u20::u21::u22::u23::u24::u25::u26::u27::u28::u29::u30::u31::u32::u33::u34::u35::u36::u37::.slice ao n ac::.int .i64 (n:Nat)::.int .i64 (i:Nat)::u41::u42::u43::u44::u45::u46::u47::u48::u49::u50::u51::u52::u53::u54::u55::u56::u57::rest).toArray,[]⟩ V):
 ∀a V,(∃(i:Nat) (v bv sv:Value) (ns:Nat) (ss:List Value) (t:Int) (u1 u11 u12 u13 u14 u15 u16 u17 u18 u19 u20 u21 u22 u23 u24 u25 u26 u27 u28 u29 u30 u31 u32 u33 u34 u35 u36 u37 u41 u42 u43 u44 u45 u46 u47 u48 u49 u50 u51 u52 u53 u54 u55 u56 u57:Value) (rest:List Value),rest.length=60∧i≤n∧S i v bv sv ns ss t V∧a=⟨(.string T::u1::.string ⟨#[]⟩::.int .i64 0::.int .i64 0::.int .i64 3::.slice ao n ac::.int .i64 0::.int .i64 0::pA::v::u11::u12::u13::u14::u15::u16::u17::u18::u19::u20::u21::u22::u23::u24::u25::u26::u27::u28::u29::u30::u31::u32::u33::u34::u35::u36::u37::.slice ao n ac::.int .i64 (n:Nat)::.int .i64 (i:Nat)::u41::u42::u43::u44::u45::u46::u47::u48::u49::u50::u51::u52::u53::u54::u55::u56::u57::rest).toArray,[]⟩)→C a V:=by
 rintro a V ⟨i,v,bv,sv,ns,ss,t,u1,u11,u12,u13,u14,u15,u16,u17,u18,u19,u20,u21,u22,u23,u24,u25,u26,u27,u28,u29,u30,u31,u32,u33,u34,u35,u36,u37,u41,u42,u43,u44,u45,u46,u47,u48,u49,u50,u51,u52,u53,u54,u55,u56,u57,rest,hr,h1,h2,rfl⟩
 exact h V i v bv sv ns ss t _ _ _ _ _ _ _ _ _ _ _ _ _ _ _ _ _ _ _ _ _ _ _ _ _ _ _ _ _ _ _ _ _ _ _ _ _ _ _ _ _ _ _ _ _ rest hr h1 h2
set_option maxHeartbeats 4000000 in
set_option maxRecDepth 100000 in
theorem run_ok (ps:List Nat) (hp:ps.length≤30) (h4:∀p∈ps,p<4) (w:World) (hg:Gl w) (hw:GW 0 1 3 w):
 Calls Tryz.prog 6 #[.string (bs (wholeL ps))] w λe w'=>e=.returned (.tuple #[.string (bs (jt (allT ps))),.int .i64 0,.int .i64 0])∧Below w.heap.size w w':=by
 have kpar:Hid _:=parse_ok ps hp w hg (λW hW=>number_ok3 W (gw_on hw hW)) (λp W hW=>act_ok p W (gw_on hw hW))
 have knew:Hid _:=λV hV=>new_ok V (gw_on hw hV)
 refine calls_of_wpN Tryz.func6 rfl ?_
 simp only[Tryz.ntmps6,List.size_toArray,List.length_cons,List.length_nil,Nat.reduceAdd,Nat.reduceSub,Array.replicate_succ,
  Array.replicate_zero,List.push_toArray,List.append_toArray,List.nil_append,List.cons_append]
 obtain⟨T,hT⟩:∃T,bs (wholeL ps)=T:=⟨_,rfl⟩
 rw[hT]at kpar⊢
 clear hT
 refine wpN_seq (of_wp ?_)
 go_wp2
 refine wpN_scope ?_
 refine wpN_seq (of_wp ?_)
 go_wp2_with (go_at_call 8;refine Calls.mono kpar.out ?_;rintro e W1 ⟨hb1,va,rfl,hacts⟩;replace hacts:Hid _:=hacts)
 clear kpar
 refine wpN_seq ?_
 refine wpN_seq (of_wp ?_)
 go_wp2
 refine of_wp ?_
 go_wp2
 have kn:=knew.out W1 hb1
 clear knew
 refine wpN_seq (of_wp ?_)
 go_wp2_with (go_at_call 10;refine Calls.mono kn ?_;rintro e w1 ⟨G,ρ,rfl,hst0,hnp,hbase,hgA,hgB,hb2⟩;replace hst0:Hid _:=hst0;replace hnp:Hid _:=hnp)
 clear kn
 refine wpN_seq ?_
 refine wpN_seq (of_wp ?_)
 go_wp2
 refine of_wp ?_
 go_wp2
 refine wpN_seq (of_wp ?_)
 go_wp2
 obtain⟨ao,ac,hva⟩:=row_val hacts.out
 subst hva
 refine wpN_seq ?_
 refine wpN_seq (of_wp ?_)
 go_wp2
 have hw1:Below w.heap.size w w1:=hb1.trans (hb2.mono hb1.size)
 have hsz1:=hb1.size
 have hszb:=hb2.size
 have hrow1:Hid _:=(Keep.of_below (F:=λk=>W1.heap.size≤k) hb2 λk _ hk=>hk).row hacts.out (λk hk=>by have:=(World.ownsRow.lt hacts.out k hk).2;omega)
 have hactB:∀k,(Value.slice ao ps.length ac).ownBlock=some k→k<W1.heap.size:=λk hk=>(World.ownsRow.lt hacts.out k hk).2
 have hactBH:Hid _:=hactB
 have hinv0:RunS G w.heap.size ρ w w1 ps 0 (.slice none 0 0) (.slice none 0 0) (.slice none 0 0) 0 [] 0 w1:=⟨hst0.out,Keep.refl _ _,Nat.le_refl _,by omega,by omega,World.ownsRow_nil _ _ _ _,λk hk=>by cases hk⟩
 clear hactB
 refine wpN_block (wpN_loop (λa V=>∃(i:Nat) (v bv sv:Value) (ns:Nat) (ss:List Value) (t:Int) (u1 u11 u12 u13 u14 u15 u16 u17 u18 u19 u20 u21 u22 u23 u24 u25 u26 u27 u28 u29 u30 u31 u32 u33 u34 u35 u36 u37 u41 u42 u43 u44 u45 u46 u47 u48 u49 u50 u51 u52 u53 u54 u55 u56 u57:Value) (rest:List Value),rest.length=60∧i≤ps.length∧RunS G w.heap.size ρ w w1 ps i v bv sv ns ss t V∧a=⟨(.string T::u1::.string ⟨#[]⟩::.int .i64 0::.int .i64 0::.int .i64 3::.slice ao ps.length ac::.int .i64 0::.int .i64 0::.pointer (some ⟨G.A,G.oA,none⟩)::v::u11::u12::u13::u14::u15::u16::u17::u18::u19::u20::u21::u22::u23::u24::u25::u26::u27::u28::u29::u30::u31::u32::u33::u34::u35::u36::u37::.slice ao ps.length ac::.int .i64 (ps.length:Nat)::.int .i64 (i:Nat)::u41::u42::u43::u44::u45::u46::u47::u48::u49::u50::u51::u52::u53::u54::u55::u56::u57::rest).toArray,[]⟩) (λa _=>40-at40 a) ?_ ?_)
 ·exact⟨0,_,_,_,_,_,_,_,_,_,_,_,_,_,_,_,_,_,_,_,_,_,_,_,_,_,_,_,_,_,_,_,_,_,_,_,_,_,_,_,_,_,_,_,_,_,_,_,_,_,_,_,_,rfl,Nat.zero_le _,hinv0,rfl⟩
 ·refine open_acts (S:=λi v bv sv ns ss t V=>RunS G w.heap.size ρ w w1 ps i v bv sv ns ss t V) ?_
  intro V i v bv sv ns ss t u1 u11 u12 u13 u14 u15 u16 u17 u18 u19 u20 u21 u22 u23 u24 u25 u26 u27 u28 u29 u30 u31 u32 u33 u34 u35 u36 u37 u41 u42 u43 u44 u45 u46 u47 u48 u49 u50 u51 u52 u53 u54 u55 u56 u57 rest hrest hi hS
  rcases Nat.lt_or_ge i ps.length with hlt|hge
  ·have hp4:ps[i]<4:=h4 _ (List.getElem_mem hlt)
   obtain⟨hst,hkp,hns,ht0,ht1,hown,hap⟩:=hS
   obtain⟨g,ac',hsl,hgl,_,hcells⟩:=row_some hrow1.out (by omega)
   cases hsl
   have hgW1:g<W1.heap.size:=hactBH.out g rfl
   have e1:bagOf (ps.take (i+1))=next (bagOf (ps.take i)) ps[i]:=by rw[List.take_succ_eq_append_getElem hlt,bagOf_snoc]
   have e2:tells 0 (ps.take (i+1))=tells 0 (ps.take i)++[bs (tellL (bagOf (ps.take i)) ps[i])]:=by rw[List.take_succ_eq_append_getElem hlt,tells_snoc];rfl
   have hbo:bagOf (ps.take i)≤i:=Nat.le_trans (bagOf_le _) (by rw[List.length_take];omega)
   have hra:V.rangeAt g (i*24) (actB ps[i]):=λj u hu=>by
    rw[←flat_at ps i hlt,List.getElem?_take]at hu
    split at hu
    ·rw[List.getElem?_drop]at hu
     exact hkp.cell (hcells _ _ hu) (λe=>by have e9:(⟨g,i*24+j,none⟩:Addr).block=g:=rfl;rw[e9]at e;omega)
    ·cases hu
   have hI:Below w.heap.size w V:=hw1.trans (hkp.below (by omega) (λk hk=>by omega))
   obtain⟨b,hb⟩:∃b,bagOf (ps.take i)=b:=⟨_,rfl⟩
   obtain⟨p,hpe⟩:∃p,ps[i]=p:=⟨_,rfl⟩
   rw[hb]at e1 e2 hbo hst
   rw[hpe]at e1 e2 hra hp4
   have hnd:∃ao' c',G.nd=.slice ao' 3 c':=let⟨q,c',_,h2,_⟩:=hnp.out.nd;⟨_,c',h2⟩
   have hiP:(Tryz.prog.info? 49).map (·.size)=some (actB p).length:=by rw[actB_len];kernel_rfl
   have hF:RunF V b bv sv ns ss t G (.int .i64 0) p v i (tells 0 (ps.take i)) ((V.alloc (.cells (actC 0 0).toArray 49)).setCells V.heap.size 0 (actB p)):=by
    have hbb:Below V.heap.size V ((V.alloc (.cells (actC 0 0).toArray 49)).setCells V.heap.size 0 (actB p)):=setCells_below (Below.refl _ _) V.heap.size (Nat.le_refl _) (actB p) 0 _ ((Below.refl _ _).alloc (Nat.le_refl _) _)
    exact⟨hbb,by rw[size_setCells',World.size_alloc];omega,hst.keep_new hbb,actB_range V p,(Keep.of_below (F:=λk=>V.heap.size≤k) hbb λk _ hk=>hk).row hown (λk hk=>by have:=(hown.lt k hk).2;omega)⟩
   have hth:Hid ((V.alloc (.cells (actC 0 0).toArray 49)).there V.heap.size 0 (actB p).toArray.size):=actB_there V p
   have hraH:Hid _:=hra
   have hii:(i:Int)<(ps.length:Int):=by omega
   have hi0:(0:Int)≤(i:Int):=by omega
   have e1H:Hid _:=e1
   have e2H:Hid _:=e2
   have hapH:Hid _:=hap
   have hkpH:Hid _:=hkp
   have hownH:Hid _:=hown
   have hstH:Hid _:=hst
   have hIH:Hid _:=hI
   clear e1 e2 hap hkp hown hst hI hra hcells hb hpe
   refine wpN_seq (of_wp ?_)
   go_wp2
   refine wpN_seq (of_wp ?_)
   go_wp2
   refine wpN_seq (wpN_block ?_)
   refine wpN_seq (of_wp ?_)
   go_wp2_with (first|(refine wpList_load_mid (op:={dst:=some 43,op:=.load 49 (.tmp 42),type:=_,pos:=_,after:=_,guard:=none}) rfl 49 (.tmp 42) rfl g (i*24) rfl (actB p) _ ?hr1 Tryz.underlying49 rfl hiP ?_;case hr1=>exact hraH.out)|(refine wpList_store_mid (op:={dst:=none,op:=.store 49 (.tmp 12) (.tmp 43),type:=_,pos:=_,after:=_,guard:=none}) rfl 49 (.tmp 12) (.tmp 43) rfl V.heap.size 0 (actB p).toArray rfl rfl ?ht hiP (actB_one p) ?_;case ht=>exact hth.out))
   refine(λ(h:∀V1,RunF V b bv sv ns ss t G (.int .i64 0) p v i (tells 0 (ps.take i)) V1→WpN Tryz.prog _ _ _ V1)=>h _ hF) ?_
   clear hF hth hraH hownH hstH
   obtain⟨N,hN⟩:∃N,V.heap.size=N:=⟨_,rfl⟩
   have hNH:Hid _:=hN
   rw[hN]
   intro V1 hF
   have hr1:=hF.range
   rw[hN]at hr1
   clear hN
   have hr1H:Hid _:=hr1
   have hst1:Hid _:=hF.st
   have hown1:Hid _:=hF.own
   have hb1':Hid _:=hF.below
   have hI1:Below w.heap.size w V1:=hIH.out.trans (hF.below.mono hIH.out.size)
   have hI1H:Hid _:=hI1
   obtain⟨ao',c',hnd'⟩:=hnd
   have hgAw:w.heap.size≤G.A:=by omega
   have hgBw:w.heap.size≤G.B:=by omega
   have hgbw:w.heap.size≤G.base:=by omega
   have hdo:Hid _:=do_ok p hp4 hF.st (by omega) (by omega) ht0 (by omega) ao' c' hnd' (λW=>Below w.heap.size w W) w.heap.size hI1 (λA B h1 h2=>h1.trans h2) hgAw hgBw hgbw (λA hA=>may_ok A (gw_on hw hA)) (λA hA=>clone_ok A (gw_on hw hA))
   have hcode:Hid (IntKind.i64.wrap 0=0):=rfl
   clear hF hr1 hI1 hnd'
   refine wpN_seq (of_wp ?_)
   go_wp2
   refine wpN_seq ?_
   refine wpN_seq (of_wp ?_)
   go_wp2_with (first|(refine wpList_load_mid (op:={dst:=some 45,op:=.load 49 (.tmp 12),type:=_,pos:=_,after:=_,guard:=none}) rfl 49 (.tmp 12) rfl N 0 rfl (actB p) _ ?hr1 Tryz.underlying49 rfl hiP ?_;case hr1=>exact hr1H.out)|(go_at_call 11;refine Calls.mono hdo.out ?_;rintro e V2 ⟨rfl,bv2,sv2,ns2,ss2,t2,hD⟩;replace hD:Hid _:=hD))
   clear hdo hr1H
   all_goals
    rename_i hok
    have hI2:Below w.heap.size w V2:=hI1H.out.trans (hD.out.keep.below (by have:=hI1H.out.size;omega) (λk hk e=>by
     rcases e with e|e|e|e
     ·omega
     ·omega
     ·have:=(hst1.out.bag.row.lt k e).1;omega
     ·have:=(hst1.out.sent.lt k e).1;omega))
    have hI2H:Hid _:=hI2
    have hbag:Hid _:=bag_ok hD.out.st (by have:=next_le b p;omega) (λA hA=>clone_ok A (gw_on hw (hI2.trans (hA.mono (by have:=hI2.size;omega)))))
    have hown2:Hid _:=hD.out.keep.row hown1.out (λk hk e=>by
     have h1:=(World.ownsRow.lt hown1.out k hk).1
     have h2:=hapH.out k hk
     have h3:=hst1.out.lt
     have h4:=hst1.out.bag.lt
     rcases e with e|e|e|e
     ·omega
     ·omega
     ·exact h2.1 e
     ·exact h2.2 e)
    clear hI2
    refine of_wp ?_
    go_wp2
    have hnx:=next_le b p
    have hinfo9:(Tryz.prog.info? 9).map (λi=>(i.zero,i.size,i.bytes))=some (some (.string ByteArray.empty),1,16):=by kernel_rfl
    obtain⟨i9,hi9,hz9,hs9,hb9⟩:=info_parts hinfo9
    refine of_wp ?_
    go_wp2_with (first
     |(go_at_call 13;refine Calls.mono hbag.out ?_;rintro e V3 ⟨ao3,c3,rfl,hb3⟩;have hs3:=hb3.size;have hI3:=(hI2H.out.trans (hb3.mono hI2H.out.size)).alloc (Nat.le_trans hI2H.out.size hs3) (.cells #[.int .i64 ((next b p:Nat):Int)] 3);have hI3H:Hid _:=hI3;clear hI3)
     |(go_at_call 12;refine Calls.mono (words_ok _ [((next b p:Nat):Int)] (λx hx=>by simp at hx;omega) (by decide) (show 1≤10 by decide) V3.heap.size 1 _ (hg.on hI3H.out).tab (by rw[World.size_alloc];omega) (λj hj=>by have hj':j<1:=hj;obtain rfl:j=0:=(by omega);exact World.cell?_alloc_at (w:=V3) _ _ _ _ rfl)) ?_;rintro e V4 ⟨rfl,hb4⟩;have hs4:=hb4.size;rw[World.size_alloc]at hs4;have hB4:Hid (Below V2.heap.size V2 V4):=(hb3.alloc hs3 _).trans (hb4.mono (by rw[World.size_alloc];omega)))
     |(at_builtin;go_loud (refine wpList_append_own_at _ rfl _ _ 41 rfl G.base 9 i9 (.string ByteArray.empty) 1 16 Tryz.underlying41 hi9 hz9 hs9 hb9 rfl (by decide) v i (strs (tells 0 (ps.take i))) rfl (World.ownsRow.alloc ((Keep.of_below (F:=λk=>V2.heap.size≤k) hB4.out λk _ hk=>hk).row hown2.out (λk hk=>by have:=(World.ownsRow.lt hown2.out k hk).2;omega)) _) ⟨V4.heap.size,0,none⟩ 1 1 _ rfl rfl (cell_one_new V4 _ _) ?c2 ?c3 ?c4 ?c5 ?_)))
    case c2=>exactλu hu=>by obtain rfl:=List.mem_singleton.1 hu;rfl
    case c3=>unfold maxLen;omega
    case c4=>omega
    case c5=>have h1:=hD.out.st.bag.le;have h2:=hB4.out.size;rw[World.size_alloc];omega
    intro v' W6 hown6 hgr6 _ hat6
    rw[←hbase]at hown6
    have hS6:RunS G w.heap.size ρ w w1 ps (i+1) v' bv2 sv2 ns2 ss2 t2 W6:=by
     refine runS_next (p:=p) hbase hlt e1H.out (e2H.out.trans (by rw[tell_eq,markL];first|(rw[if_pos ‹okB b p=true›];rfl)|(rw[if_neg ‹¬okB b p=true›];rfl))) hkpH.out hb1'.out hD.out hB4.out (World.ownsRow.alloc ((Keep.of_below (F:=λk=>V2.heap.size≤k) hB4.out λk _ hk=>hk).row hown2.out (λk hk=>by have:=(World.ownsRow.lt hown2.out k hk).2;omega)) _) hown6 hgr6 hat6 hapH.out hns ht1 (λk hk=>(World.ownsRow.lt hown1.out k hk).2) (λk hk=>hk.elim (λh=>(World.ownsRow.lt hst1.out.bag.row k h).1) (λh=>(World.ownsRow.lt hst1.out.sent k h).1))
    have hS6H:Hid _:=hS6
    clear hS6 hgr6 hown6 hat6 hB4 hbag hown2
    go_wp2
    refine of_wp ?_
    go_wp2
    exact⟨⟨i+1,v',bv2,sv2,ns2,ss2,t2,_,_,_,_,_,_,_,_,_,_,_,_,_,_,_,_,_,_,_,_,_,_,_,_,_,_,_,_,_,_,_,_,_,_,_,_,_,_,_,_,_,_,_,_,_,rest,hrest,hlt,hS6H.out,rfl⟩,by simp[at40];omega⟩
  ·obtain rfl:i=ps.length:=by omega
   obtain⟨hst,hkp,hns,ht0,ht1,hown,hap⟩:=hS
   rw[List.take_length]at hst hown
   have hbo:bagOf ps≤ps.length:=bagOf_le _
   have hI:Below w.heap.size w V:=hw1.trans (hkp.below (by omega) (λk hk=>by omega))
   have hnodes:Hid _:=nodes_ok hnp.out hst0.out hbase hst hkp (gw_on hw hI)
   have hapH:Hid _:=hap
   have hkpH:Hid _:=hkp
   have hownH:Hid _:=hown
   have hstH:Hid _:=hst
   have hIH:Hid _:=hI
   clear hap hkp hown hst hI
   refine wpN_seq (of_wp ?_)
   go_wp2
   refine wpN_seq (of_wp ?_)
   go_wp2
   obtain⟨u58,u59,u60,u61,u62,u63,u64,u65,u66,u67,u68,u69,u70,u71,u72,u73,u74,u75,u76,u77,u78,u79,u80,u81,u82,u83,u84,u85,u86,u87,u88,u89,u90,u91,u92,u93,u94,u95,u96,rest,rfl,hr21⟩:=split_rest hrest
   refine wpN_seq ?_
   refine wpN_seq (of_wp ?_)
   go_wp2_with (go_at_call 14;refine Calls.mono hnodes.out ?_;rintro e V1 ⟨hbn,g,o,c,rfl,hgn,hrn⟩;replace hrn:Hid _:=hrn)
   have hbnH:Hid _:=hbn
   have hN0:RunN G w1 ps bv sv ns ss t g o 0 v V1:=by
    refine⟨hstH.out.keep_new hbn,hkpH.out.trans (Keep.of_below hbn λk h1 h2=>absurd h1 (by omega)),?_,hapH.out,hrn.out,λe=>by have:=(World.ownsRow.lt hownH.out g e).2;omega⟩
    show V1.ownsRow _ _ _ _ _ (strs (tells 0 ps++[]))
    rw[List.append_nil]
    exact(Keep.of_below (F:=λk=>V.heap.size≤k) hbn λk _ hk=>hk).row hownH.out (λk hk=>by have:=(World.ownsRow.lt hownH.out k hk).2;omega)
   clear hapH hkpH hownH hstH hnodes hrn
   refine wpN_block (wpN_loop (λa W=>∃(j:Nat) (v u14 u15 u62 u63 u64 u65 u66 u67 u68 u69 u70 u71 u72 u73 u74 u75 u76 u77 u78 u79 u80 u81 u82 u83 u84 u85 u86 u87 u88 u89 u90 u91 u92 u93 u94 u95 u96:Value),j≤3∧RunN G w1 ps bv sv ns ss t g o j v W∧a=⟨(.string T::u1::.string ⟨#[]⟩::.int .i64 0::.int .i64 0::.int .i64 3::.slice ao ps.length ac::.int .i64 0::.int .i64 0::.pointer (some ⟨G.A,G.oA,none⟩)::v::u11::u12::u13::u14::u15::u16::u17::u18::u19::u20::u21::u22::u23::u24::u25::u26::u27::u28::u29::u30::u31::u32::u33::u34::u35::u36::u37::.slice ao ps.length ac::.int .i64 (ps.length:Nat)::.int .i64 (ps.length:Nat)::.bool false::u42::u43::u44::u45::u46::u47::u48::u49::u50::u51::u52::u53::u54::u55::u56::u57::.pointer (some ⟨G.A,G.oA,none⟩)::.slice (some ⟨g,o,none⟩) 3 c::.int .i64 3::.int .i64 (j:Nat)::u62::u63::u64::u65::u66::u67::u68::u69::u70::u71::u72::u73::u74::u75::u76::u77::u78::u79::u80::u81::u82::u83::u84::u85::u86::u87::u88::u89::u90::u91::u92::u93::u94::u95::u96::rest).toArray,[]⟩) (λa _=>10-at61 a) ?_ ?_)
   ·exact⟨0,v,_,_,_,_,_,_,_,_,_,_,_,_,_,_,_,_,_,_,_,_,_,_,_,_,_,_,_,_,_,_,_,_,_,_,_,_,_,Nat.zero_le _,hN0,rfl⟩
   ·refine open_nodes (S:=λj v V=>RunN G w1 ps bv sv ns ss t g o j v V) ?_
    clear hN0
    intro V j v u14 u15 u62 u63 u64 u65 u66 u67 u68 u69 u70 u71 u72 u73 u74 u75 u76 u77 u78 u79 u80 u81 u82 u83 u84 u85 u86 u87 u88 u89 u90 u91 u92 u93 u94 u95 u96 hj hS
    rcases Nat.lt_or_ge j 3 with hlt|hge
    ·have hSH:Hid _:=hS
     obtain⟨hst,hkp,hown,hap,hrng,hgv⟩:=hS
     have hgl:g<V.heap.size:=World.block_lt_of_cell? V _ (hrng 0 (by omega) 0 _ rfl)
     have hra:V.rangeAt g (o+j*8) toldC:=hrng j hlt
     have hraH:Hid _:=hra
     have hownH:Hid _:=hown
     have hIH2:Hid (Below w.heap.size w V):=hw1.trans (hkp.below (by omega) (λk hk=>by omega))
     have hVle:G.base≤V.heap.size:=hst.bag.le
     have hiN:(Tryz.prog.info? 57).map (·.size)=some toldC.length:=by kernel_rfl
     have hthN:Hid ((V.alloc (.cells zeroN.toArray 57)).there V.heap.size 0 toldC.toArray.size):=nodeC_there V
     have hbb:Below V.heap.size V ((V.alloc (.cells zeroN.toArray 57)).setCells V.heap.size 0 toldC):=setCells_below (Below.refl _ _) V.heap.size (Nat.le_refl _) toldC 0 _ ((Below.refl _ _).alloc (Nat.le_refl _) _)
     have hF:Below V.heap.size V ((V.alloc (.cells zeroN.toArray 57)).setCells V.heap.size 0 toldC)∧((V.alloc (.cells zeroN.toArray 57)).setCells V.heap.size 0 toldC).rangeAt V.heap.size 0 toldC:=⟨hbb,nodeC_range V⟩
     have hFH:Hid _:=hF
     have hj2:(j:Int)<3:=by omega
     have hj0:(0:Int)≤(j:Int):=by omega
     clear hst hkp hown hap hrng hgv hra hbb hF
     refine wpN_seq (of_wp ?_)
     go_wp2
     refine wpN_seq (of_wp ?_)
     go_wp2
     refine wpN_seq (wpN_block ?_)
     refine wpN_seq (of_wp ?_)
     go_wp2_with (first|(refine wpList_load_mid (op:={dst:=some 65,op:=.load 57 (.tmp 64),type:=_,pos:=_,after:=_,guard:=none}) rfl 57 (.tmp 64) rfl g (o+j*8) rfl toldC _ ?hr1 Tryz.underlying57 rfl hiN ?_;case hr1=>exact hraH.out)|(refine wpList_store_mid (op:={dst:=none,op:=.store 57 (.tmp 15) (.tmp 65),type:=_,pos:=_,after:=_,guard:=none}) rfl 57 (.tmp 15) (.tmp 65) rfl V.heap.size 0 toldC.toArray rfl rfl ?ht hiN nodeC_one ?_;case ht=>exact hthN.out))
     refine(λ(h:∀V1,(Below V.heap.size V V1∧V1.rangeAt V.heap.size 0 toldC)→WpN Tryz.prog _ _ _ V1)=>h _ hFH.out) ?_
     clear hFH hthN hraH
     obtain⟨N,hN⟩:∃N,V.heap.size=N:=⟨_,rfl⟩
     have hNH:Hid _:=hN
     rw[hN]
     intro V2 hF
     obtain⟨hb2',hr2⟩:=hF
     have hbN:Hid (Below V.heap.size V V2):=by rw[hN];exact hb2'
     have hc0:V2.cell? ⟨N,0,none⟩=some (.bool true):=hr2 0 _ rfl
     have hc1:V2.cell? ⟨N,1,none⟩=some (.int .i64 0):=hr2 1 _ rfl
     have hc2:V2.cell? ⟨N,2,none⟩=some (.int .i64 0):=hr2 2 _ rfl
     have hc3:V2.cell? ⟨N,3,none⟩=some (.int .i64 0):=hr2 3 _ rfl
     have hc4:V2.cell? ⟨N,4,none⟩=some (.int .i64 0):=hr2 4 _ rfl
     have hc5:V2.cell? ⟨N,5,none⟩=some (.int .i64 0):=hr2 5 _ rfl
     have hc6:V2.cell? ⟨N,6,none⟩=some (.int .i64 0):=hr2 6 _ rfl
     have hc7:V2.cell? ⟨N,7,none⟩=some (.int .i64 0):=hr2 7 _ rfl
     have hs2:=hbN.out.size
     have hI2:Hid (Below w.heap.size w V2):=hIH2.out.trans (hbN.out.mono hIH2.out.size)
     clear hb2' hr2 hN
     refine wpN_seq (of_wp ?_)
     go_wp2
     have hinfo9:(Tryz.prog.info? 9).map (λi=>(i.zero,i.size,i.bytes))=some (some (.string ByteArray.empty),1,16):=by kernel_rfl
     obtain⟨i9,hi9,hz9,hs9,hb9⟩:=info_parts hinfo9
     refine of_wp ?_
     go_wp2_with (first
      |(go_at_call 12;refine Calls.mono (words_ok ⟨#[110,111,100,101]⟩ (nums8 j) (nums8_small j hj) (by decide) (show 8≤10 by decide) V2.heap.size 8 _ (hg.on (hI2.out.alloc hI2.out.size _)).tab (by rw[World.size_alloc];omega) (nums8_cells V2 j)) ?_;rintro e V4 ⟨rfl,hb4⟩;have hs4:=hb4.size;rw[World.size_alloc]at hs4;have hB4:Hid (Below V.heap.size V V4):=hbN.out.trans (((Below.refl V2.heap.size V2).alloc (Nat.le_refl _) _ |>.trans (hb4.mono (by rw[World.size_alloc];omega))).mono hs2))
      |(at_builtin;go_loud (refine wpList_append_own_at _ rfl _ _ 41 rfl G.base 9 i9 (.string ByteArray.empty) 1 16 Tryz.underlying41 hi9 hz9 hs9 hb9 rfl (by decide) v (ps.length+j) (strs (tells 0 ps++lasts.take j)) rfl (World.ownsRow.alloc ((Keep.of_below (F:=λk=>V.heap.size≤k) hB4.out λk _ hk=>hk).row hownH.out (λk hk=>by have:=(World.ownsRow.lt hownH.out k hk).2;omega)) _) ⟨V4.heap.size,0,none⟩ 1 1 _ rfl rfl (cell_one_new V4 _ _) ?c2 ?c3 ?c4 ?c5 ?_)))
     case c2=>exactλu hu=>by obtain rfl:=List.mem_singleton.1 hu;rfl
     case c3=>unfold maxLen;omega
     case c4=>omega
     case c5=>have h2:=hB4.out.size;rw[World.size_alloc];omega
     intro v' W6 hown6 hgr6 _ hat6
     rw[←hbase]at hown6
     have hS6:RunN G w1 ps bv sv ns ss t g o (j+1) v' W6:=
      runN_next (N:=V4.heap.size+1) hSH.out (Nat.le_of_eq hbase) (hB4.out.alloc hB4.out.size _) (by omega) (node_eq j hlt) hown6 hgr6 hat6 (by have:=hB4.out.size;omega)
     have hS6H:Hid _:=hS6
     clear hS6 hgr6 hown6 hat6 hB4 hSH hownH
     go_wp2
     refine of_wp ?_
     go_wp2
     exact⟨⟨j+1,v',_,_,_,_,_,_,_,_,_,_,_,_,_,_,_,_,_,_,_,_,_,_,_,_,_,_,_,_,_,_,_,_,_,_,_,_,_,hlt,hS6H.out,rfl⟩,by simp[at61];omega⟩
    ·obtain rfl:j=3:=by omega
     have hSH:Hid _:=hS
     obtain⟨hst,hkp,hown,hap,hrng,hgv⟩:=hS
     have hIV:Below w.heap.size w V:=hw1.trans (hkp.below (by omega) (λk hk=>by omega))
     have hgot:Hid _:=got_ok hnp.out hst0.out hbase hst hkp (gw_on hw hIV)
     have hownH:Hid _:=hown
     have hIVH:Hid _:=hIV
     have hVle:G.base≤V.heap.size:=hst.bag.le
     obtain⟨u97,u98,u99,u100,u101,u102,u103,u104,u105,u106,u107,u108,u109,u110,u111,u112,u113,u114,u115,u116,u117,rfl⟩:=split_last hr21
     clear hst hkp hown hap hrng hgv hIV
     refine wpN_seq (of_wp ?_)
     go_wp2
     refine wpN_seq (of_wp ?_)
     go_wp2
     have hinfo9:(Tryz.prog.info? 9).map (λi=>(i.zero,i.size,i.bytes))=some (some (.string ByteArray.empty),1,16):=by kernel_rfl
     obtain⟨i9,hi9,hz9,hs9,hb9⟩:=info_parts hinfo9
     refine wpN_seq ?_
     refine wpN_cut 8 (by decide) ?_
     simp only[List.take_succ_cons,List.take_zero]
     go_wp2_with (first
      |(go_at_call 16;refine Calls.mono hgot.out ?_;rintro e V3 ⟨rfl,hb3⟩;have hs3:=hb3.size;have hI3H:Hid (Below w.heap.size w (V3.alloc (.cells #[.int .i64 0] 3))):=(hIVH.out.trans (hb3.mono hIVH.out.size)).alloc (Nat.le_trans hIVH.out.size hs3) _)
      |(go_at_call 12;refine Calls.mono (words_ok _ [0] (λx hx=>by simp at hx;omega) (by decide) (show 1≤10 by decide) V3.heap.size 1 _ (hg.on hI3H.out).tab (by rw[World.size_alloc];omega) (λj hj=>by have hj':j<1:=hj;obtain rfl:j=0:=(by omega);exact World.cell?_alloc_at (w:=V3) _ _ _ _ rfl)) ?_;rintro e V4 ⟨rfl,hb4⟩;have hs4:=hb4.size;rw[World.size_alloc]at hs4;have hB4:Hid (Below V.heap.size V V4):=(hb3.alloc hs3 _).trans (hb4.mono (by rw[World.size_alloc];omega)))
      |(at_builtin;go_loud (refine wpList_append_own_at _ rfl _ _ 41 rfl G.base 9 i9 (.string ByteArray.empty) 1 16 Tryz.underlying41 hi9 hz9 hs9 hb9 rfl (by decide) v (ps.length+3) (strs (tells 0 ps++lasts.take 3)) rfl (World.ownsRow.alloc ((Keep.of_below (F:=λk=>V.heap.size≤k) hB4.out λk _ hk=>hk).row hownH.out (λk hk=>by have:=(World.ownsRow.lt hownH.out k hk).2;omega)) _) ⟨V4.heap.size,0,none⟩ 1 1 _ rfl rfl (cell_one_new V4 _ _) ?c2 ?c3 ?c4 ?c5 ?_)))
     case c2=>exactλu hu=>by obtain rfl:=List.mem_singleton.1 hu;rfl
     case c3=>unfold maxLen;omega
     case c4=>omega
     case c5=>have h2:=hB4.out.size;rw[World.size_alloc];omega
     intro v' W6 hown6 hgr6 _ hat6
     rw[←hbase]at hown6
     have hS6:RunN G w1 ps bv sv ns ss t g o 4 v' W6:=
      runN_next (N:=V4.heap.size+1) hSH.out (Nat.le_of_eq hbase) (hB4.out.alloc hB4.out.size _) (by omega) got_eq hown6 hgr6 hat6 (by have:=hB4.out.size;omega)
     obtain⟨g6,c6,rfl,hg6,_,hcs6⟩:=row_some hS6.own (by omega)
     have hI6:Below w.heap.size w W6:=hw1.trans (hS6.keep.below (by omega) (λk hk=>by omega))
     have hlen:(allT ps).length=ps.length+4:=by unfold allT;rw[List.length_append,tells_length];rfl
     have hcell6:∀(i:Nat) (h:i<(allT ps).length),W6.cell? ⟨g6,0+i,none⟩=some (.string (allT ps)[i]):=λi h=>by
      rw[Nat.zero_add]
      refine hcs6 i _ ?_
      show(strs (allT ps))[i]?=_
      unfold strs
      rw[List.getElem?_map,List.getElem?_eq_getElem h]
      rfl
     have hjt:(jt (allT ps)).length≤1000000000:=by
      have h1:=toldL_len ps 0 (by omega)
      have h2:lastL.length≤100:=by decide
      rw[allT_jt,List.length_append]
      unfold toldL
      omega
     have hos:(allT ps).length≤1000000:=by omega
     clear hS6 hgr6 hown6 hat6 hB4 hSH hownH hcs6
     generalize hos':allT ps=os at hlen hcell6 hjt hos
     refine .inl ⟨rfl,?_⟩
     show OpsTo _ _ _ [8,9] _ _
     rw[show(((ps.length+3+1:Nat):Nat))=os.length from hlen.symm]
     refine run_tail os hos hjt _ _ _ _ _ _ _ _ _ _ _ _ _ _ _ _ _ _ _ _ _ _ _ _ _ _ _ _ _ _ _ _ _ _ _ _ _ _ _ _ _ _ _ _ _ _ _ _ _ _ _ _ _ _ _ _ _ _ _ _ _ _ _ _ _ _ _ _ _ _ _ _ _ _ _ _ _ _ _ _ _ _ _ _ _ _ _ _ _ _ _ _ _ _ _ _ _ _ _ _ _ _ _ _ _ _ _ _ _ _ _ _ _ _ _ _ _ _ g6 0 c6 W6 hg6 hcell6 _ ?_
     intro w' hb'
     rw[←hos']
     exact⟨rfl,hI6.trans (hb'.mono hI6.size)⟩
end Go.Rm
