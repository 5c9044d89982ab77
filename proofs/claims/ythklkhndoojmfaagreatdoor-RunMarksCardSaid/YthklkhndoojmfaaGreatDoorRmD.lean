/-
  The world's may at the four acts: walked.
-/
import Derived.Test.YthklkhndoojmfaaGreatDoorRmJ
import Derived.Deep.RegionWith
import Derived.Test.YthklkhndoojmfaaGreatDoorRmH
set_option linter.unusedVariables false
set_option linter.unusedSimpArgs false
noncomputable section
namespace Go.Rm
open Go Go.Conc Go.Proofs Go.RowKit Go.Kn Go.Ry
def actB:Nat→List Value
 |0=>actC 0 99
 |1=>actC 3 7
 |2=>[.int .i64 7,.int .i64 0,.int .i64 0,.int .i64 0,.int .i64 2,.int .i64 100,.int .i64 1,.int .i64 0,.int .i64 0,.int .i64 3,.int .i64 0,.int .i64 0,.int .i64 0,.int .i64 0,.int .i64 5,.int .i64 0,.int .i64 0,.int .i64 0,.string ⟨#[115]⟩,.slice none 0 0,.int .i64 0,.string ⟨#[]⟩,.slice none 0 0,.string ⟨#[]⟩]
 |_=>actC 1 0
def readC:List Value:=[.int .i64 2,.int .i64 100,.int .i64 1,.int .i64 0,.int .i64 0,.int .i64 3,.int .i64 0,.int .i64 0,.int .i64 0,.int .i64 0,.int .i64 5,.int .i64 0,.int .i64 0,.int .i64 0,.string ⟨#[115]⟩,.slice none 0 0,.int .i64 0,.string ⟨#[]⟩,.slice none 0 0,.string ⟨#[]⟩]
section
variable {G:Geo} {W:World} {b:Nat} {bv:Value} {xs:List Value} {sv:Value} {ns:Nat} {ss:List Value} {t:Int}
theorem Wst.nodes (h:Wst G W b bv xs sv ns ss t):W.cell? ⟨G.A,G.oA,none⟩=some G.nd:=by
 obtain⟨C,h1,_,h2,_⟩:=h.blk
 rw[cell_blk h1];exact h2
theorem Wst.bagp (h:Wst G W b bv xs sv ns ss t):W.cell? ⟨G.A,G.oA+2,none⟩=some (.pointer (some ⟨G.B,G.oB,none⟩)):=by
 obtain⟨C,h1,_,_,_,h2,_⟩:=h.blk
 rw[cell_blk h1];exact h2
theorem Wst.sentc (h:Wst G W b bv xs sv ns ss t):W.cell? ⟨G.A,G.oA+4,none⟩=some sv:=by
 obtain⟨C,h1,_,_,_,_,_,h2,_⟩:=h.blk
 rw[cell_blk h1];exact h2
theorem Wst.timec (h:Wst G W b bv xs sv ns ss t):W.cell? ⟨G.A,G.oA+5,none⟩=some (.int .i64 t):=by
 obtain⟨C,h1,_,_,_,_,_,_,h2⟩:=h.blk
 rw[cell_blk h1];exact h2
theorem Wst.lt' (h:Wst G W b bv xs sv ns ss t):G.A<W.heap.size:=World.block_lt_of_cell? _ _ h.nodes
theorem Wst.keep {W':World} {F:Nat→Prop} (h:Wst G W b bv xs sv ns ss t) (hk:Keep F W W') (hA:¬F G.A) (hB:¬F G.B) (hb:∀k,bv.ownBlock=some k→¬F k) (hs:∀k,sv.ownBlock=some k→¬F k):Wst G W' b bv xs sv ns ss t:=by
 obtain⟨C,h1,h2⟩:=h.blk
 exact⟨h.bag.keep hk hB hb,⟨C,hk.blk h1 hA,h2⟩,h.thaw,h.lt,h.ne,hk.row h.sent hs,h.apart⟩
theorem Wst.keep_new {W':World} (h:Wst G W b bv xs sv ns ss t) (hk:Below W.heap.size W W'):Wst G W' b bv xs sv ns ss t:=
 h.keep (F:=λk=>W.heap.size≤k) (Keep.of_below hk λk _ hk=>hk) (by have:=h.lt';omega) (by have:=World.block_lt_of_cell? _ _ h.bag.cell;have e:(⟨G.B,G.oB,none⟩:Addr).block=G.B:=rfl;omega) (λk hk=>by have:=(h.bag.row.lt k hk).2;omega) (λk hk=>by have:=(h.sent.lt k hk).2;omega)
set_option maxHeartbeats 2000000 in
set_option maxRecDepth 100000 in
theorem may_deliver (h:Wst G W b bv xs sv ns ss t) (hb:b≤90):
 Calls Tryz.prog 31 #[.pointer (some ⟨G.A,G.oA,none⟩),.agg (actB 0).toArray] W λe w'=>e=.returned (.bool false)∧Below W.heap.size W w':=by
 have hA:=h.lt'
 have hBl:G.B<W.heap.size:=World.block_lt_of_cell? _ _ h.bag.cell
 have hbw:Hid (∀o,Below W.heap.size W (W.alloc o).drew):=λo=>(Below.alloc (Below.refl _ _) (Nat.le_refl _) o).drew
 have hlen:Hid (∀o,Calls Tryz.prog 65 #[.pointer (some ⟨G.B,G.oB,none⟩)] (W.alloc o).drew λe w'=>e=.returned (.int .i64 b)∧w'=(W.alloc o).drew):=λo=>
  len_ok (h.bag.keep (F:=λk=>W.heap.size≤k) (Keep.of_below (hbw o) λk _ hk=>hk) (by omega) (λk hk=>by have:=(h.bag.row.lt k hk).2;omega))
 have hc:∀o,((W.alloc o).drew).cell? ⟨G.A,G.oA+2,none⟩=some (.pointer (some ⟨G.B,G.oB,none⟩)):=λo=>((hbw o).cell hA).trans h.bagp
 have hb99:¬(99:Int)<(b:Int):=by omega
 have mixed:Tryz.prog.follows .mixedOrders=true:=by kernel_rfl
 clear h
 unfold actB actC
 go_enter Tryz.func31,Tryz.ntmps31
 go_wp2_with fail
 go_region_with (go_at_call 65;refine Calls.mono (hlen.out _) ?_;rintro e W5 ⟨rfl,hW5⟩;have h9:=hW5.symm;clear hW5;subst h9)
 all_goals go_wp2
 all_goals go_ret
 all_goals refine⟨?_,hbw.out _⟩
 all_goals simp[Act.put,Act.eval,hb99]
set_option maxHeartbeats 2000000 in
set_option maxRecDepth 100000 in
theorem up_none (h:Wst G W b bv xs sv ns ss t) (ao:Option Addr) (c:Nat) (hn:G.nd=.slice ao 3 c):Calls Tryz.prog 66 #[.pointer (some ⟨G.A,G.oA,none⟩),.int .i64 7] W λe w'=>e=.returned (.pointer none)∧w'=W:=by
 have hc:=h.nodes
 rw[hn]at hc
 clear h hn
 go_enter Tryz.func66,Tryz.ntmps66
 go_wp2
 go_ret
 exact⟨rfl,rfl⟩
set_option maxHeartbeats 2000000 in
set_option maxRecDepth 100000 in
theorem may_tick (h:Wst G W b bv xs sv ns ss t) (ao:Option Addr) (c:Nat) (hn:G.nd=.slice ao 3 c):
 Calls Tryz.prog 31 #[.pointer (some ⟨G.A,G.oA,none⟩),.agg (actB 1).toArray] W λe w'=>e=.returned (.bool false)∧Below W.heap.size W w':=by
 have hbw:Hid (∀o,Below W.heap.size W (W.alloc o)):=λo=>Below.alloc (Below.refl _ _) (Nat.le_refl _) o
 have hup:Hid (∀o,Calls Tryz.prog 66 #[.pointer (some ⟨G.A,G.oA,none⟩),.int .i64 7] (W.alloc o) λe w'=>e=.returned (.pointer none)∧w'=W.alloc o):=λo=>up_none (h.keep_new (hbw o)) ao c hn
 clear h hn
 unfold actB actC
 go_enter Tryz.func31,Tryz.ntmps31
 go_wp2_with (go_at_call 66;refine Calls.mono (hup.out _) ?_;rintro e W5 ⟨rfl,hW5⟩;have h9:=hW5.symm;clear hW5;subst h9)
 go_ret
 exact⟨rfl,hbw.out _⟩
set_option maxHeartbeats 2000000 in
set_option maxRecDepth 100000 in
theorem may_drop (h:Wst G W b bv xs sv ns ss t) (hb:b≤90) (r:Bool) (hr:r=decide (0<b)):
 Calls Tryz.prog 31 #[.pointer (some ⟨G.A,G.oA,none⟩),.agg (actB 3).toArray] W λe w'=>e=.returned (.bool r)∧Below W.heap.size W w':=by
 have hA:=h.lt'
 have hBl:G.B<W.heap.size:=World.block_lt_of_cell? _ _ h.bag.cell
 have hbw:Hid (∀o,Below W.heap.size W (W.alloc o).drew):=λo=>(Below.alloc (Below.refl _ _) (Nat.le_refl _) o).drew
 have hlen:Hid (∀o,Calls Tryz.prog 65 #[.pointer (some ⟨G.B,G.oB,none⟩)] (W.alloc o).drew λe w'=>e=.returned (.int .i64 b)∧w'=(W.alloc o).drew):=λo=>
  len_ok (h.bag.keep (F:=λk=>W.heap.size≤k) (Keep.of_below (hbw o) λk _ hk=>hk) (by omega) (λk hk=>by have:=(h.bag.row.lt k hk).2;omega))
 have hc:∀o,((W.alloc o).drew).cell? ⟨G.A,G.oA+2,none⟩=some (.pointer (some ⟨G.B,G.oB,none⟩)):=λo=>((hbw o).cell hA).trans h.bagp
 have mixed:Tryz.prog.follows .mixedOrders=true:=by kernel_rfl
 have hrr:decide ((0:Int)<(b:Int))=r:=by rw[hr];congr 1;exact propext (by omega)
 have hrN:decide (0<b)=r:=hr.symm
 clear h hr
 unfold actB actC
 go_enter Tryz.func31,Tryz.ntmps31
 go_wp2_with fail
 go_region_with (go_at_call 65;refine Calls.mono (hlen.out _) ?_;rintro e W5 ⟨rfl,hW5⟩;have h9:=hW5.symm;clear hW5;subst h9)
 all_goals go_wp2
 all_goals go_ret
 all_goals refine⟨?_,hbw.out _⟩
 all_goals simp[Act.put,Act.eval,hrr,hrN]
end
end Go.Rm
set_option linter.unusedVariables false
set_option linter.unusedSimpArgs false
noncomputable section
namespace Go.Rm
open Go Go.Conc Go.Proofs Go.RowKit Go.Kn Go.Kx Go.Ry
theorem actB_len:∀p,(actB p).length=24
 |0=>rfl
 |1=>rfl
 |2=>rfl
 |_+3=>rfl
theorem actB_size (p:Nat):(actB p).toArray.size=24:=by rw[List.size_toArray];exact actB_len p
theorem actB_one:∀p,(actB p).toArray.all (·.oneCell')=true
 |0=>actC_one 0 99
 |1=>actC_one 3 7
 |2=>by simp[actB,Value.oneCell']
 |_+3=>actC_one 1 0
theorem actB_each (p:Nat):∀u∈actB p,u.oneCell'=true:=λu hu=>Array.all_eq_true_iff_forall_mem.1 (actB_one p) u (by simpa using hu)
theorem actB_there (W:World) (p:Nat):(W.alloc (.cells (actC 0 0).toArray 49)).there W.heap.size 0 (actB p).toArray.size:=by
 have h:=alloc_there W (actC 0 0).toArray 49
 rw[actC_size]at h
 rw[actB_size]
 exact h
theorem actB_range (W:World) (p:Nat):((W.alloc (.cells (actC 0 0).toArray 49)).setCells W.heap.size 0 (actB p)).rangeAt W.heap.size 0 (actB p):=
 World.rangeAt_setCells_same _ W.heap.size 0 (actB p) (by have:=actB_there W p;rwa [List.size_toArray]at this)
theorem actB_cells (V:World) (p:Nat):∀(j:Nat) (u:Value),(actB p)[j]?=some u→(V.alloc (.cells (List.foldl (λ(cs:Array Value) (p:Value×Nat)=>cs.setIfInBounds p.snd p.fst) (actC 0 0).toArray (actB p).zipIdx) 49)).cell? ((⟨V.heap.size,0,none⟩:Addr).add j)=some u:=by
 intro j u h
 rw[laid _ _ (by rw[actB_len];rfl),Addr.add_mid,Nat.zero_add,World.cell?_alloc_at (w:=V) _ _ _ _ rfl,List.getElem?_toArray]
 exact h
theorem cut_whole (ps:List Nat) (hp:ps.length≤30) (w:World) (hg:Gl w):Calls Tryz.prog 19 #[.string (bs (wholeL ps)),.string ⟨#[10]⟩] w λe w'=>e=.returned (.tuple #[.string nodesT,.string (bs (scriptL ps)),.bool true])∧Below w.heap.size w w':=
 cut_ok _ _ _ _ _ (by have:=wholeL_len ps;rw[bs_size];omega) (by rw[bs_list,bs_list];exact Ry.cut_at _ _ _ (by decide)) w hg
theorem cut_line (p:Nat) (ps:List Nat) (hp:ps.length≤30) (w:World) (hg:Gl w):Calls Tryz.prog 19 #[.string (bs (scriptL (p::ps))),.string ⟨#[10]⟩] w λe w'=>e=.returned (.tuple #[.string (bs (lineL p)),.string (bs (scriptL ps)),.bool true])∧Below w.heap.size w w':=
 cut_ok _ _ _ _ _ (by have:=scriptL_len (p::ps);simp only[List.length_cons]at this;rw[bs_size];omega) (by rw[bs_list,bs_list,bs_list,scriptL_cons];exact Ry.cut_at _ _ _ (lineL_no p)) w hg
structure ParF (w:World) (B:Nat) (p:Nat) (v:Value) (i:Nat) (xs:List Value) (V:World):Prop where
 below:Below w.heap.size w V
 range:V.rangeAt B 0 (actB p)
 own:V.ownsRow w.heap.size 49 24 v i xs
set_option maxHeartbeats 1000000 in
set_option maxRecDepth 100000 in
theorem parse_ok (ps:List Nat) (hp:ps.length≤30) (w:World) (hg:Gl w)
 (hn:∀W,Below w.heap.size w W→Calls Tryz.prog 20 #[.string ⟨#[51]⟩] W λe w'=>e=.returned (.tuple #[.int .i64 3,.bool true])∧Below W.heap.size W w')
 (ha:∀p W,Below w.heap.size w W→Calls Tryz.prog 21 #[.string (bs (lineL p))] W λe w'=>e=.returned (.tuple #[.agg (actB p).toArray,.bool true])∧Below W.heap.size W w'):
 Calls Tryz.prog 8 #[.string (bs (wholeL ps))] w λe w'=>Below w.heap.size w w'∧∃v,e=.returned (.tuple #[.int .i64 3,v,.int .i64 0,.int .i64 0])∧w'.ownsRow w.heap.size 49 24 v ps.length (ps.flatMap actB):=by
 have hiA:(Tryz.prog.info? 49).map (·.size)=some 24:=by kernel_rfl
 have hinfoA:(Tryz.prog.info? 49).map (λi=>(i.zero,i.size,i.bytes))=some (some (.agg (actC 0 0).toArray),24,248):=by kernel_rfl
 obtain⟨iA,hjA,hzA,hsA,hbA⟩:=info_parts hinfoA
 have hsz:(bs (wholeL ps)).size≤600:=by have:=wholeL_len ps;rw[bs_size];omega
 have k1:=λW (h:Below w.heap.size w W)=>cut_whole ps hp W (hg.on h)
 have k2:=λW (h:Below w.heap.size w W)=>cut_nodes W (hg.on h)
 have k3:=λp qs (hq:qs.length≤30) W (h:Below w.heap.size w W)=>cut_line p qs hq W (hg.on h)
 have k4:=hn
 clear hn
 generalize bs (wholeL ps)=T at hsz k1⊢
 refine calls_of_wpN Tryz.func8 rfl ?_
 simp only[Tryz.ntmps8,List.size_toArray,List.length_cons,List.length_nil,Nat.reduceAdd,Nat.reduceSub,Array.replicate_succ,
  Array.replicate_zero,List.push_toArray,List.append_toArray,List.nil_append,List.cons_append]
 refine wpN_seq (of_wp ?_)
 go_wp2
 refine wpN_seq (of_wp ?_)
 go_wp2
 refine wpN_seq (of_wp ?_)
 go_wp2_with (go_at_call 19;refine(k1 w (Below.refl _ _)).mono ?_;rintro e W1 ⟨rfl,hb1⟩)
 refine wpN_seq (of_wp ?_)
 go_wp2_with (go_at_call 19;refine(k2 W1 hb1).mono ?_;rintro e W2 ⟨rfl,hb2⟩)
 replace hb2:=hb1.trans (hb2.mono hb1.size)
 refine wpN_seq (of_wp ?_)
 go_wp2_with (go_at_call 20;refine(k4 W2 hb2).mono ?_;rintro e W3 ⟨rfl,hb3⟩)
 replace hb3:=hb2.trans (hb3.mono hb2.size)
 clear hb1 hb2 k1 k2 k4
 refine wpN_seq (of_wp ?_)
 go_wp2
 refine wpN_seq (of_wp ?_)
 go_wp2
 refine wpN_seq ?_
 refine wpN_seq (of_wp ?_)
 go_wp2
 refine wpN_block (wpN_loop (λa W=>∃(i:Nat) (v:Value) (u1 u6 u8 u9 u10 u11 u13 u16 u17 u18 u19 u20 u21 u22 u23 u24 u25 u26 u27 u28 u29 u30 u31 u32 u33 u34 u35 u36 u37 u38 u39 u40 u41 u42 u43 u44 u45 u46 u47 u48 u49 u50 u51 u52 u53 u54 u55 u56 u57 u58 u59 u60 u61 u62 u63 u64 u65 u66 u67 u68 u69 u70 u71 u72 u73:Value),i≤ps.length∧Below w.heap.size w W∧W.ownsRow w.heap.size 49 24 v i ((ps.take i).flatMap actB)∧a=⟨#[.string T,u1,.int .i64 0,.slice none 0 0,.int .i64 0,.int .i64 0,u6,.string (bs (scriptL (ps.drop i))),u8,u9,u10,u11,.int .i64 3,u13,v,.int .i64 ((i+2:Nat):Int),u16,u17,u18,u19,u20,u21,u22,u23,u24,u25,u26,u27,u28,u29,u30,u31,u32,u33,u34,u35,u36,u37,u38,u39,u40,u41,u42,u43,u44,u45,u46,u47,u48,u49,u50,u51,u52,u53,u54,u55,u56,u57,u58,u59,u60,u61,u62,u63,u64,u65,u66,u67,u68,u69,u70,u71,u72,u73],[]⟩) (λa _=>40-at15 a) ?_ ?_)
 ·exact⟨0,_,_,_,_,_,_,_,_,_,_,_,_,_,_,_,_,_,_,_,_,_,_,_,_,_,_,_,_,_,_,_,_,_,_,_,_,_,_,_,_,_,_,_,_,_,_,_,_,_,_,_,_,_,_,_,_,_,_,_,_,_,_,_,_,_,_,Nat.zero_le _,hb3,World.ownsRow_nil _ _ _ _,rfl⟩
 ·clear hb3
  rintro a W ⟨i,v,u1,u6,u8,u9,u10,u11,u13,u16,u17,u18,u19,u20,u21,u22,u23,u24,u25,u26,u27,u28,u29,u30,u31,u32,u33,u34,u35,u36,u37,u38,u39,u40,u41,u42,u43,u44,u45,u46,u47,u48,u49,u50,u51,u52,u53,u54,u55,u56,u57,u58,u59,u60,u61,u62,u63,u64,u65,u66,u67,u68,u69,u70,u71,u72,u73,hi,hb,hown,rfl⟩
  rcases Nat.lt_or_ge i ps.length with hlt|hge
  ·have hd:ps.drop i=ps[i]::ps.drop (i+1):=List.drop_eq_getElem_cons hlt
   have htk:(ps.take (i+1)).flatMap actB=(ps.take i).flatMap actB++actB ps[i]:=by rw[List.take_succ_eq_append_getElem hlt,List.flatMap_append];simp
   have hq:(ps.drop (i+1)).length≤30:=by rw[List.length_drop];omega
   have k5:=k3 ps[i] (ps.drop (i+1)) hq W hb
   have hne:(bs (scriptL (ps.drop i))).toList.isEmpty=false:=by
    rw[ByteArray.toList_eq,bs_list,hd,scriptL_cons]
    have:=lineL_ne ps[i]
    cases e:lineL ps[i]with
    |nil=>exact absurd e this
    |cons _ _=>rfl
   rw[←hd]at k5
   have hi30:i<30:=by omega
   clear hd hq k3
   generalize bs (scriptL (ps.drop i))=R at hne k5⊢
   obtain⟨R1,hR1⟩:∃R1,bs (scriptL (ps.drop (i+1)))=R1:=⟨_,rfl⟩
   have hR1H:Hid _:=hR1
   rw[hR1]at k5
   clear hR1
   generalize ps[i]=p at htk k5
   have hownH:Hid _:=hown
   have htkH:Hid _:=htk
   have hi4:¬((i:Int)=4000):=by omega
   clear hown htk
   refine wpN_seq (wpN_seq (of_wp ?_))
   go_wp2
   refine of_wp ?_
   go_wp2
   refine wpN_seq (wpN_block ?_)
   refine wpN_seq (of_wp ?_)
   go_wp2
   refine wpN_seq (of_wp ?_)
   go_wp2_with (go_at_call 19;refine k5.mono ?_;rintro e W3 ⟨rfl,hb3⟩)
   have hiP:(Tryz.prog.info? 49).map (·.size)=some (actB p).length:=by rw[actB_len];exact hiA
   have hWB:Hid (Below W.heap.size W W3):=hb3
   replace hb3:=hb.trans (hb3.mono hb.size)
   have k6:=ha p W3 hb3
   clear k5 ha
   refine wpN_seq (of_wp ?_)
   go_wp2_with (first|(go_at_call 21;refine k6.mono ?_;rintro e W4 ⟨rfl,hb4⟩;have hown4:Hid _:=(Keep.of_below (F:=λk=>W.heap.size≤k) ((hWB.out).trans (hb4.mono hWB.out.size)) λk _ hk=>hk).row hownH.out (λk hk=>by have:=(World.ownsRow.lt hownH.out k hk).2;omega);replace hb4:=hb3.trans (hb4.mono hb3.size);clear k6 hb3)|(refine wpList_store_mid (op:={dst:=none,op:=.store 49 (.tmp 17) (.tmp 58),type:=_,pos:=_,after:=_,guard:=none}) rfl 49 (.tmp 17) (.tmp 58) rfl W4.heap.size 0 (actB p).toArray rfl rfl ?ht hiP (actB_one p) ?_;case ht=>exact actB_there W4 p))
   have hF:ParF w W4.heap.size p v i ((ps.take i).flatMap actB) ((W4.alloc (.cells (actC 0 0).toArray 49)).setCells W4.heap.size 0 (actB p)):=
    ⟨setCells_below hb4 W4.heap.size hb4.size (actB p) 0 _ (hb4.alloc hb4.size (.cells (actC 0 0).toArray 49)),actB_range W4 p,((Keep.alloc W4 _).trans (Keep.setCells (F:=λk=>W4.heap.size≤k) (Nat.le_refl W4.heap.size) (actB p) 0 _)).row hown4.out (λk hk=>by have:=(World.ownsRow.lt hown4.out k hk).2;omega)⟩
   obtain⟨B,hB⟩:∃B,W4.heap.size=B:=⟨_,rfl⟩
   rw[hB]at hF⊢
   refine(λ(h:∀V,ParF w B p v i ((ps.take i).flatMap actB) V→WpN Tryz.prog _ _ _ V)=>h _ hF) ?_
   clear hF hown4 hownH hB hb4 hWB hb
   intro V ⟨hV,hr,hown5⟩
   have hrH:Hid _:=hr
   have hone:∀u∈(ps.take i).flatMap actB++actB p,u.oneCell'=true:=λu hu=>by
    rcases List.mem_append.1 hu with h|h
    ·obtain⟨q,_,hq⟩:=List.mem_flatMap.1 h
     exact actB_each q u hq
    ·exact actB_each p u h
   clear hone
   obtain⟨ao,bc,rfl⟩:=row_val hown5
   have hown5H:Hid _:=hown5
   have hVs:=hV.size
   have hlen:(actB p).length=24:=actB_len p
   clear hr hown5
   refine wpN_seq (wpN_seq (of_wp ?_))
   go_wp2
   refine of_wp ?_
   go_wp2
   refine of_wp ?_
   go_wp2_with (first|(refine wpList_load_mid (op:={dst:=some 69,op:=.load 49 (.tmp 17),type:=_,pos:=_,after:=_,guard:=none}) rfl 49 (.tmp 17) rfl B 0 rfl (actB p) _ ?hc Tryz.underlying49 rfl hiP ?_;case hc=>exact hrH.out)|(at_builtin;go_loud (refine wpList_append_own _ rfl _ _ 31 rfl w.heap.size 49 iA (.agg (actC 0 0).toArray) 24 248 Tryz.underlying31 hjA hzA hsA hbA rfl (by decide) (.slice ao i bc) i ((ps.take i).flatMap actB) rfl (World.ownsRow.alloc hown5H.out _) ⟨V.heap.size,0,none⟩ 1 1 (actB p) rfl (actB_len p) ?c1 ?c2 ?c3 ?c4 ?c5 ?_)))
   case c1=>exact actB_cells V p
   case c2=>exact actB_each p
   case c3=>unfold maxLen;omega
   case c4=>omega
   case c5=>exact Nat.le_trans hVs (by show V.heap.size≤(V.heap.push _).size;rw[Array.size_push];omega)
   intro v' W6 hown' hgrow _
   have hb6:Below w.heap.size w W6:=(hV.alloc hVs _).grown hgrow (Nat.le_trans hVs (by show V.heap.size≤(V.heap.push _).size;rw[Array.size_push];omega)) (λk hk=>(World.ownsRow.lt hown5H.out k hk).1)
   have hown6:W6.ownsRow w.heap.size 49 24 v' (i+1) ((ps.take (i+1)).flatMap actB):=by rw[htkH.out];exact hown'
   clear hgrow hown' hrH hown5H htkH
   go_wp2
   refine of_wp ?_
   go_wp2
   have hR:=hR1H.out
   subst hR
   rw[show((i:Int)+2+1)=((i+1+2:Nat):Int) by omega]
   exact⟨⟨i+1,v',_,_,_,_,_,_,_,_,_,_,_,_,_,_,_,_,_,_,_,_,_,_,_,_,_,_,_,_,_,_,_,_,_,_,_,_,_,_,_,_,_,_,_,_,_,_,_,_,_,_,_,_,_,_,_,_,_,_,_,_,_,_,_,_,_,hlt,hb6,hown6,rfl⟩,by simp[at15];omega⟩
  ·have hie:i=ps.length:=by omega
   subst hie
   rw[List.drop_of_length_le (Nat.le_refl _)]
   rw[List.take_of_length_le (Nat.le_refl _)]at hown
   have hownH:Hid _:=hown
   have hnil:bs (scriptL [])=(⟨#[]⟩:ByteArray):=rfl
   rw[hnil]
   clear hown hnil k3 ha
   refine wpN_seq (wpN_seq (of_wp ?_))
   go_wp2
   refine of_wp ?_
   go_wp2
   refine wpN_seq (of_wp ?_)
   go_wp2
   refine of_wp ?_
   go_wp2
   exact bodyPost_ret (results_four rfl _ _ _) rfl ⟨hb,v,rfl,hownH.out⟩
end Go.Rm
set_option linter.unusedVariables false
set_option linter.unusedSimpArgs false
noncomputable section
namespace Go.Rm
open Go Go.Conc Go.Proofs Go.RowKit Go.Kn Go.Kx Go.Ry
def at9 (a:Act):Nat:=match a.tmps[9]? with|some (Value.int _ k)=>k.toNat|_=>0
def numB (x:Int):ByteArray:=(⟨#[32]⟩:ByteArray)++⟨(Lib.itoa x).toArray⟩
def wordsB (u:ByteArray) (xs:List Int):ByteArray:=xs.foldl (λs x=>s++numB x) u
theorem wordsB_snoc (u:ByteArray) (xs:List Int) (x:Int):wordsB u (xs++[x])=wordsB u xs++numB x:=by
 unfold wordsB
 rw[List.foldl_append]
 rfl
theorem numB_size (x:Int) (h0: -9223372036854775808≤x) (h1:x≤9223372036854775807):(numB x).size≤22:=by
 have:=Lib.itoa_length_le x h0 h1
 unfold numB
 rw[ByteArray.size_append]
 have e:(⟨(Lib.itoa x).toArray⟩:ByteArray).size=(Lib.itoa x).length:=by simp[ByteArray.size]
 have e2:(⟨#[32]⟩:ByteArray).size=1:=rfl
 omega
theorem wordsB_size (u:ByteArray):∀(xs:List Int),(∀x∈xs,0≤x∧x≤1000)→(wordsB u xs).size≤u.size+22*xs.length:=by
 intro xs
 induction xs generalizing u with
 |nil=>intro _;exact Nat.le_refl _
 |cons x xs ih=>
  intro h
  have h1:=ih (u++numB x) λy hy=>h y (by simp[hy])
  have h2:=numB_size x (by have:=h x (by simp);omega) (by have:=h x (by simp);omega)
  rw[ByteArray.size_append]at h1
  show(wordsB (u++numB x) xs).size≤_
  simp only[List.length_cons]
  omega
set_option maxHeartbeats 1000000 in
set_option maxRecDepth 100000 in
theorem words_ok (u:ByteArray) (xs:List Int) (hx:∀x∈xs,0≤x∧x≤1000) (hu:u.size≤1000) (hl:xs.length≤10) (A cap:Nat) (w:World) (ht:Tab w) (hA:A<w.heap.size) (hc:∀(i:Nat) (h:i<xs.length),w.cell? ⟨A,i,none⟩=some (.int .i64 xs[i])):
 Calls Tryz.prog 12 #[.string u,.slice (some ⟨A,0,none⟩) xs.length cap] w λe w'=>e=.returned (.string (wordsB u xs))∧Below w.heap.size w w':=by
 have hi:=λx (h:0≤x∧x≤1000) W (hW:Below w.heap.size w W)=>itoa_ok x (by omega) (by omega) W (ht W hW)
 refine calls_of_wpN Tryz.func12 rfl ?_
 simp only[Tryz.ntmps12,List.size_toArray,List.length_cons,List.length_nil,Nat.reduceAdd,Nat.reduceSub,Array.replicate_succ,
  Array.replicate_zero,List.push_toArray,List.append_toArray,List.nil_append,List.cons_append]
 refine wpN_seq (of_wp ?_)
 go_wp2
 refine wpN_seq ?_
 refine wpN_seq (of_wp ?_)
 go_wp2
 refine wpN_block (wpN_loop (λa W=>∃(i:Nat) (u2 u3 u5 u6 u10 u11 u12 u13 u14 u15 u16 u17 u18 u19:Value),i≤xs.length∧Below w.heap.size w W∧a=⟨#[.string (wordsB u (xs.take i)),.slice (some ⟨A,0,none⟩) xs.length cap,u2,u3,.string ⟨#[]⟩,u5,u6,.slice (some ⟨A,0,none⟩) xs.length cap,.int .i64 (xs.length:Nat),.int .i64 (i:Nat),u10,u11,u12,u13,u14,u15,u16,u17,u18,u19],[]⟩) (λa _=>20-at9 a) ?_ ?_)
 ·exact⟨0,_,_,_,_,_,_,_,_,_,_,_,_,_,_,Nat.zero_le _,Below.refl _ _,rfl⟩
 ·rintro a W ⟨i,u2,u3,u5,u6,u10,u11,u12,u13,u14,u15,u16,u17,u18,u19,hil,hb,rfl⟩
  rcases Nat.lt_or_ge i xs.length with hlt|hge
  ·have hcW:W.cell? ⟨A,i,none⟩=some (.int .i64 xs[i]):=(hb.cell hA).trans (hc i hlt)
   have hxi:=hx xs[i] (List.getElem_mem hlt)
   have hii:=hi xs[i] hxi W hb
   have hst:wordsB u (xs.take (i+1))=wordsB u (xs.take i)++numB xs[i]:=by rw[List.take_succ_eq_append_getElem hlt,wordsB_snoc]
   have hsz:=wordsB_size u (xs.take i) λx hx'=>hx x (List.mem_of_mem_take hx')
   have hsz2:(wordsB u (xs.take i)).size≤2000:=by rw[List.length_take]at hsz;omega
   have hns:=numB_size xs[i] (by omega) (by omega)
   unfold numB at hst hns
   obtain⟨t,htt⟩:∃t:ByteArray,(⟨(Lib.itoa xs[i]).toArray⟩:ByteArray)=t:=⟨_,rfl⟩
   rw[htt]at hii hst hns
   have hts:t.size≤21:=by
    rw[ByteArray.size_append]at hns
    have e2:(⟨#[32]⟩:ByteArray).size=1:=rfl
    omega
   clear hsz hns htt hi hc
   generalize wordsB u (xs.take i)=s at hst hsz2⊢
   generalize xs[i]=x at hcW hxi hii
   refine wpN_seq (of_wp ?_)
   go_wp2
   refine wpN_seq (of_wp ?_)
   go_wp2
   refine wpN_seq (wpN_block ?_)
   refine wpN_seq (of_wp ?_)
   go_wp2
   refine of_wp ?_
   go_wp2_with (go_at_call 43;refine hii.mono ?_;rintro e W3 ⟨rfl,hb3⟩)
   refine of_wp ?_
   go_wp2
   rw[←hst]
   exact⟨⟨i+1,_,_,_,_,_,_,_,_,_,_,_,_,_,_,hlt,hb.trans (hb3.mono hb.size),rfl⟩,by simp[at9];omega⟩
  ·have hie:i=xs.length:=by omega
   subst hie
   rw[List.take_of_length_le (Nat.le_refl _)]
   clear hi hc
   refine wpN_seq (of_wp ?_)
   go_wp2
   refine wpN_seq (of_wp ?_)
   go_wp2
   refine wpN_seq (of_wp ?_)
   go_wp2
   refine of_wp ?_
   go_wp2
   go_ret
   exact⟨rfl,hb⟩
end Go.Rm
