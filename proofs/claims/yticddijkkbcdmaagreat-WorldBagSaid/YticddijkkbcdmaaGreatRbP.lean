/-
  The world's may at a read of any number: walked.
-/
import Derived.Test.YticddijkkbcdmaaGreatRbC
import Derived.Deep.RegionHeld3
import Derived.Test.YticddijkkbcdmaaGreatRbM
set_option linter.unusedVariables false
set_option linter.unusedSimpArgs false
noncomputable section
namespace Go.Rm
open Go Go.Conc Go.Proofs Go.RowKit Go.Kn Go.Ry
def readN (i:Nat):List Value:=[.int .i64 2,.int .i64 100,.int .i64 1,.int .i64 0,.int .i64 0,.int .i64 0,.int .i64 0,.int .i64 0,.int .i64 0,.int .i64 0,.int .i64 (i:Nat),.int .i64 0,.int .i64 0,.int .i64 0,.string ⟨#[115]⟩,.slice none 0 0,.int .i64 0,.string ⟨#[]⟩,.slice none 0 0,.string ⟨#[]⟩]
def actR (i:Nat):List Value:=[.int .i64 7,.int .i64 0,.int .i64 0,.int .i64 0,.int .i64 2,.int .i64 100,.int .i64 1,.int .i64 0,.int .i64 0,.int .i64 0,.int .i64 0,.int .i64 0,.int .i64 0,.int .i64 0,.int .i64 (i:Nat),.int .i64 0,.int .i64 0,.int .i64 0,.string ⟨#[115]⟩,.slice none 0 0,.int .i64 0,.string ⟨#[]⟩,.slice none 0 0,.string ⟨#[]⟩]
section
variable {G:Geo} {W:World} {b:Nat} {bv:Value} {xs:List Value} {sv:Value} {ns:Nat} {ss:List Value} {t:Int}
set_option maxHeartbeats 2000000 in
set_option maxRecDepth 100000 in
theorem may_readN (i:Nat) (h:Wst G W b bv xs sv ns ss t) (ao:Option Addr) (c:Nat) (hn:G.nd=.slice ao 3 c)
 (hmay:∀V,Below W.heap.size W V→Calls Tryz.prog 36 #[.agg (readN i).toArray] V λe w'=>e=.returned (.bool true)∧Below V.heap.size V w'):
 Calls Tryz.prog 13 #[.pointer (some ⟨G.A,G.oA,none⟩),.agg (actR i).toArray] W λe w'=>e=.returned (.bool true)∧Below W.heap.size W w':=by
 have hA:=h.lt'
 have hbw:Hid (∀o,Below W.heap.size W (W.alloc o).drew):=λo=>(Below.alloc (Below.refl _ _) (Nat.le_refl _) o).drew
 have hcall:Hid (Calls Tryz.prog 36 #[.agg (readN i).toArray] (W.alloc (.cells (actR i).toArray 36)).drew λe w'=>e=.returned (.bool true)∧Below W.heap.size W w'∧w'.cell? ⟨W.heap.size,4,none⟩=some (.int .i64 2)∧w'.cell? ⟨W.heap.size,6,none⟩=some (.int .i64 1)∧Below (W.alloc (.cells (actR i).toArray 36)).drew.heap.size (W.alloc (.cells (actR i).toArray 36)).drew w'):=
  (hmay _ (hbw.out _)).mono λe w' ⟨h1,h2⟩=>by
   have hlt:W.heap.size<(W.alloc (.cells (actR i).toArray 36)).drew.heap.size:=by show _<(W.heap.push _).size;rw[Array.size_push];omega
   exact⟨h1,(hbw.out _).trans (h2.mono (hbw.out _).size),(h2.cell hlt).trans (by rw[World.cell?_drew,World.cell?_alloc_at (w:=W) _ _ _ _ rfl];rfl),(h2.cell hlt).trans (by rw[World.cell?_drew,World.cell?_alloc_at (w:=W) _ _ _ _ rfl];rfl),h2⟩
 have hrg:Hid (∀V,Below (W.alloc (.cells (actR i).toArray 36)).drew.heap.size (W.alloc (.cells (actR i).toArray 36)).drew V→V.rangeAt W.heap.size 4 (readN i)):=λV hV j v hv=>by
  have hlt:W.heap.size<(W.alloc (.cells (actR i).toArray 36)).drew.heap.size:=by show _<(W.heap.push _).size;rw[Array.size_push];omega
  refine(hV.cell hlt).trans ?_
  rw[World.cell?_drew,World.cell?_alloc_at (w:=W) _ _ _ _ rfl,List.getElem?_toArray]
  have e:(actR i).drop 4=(readN i):=rfl
  rw[←e,List.getElem?_drop]at hv
  exact hv
 have hnd:=h.nodes
 rw[hn]at hnd
 have hc:Hid (∀V,Below W.heap.size W V→V.cell? ⟨G.A,G.oA,none⟩=some (.slice ao 3 c)):=λV hV=>(hV.cell hA).trans hnd
 have hiM:(Tryz.prog.info? 34).map (·.size)=some (readN i).length:=by kernel_rfl
 have mixed:Tryz.prog.follows .mixedOrders=true:=by kernel_rfl
 clear h hmay hn hnd
 unfold actR at hcall hrg
 unfold actR
 go_enter Tryz.func13,Tryz.ntmps13
 go_wp2_with fail
 refine wp_region_noPanic (wp_region_steps 26 [(0,true),(1,true),(2,false),(3,true),(4,true),(5,true),(6,true),(7,true),(8,true),(9,true),(10,true),(11,true),(12,true),(13,true),(14,true),(15,true),(16,true),(17,true),(18,true),(19,true),(20,true),(21,true),(22,true),(23,true),(24,true),(25,true)] (λV=>V.cell? ⟨G.A,G.oA,none⟩=some (.slice ao 3 c)∧V.cell? ⟨W.heap.size,4,none⟩=some (.int .i64 2)∧V.cell? ⟨W.heap.size,6,none⟩=some (.int .i64 1)∧V.rangeAt W.heap.size 4 (readN i)) mixed (by kernel_rfl) (λ_ _ _ _ h=>h.elim) ?hs0 ?_)
 case hs0=>exact⟨hc.out _ (hbw.out _),by rw[World.cell?_drew,World.cell?_alloc_at (w:=W) _ _ _ _ rfl];rfl,by rw[World.cell?_drew,World.cell?_alloc_at (w:=W) _ _ _ _ rfl];rfl,hrg.out _ (Below.refl _ _)⟩
 refine step_take2 (v:=?v0) (a':=?a0) rfl (y_runG (by first|rfl|simp[Region.wanted,yielded,Act.put,Act.eval]) λw hS=>?p0) ?h0 ?_
 case p0=>obtain⟨hs1,hs2,hs3,hs4⟩:=hS;clear hs4;go_simp;try exact rfl
 case h0=>go_simp;exact rfl
 refine step_take (v:=.agg (readN i).toArray) rfl (y_runG rfl λw hS=>y_load_mid rfl rfl hS.2.2.2 Tryz.underlying34 rfl hiM) ?_
 refine step_op rfl λK' hK=>?_
 go_simp
 go_at_call 36
 refine Calls.mono hcall.out ?_
 rintro e W5 ⟨rfl,hw5,hx4,hx6,hb5⟩
 have hc5:=hc.out _ hw5
 refine hK _ _ ⟨⟨hc5,hx4,hx6,hrg.out _ hb5⟩,?_⟩
 refine step_take2 (v:=?v3) (a':=?a3) rfl (y_runG (by first|rfl|simp[Region.wanted,yielded,Act.put,Act.eval]) λw hS=>?p3) ?h3 ?_
 case p3=>obtain⟨hs1,hs2,hs3,hs4⟩:=hS;clear hs4;go_simp;try exact rfl
 case h3=>go_simp;exact rfl
 refine step_take2 (v:=?v4) (a':=?a4) rfl (y_runG (by first|rfl|simp[Region.wanted,yielded,Act.put,Act.eval]) λw hS=>?p4) ?h4 ?_
 case p4=>obtain⟨hs1,hs2,hs3,hs4⟩:=hS;clear hs4;go_simp;try exact rfl
 case h4=>go_simp;exact rfl
 refine step_take2 (v:=?v5) (a':=?a5) rfl (y_runG (by first|rfl|simp[Region.wanted,yielded,Act.put,Act.eval]) λw hS=>?p5) ?h5 ?_
 case p5=>obtain⟨hs1,hs2,hs3,hs4⟩:=hS;clear hs4;go_simp;try exact rfl
 case h5=>go_simp;exact rfl
 refine step_take2 (v:=?v6) (a':=?a6) rfl (y_runG (by first|rfl|simp[Region.wanted,yielded,Act.put,Act.eval]) λw hS=>?p6) ?h6 ?_
 case p6=>obtain⟨hs1,hs2,hs3,hs4⟩:=hS;clear hs4;go_simp;try exact rfl
 case h6=>go_simp;exact rfl
 refine step_take2 (v:=?v7) (a':=?a7) rfl (y_runG (by first|rfl|simp[Region.wanted,yielded,Act.put,Act.eval]) λw hS=>?p7) ?h7 ?_
 case p7=>obtain⟨hs1,hs2,hs3,hs4⟩:=hS;clear hs4;go_simp;try exact rfl
 case h7=>go_simp;exact rfl
 refine step_take2 (v:=?v8) (a':=?a8) rfl (y_runG (by first|rfl|simp[Region.wanted,yielded,Act.put,Act.eval]) λw hS=>?p8) ?h8 ?_
 case p8=>obtain⟨hs1,hs2,hs3,hs4⟩:=hS;clear hs4;go_simp;try exact rfl
 case h8=>go_simp;exact rfl
 refine step_take2 (v:=?v9) (a':=?a9) rfl (y_runG (by first|rfl|simp[Region.wanted,yielded,Act.put,Act.eval]) λw hS=>?p9) ?h9 ?_
 case p9=>obtain⟨hs1,hs2,hs3,hs4⟩:=hS;clear hs4;go_simp;try exact rfl
 case h9=>go_simp;exact rfl
 refine step_take2 (v:=?v10) (a':=?a10) rfl (y_runG (by first|rfl|simp[Region.wanted,yielded,Act.put,Act.eval]) λw hS=>?p10) ?h10 ?_
 case p10=>obtain⟨hs1,hs2,hs3,hs4⟩:=hS;clear hs4;go_simp;try exact rfl
 case h10=>go_simp;exact rfl
 refine step_take2 (v:=?v11) (a':=?a11) rfl (y_runG (by first|rfl|simp[Region.wanted,yielded,Act.put,Act.eval]) λw hS=>?p11) ?h11 ?_
 case p11=>obtain⟨hs1,hs2,hs3,hs4⟩:=hS;clear hs4;go_simp;try exact rfl
 case h11=>go_simp;exact rfl
 refine step_take2 (v:=?v12) (a':=?a12) rfl (y_runG (by first|rfl|simp[Region.wanted,yielded,Act.put,Act.eval]) λw hS=>?p12) ?h12 ?_
 case p12=>obtain⟨hs1,hs2,hs3,hs4⟩:=hS;clear hs4;go_simp;try exact rfl
 case h12=>go_simp;exact rfl
 refine step_take2 (v:=?v13) (a':=?a13) rfl (y_runG (by first|rfl|simp[Region.wanted,yielded,Act.put,Act.eval]) λw hS=>?p13) ?h13 ?_
 case p13=>obtain⟨hs1,hs2,hs3,hs4⟩:=hS;clear hs4;go_simp;try exact rfl
 case h13=>go_simp;exact rfl
 refine step_take2 (v:=?v14) (a':=?a14) rfl (y_runG (by first|rfl|simp[Region.wanted,yielded,Act.put,Act.eval]) λw hS=>?p14) ?h14 ?_
 case p14=>obtain⟨hs1,hs2,hs3,hs4⟩:=hS;clear hs4;go_simp;try exact rfl
 case h14=>go_simp;exact rfl
 refine step_take2 (v:=?v15) (a':=?a15) rfl (y_runG (by first|rfl|simp[Region.wanted,yielded,Act.put,Act.eval]) λw hS=>?p15) ?h15 ?_
 case p15=>obtain⟨hs1,hs2,hs3,hs4⟩:=hS;clear hs4;go_simp;try exact rfl
 case h15=>go_simp;exact rfl
 refine step_take2 (v:=?v16) (a':=?a16) rfl (y_runG (by first|rfl|simp[Region.wanted,yielded,Act.put,Act.eval]) λw hS=>?p16) ?h16 ?_
 case p16=>obtain⟨hs1,hs2,hs3,hs4⟩:=hS;clear hs4;go_simp;try exact rfl
 case h16=>go_simp;exact rfl
 refine step_take2 (v:=?v17) (a':=?a17) rfl (y_runG (by first|rfl|simp[Region.wanted,yielded,Act.put,Act.eval]) λw hS=>?p17) ?h17 ?_
 case p17=>obtain⟨hs1,hs2,hs3,hs4⟩:=hS;clear hs4;go_simp;try exact rfl
 case h17=>go_simp;exact rfl
 refine step_take2 (v:=?v18) (a':=?a18) rfl (y_runG (by first|rfl|simp[Region.wanted,yielded,Act.put,Act.eval]) λw hS=>?p18) ?h18 ?_
 case p18=>obtain⟨hs1,hs2,hs3,hs4⟩:=hS;clear hs4;go_simp;try exact rfl
 case h18=>go_simp;exact rfl
 refine step_take2 (v:=?v19) (a':=?a19) rfl (y_runG (by first|rfl|simp[Region.wanted,yielded,Act.put,Act.eval]) λw hS=>?p19) ?h19 ?_
 case p19=>obtain⟨hs1,hs2,hs3,hs4⟩:=hS;clear hs4;go_simp;try exact rfl
 case h19=>go_simp;exact rfl
 refine step_take2 (v:=?v20) (a':=?a20) rfl (y_runG (by first|rfl|simp[Region.wanted,yielded,Act.put,Act.eval]) λw hS=>?p20) ?h20 ?_
 case p20=>obtain⟨hs1,hs2,hs3,hs4⟩:=hS;clear hs4;go_simp;try exact rfl
 case h20=>go_simp;exact rfl
 refine step_take2 (v:=?v21) (a':=?a21) rfl (y_runG (by first|rfl|simp[Region.wanted,yielded,Act.put,Act.eval]) λw hS=>?p21) ?h21 ?_
 case p21=>obtain⟨hs1,hs2,hs3,hs4⟩:=hS;clear hs4;go_simp;try exact rfl
 case h21=>go_simp;exact rfl
 refine step_take2 (v:=?v22) (a':=?a22) rfl (y_runG (by first|rfl|simp[Region.wanted,yielded,Act.put,Act.eval]) λw hS=>?p22) ?h22 ?_
 case p22=>obtain⟨hs1,hs2,hs3,hs4⟩:=hS;clear hs4;go_simp;try exact rfl
 case h22=>go_simp;exact rfl
 refine step_take2 (v:=?v23) (a':=?a23) rfl (y_runG (by first|rfl|simp[Region.wanted,yielded,Act.put,Act.eval]) λw hS=>?p23) ?h23 ?_
 case p23=>obtain⟨hs1,hs2,hs3,hs4⟩:=hS;clear hs4;go_simp;try exact rfl
 case h23=>go_simp;exact rfl
 refine step_take2 (v:=?v24) (a':=?a24) rfl (y_runG (by first|rfl|simp[Region.wanted,yielded,Act.put,Act.eval]) λw hS=>?p24) ?h24 ?_
 case p24=>obtain⟨hs1,hs2,hs3,hs4⟩:=hS;clear hs4;go_simp;try exact rfl
 case h24=>go_simp;exact rfl
 refine step_take2 (v:=?v25) (a':=?a25) rfl (y_runG (by first|rfl|simp[Region.wanted,yielded,Act.put,Act.eval]) λw hS=>?p25) ?h25 ?_
 case p25=>obtain⟨hs1,hs2,hs3,hs4⟩:=hS;clear hs4;go_simp;try exact rfl
 case h25=>go_simp;exact rfl
 refine step_nil ?_
 have hwH:Hid _:=hw5
 clear hK hw5 hx4 hx6 hc5 hcall hc hbw
 simp only[List.drop_succ_cons,List.drop_zero]
 go_wp2
 refine NoPanic.normal ?_
 go_wp2
 go_ret
 refine⟨?_,hwH.out⟩
 simp[Act.put,Act.eval]
end
end Go.Rm
set_option linter.unusedVariables false
set_option linter.unusedSimpArgs false
noncomputable section
set_option maxRecDepth 1000000
namespace Go.Proofs.YticddijkkbcdmaaGreat.Ev
open Go Go.Ev Go.Proofs Go.RowKit Go.Rm Go.Ry
def readS (i:Nat):List SV:=[.int .i64 2,.int .i64 100,.int .i64 1,.int .i64 0,.int .i64 0,.int .i64 0,.int .i64 0,.int .i64 0,.int .i64 0,.int .i64 0,.int .i64 (i:Nat),.int .i64 0,.int .i64 0,.int .i64 0,.str 1 115,.nsl,.int .i64 0,.str 0 0,.nsl,.str 0 0]
def ansS (i:Nat):List SV:=[.int .i64 3,.int .i64 1,.int .i64 100,.int .i64 0,.int .i64 0,.int .i64 0,.int .i64 0,.int .i64 0,.int .i64 0,.int .i64 0,.int .i64 (i:Nat),.int .i64 2,.int .i64 0,.int .i64 0,.str 0 0,.nsl,.int .i64 0,.str 0 0,.nsl,.str 0 0]
def ansN (i:Nat):List Value:=[.int .i64 3,.int .i64 1,.int .i64 100,.int .i64 0,.int .i64 0,.int .i64 0,.int .i64 0,.int .i64 0,.int .i64 0,.int .i64 0,.int .i64 (i:Nat),.int .i64 2,.int .i64 0,.int .i64 0,.string ⟨#[]⟩,.slice none 0 0,.int .i64 0,.string ⟨#[]⟩,.slice none 0 0,.string ⟨#[]⟩]
def zerS:List SV:=[.int .i64 0,.int .i64 0,.int .i64 0]
def node1S:List SV:=[.int .i64 1,.int .i64 3,.int .i64 0,.int .i64 0,.int .i64 0,.int .i64 0,.bool false,.int .i64 0,.str 0 0,.nsl,.osl 65 0 3 3 1,.nsl,.nsl,.optr 108 0,.osl 109 0 3 3 1,.int .i64 0,.nsl,.int .i64 0,.optr 100 0,.optr 79 0]
def unS:List SV:=[.un,.un,.un,.un,.un,.un,.un,.un,.un,.un,.un,.un,.un,.un,.un,.un,.un,.un,.un,.un]
def partB:St:=[(167,[.optr 7 0,.optr 63 0,.optr 119 0]),(7,unS),(119,unS),(65,zerS),(108,[.int .i64 0,.nsl,.nsl,.nsl,.nsl]),(109,zerS),(100,[.un,.un,.un,.int .i64 768,.un,.str 7 569547023187968]),(79,[.un,.un,.int .i64 2176,.int .i64 4096,.int .i64 40960,.mp 78]),(78,[.mk 11])]
def newP:St:=(63,node1S)::partB
def newB:St:=(1,[.osl 167 0 3 3 1,.un,.optr 0 0,.nsl,.nsl,.int .i64 0])::(0,[.nsl])::newP
def muB:St:=[(63,node1S)]
def keepB (id:Nat):Bool:=(Go.Ev.look newP id).isSome
def fzB:Fz:=λid=>Go.Ev.look partB id
theorem newRunsB:hcall (noOrc zz) KT0.find FT.find 60 10 [.one (.int .i64 3),.one (.int .i64 4096)] (λ_=>none) [] 0 (isVn (.tp [.one (.optr 1 0),.one (.int .i64 0)]) newB 170) []=true:=by kernel_rfl
theorem recRuns0:hcall (noOrc zz) KT0.find FT.find 60 40 [.one (.optr 63 0),.ag (readS 0)] fzB muB 170 (isVn (.one (.osl 225 0 1 1 20)) [(63,node1S),(225,ansS 0)] 251) []=true:=by kernel_rfl
theorem recRuns1:hcall (noOrc zz) KT0.find FT.find 60 40 [.one (.optr 63 0),.ag (readS 1)] fzB muB 170 (isVn (.one (.osl 225 0 1 1 20)) [(63,node1S),(225,ansS 1)] 251) []=true:=by kernel_rfl
theorem recRuns2:hcall (noOrc zz) KT0.find FT.find 60 40 [.one (.optr 63 0),.ag (readS 2)] fzB muB 170 (isVn (.one (.osl 225 0 1 1 20)) [(63,node1S),(225,ansS 2)] 251) []=true:=by kernel_rfl
theorem recRuns3:hcall (noOrc zz) KT0.find FT.find 60 40 [.one (.optr 63 0),.ag (readS 3)] fzB muB 170 (isVn (.one (.osl 225 0 1 1 20)) [(63,node1S),(225,ansS 3)] 251) []=true:=by kernel_rfl
theorem recRuns4:hcall (noOrc zz) KT0.find FT.find 60 40 [.one (.optr 63 0),.ag (readS 4)] fzB muB 170 (isVn (.one (.osl 225 0 1 1 20)) [(63,node1S),(225,ansS 4)] 251) []=true:=by kernel_rfl
theorem recRuns:∀i,i<5→hcall (noOrc zz) KT0.find FT.find 60 40 [.one (.optr 63 0),.ag (readS i)] fzB muB 170 (isVn (.one (.osl 225 0 1 1 20)) [(63,node1S),(225,ansS i)] 251) []=true
 |0,_=>recRuns0
 |1,_=>recRuns1
 |2,_=>recRuns2
 |3,_=>recRuns3
 |4,_=>recRuns4
theorem look_mem {id:Nat} {cs:List SV}:∀{l:St},Go.Ev.look l id=some cs→(id,cs)∈l
 |[],h=>by cases h
 |p::r,h=>by
  have h1:cond (Nat.beq p.1 id) (some p.2) (Go.Ev.look r id)=some cs:=h
  cases e:Nat.beq p.1 id with
  |true=>
   rw[e]at h1
   have e1:=Nat.eq_of_beq_eq_true e
   cases h1
   subst e1
   exact List.mem_cons_self
  |false=>rw[e]at h1;exact List.mem_cons_of_mem _ (look_mem h1)
theorem partB_ok:partB.all (λp=>p.2.all (SV.among keepB)&&(!mkd p.2||exacts p.2 [.mk 11])&&keepB p.1)=true:=by kernel_rfl
theorem node1_ok:node1S.all (SV.among keepB)=true:=by kernel_rfl
theorem partB_at {id:Nat} {cs:List SV} (h:Go.Ev.look partB id=some cs):cs.all (SV.among keepB)=true∧(mkd cs=false∨∃k,cs=[.mk k])∧keepB id=true:=by
 have h1:=List.all_eq_true.1 partB_ok _ (look_mem h)
 simp only[Bool.and_eq_true,Bool.or_eq_true,Bool.not_eq_true']at h1
 exact⟨h1.1.1,h1.1.2.imp (λh=>h) (λh=>⟨11,exacts_eq h⟩),h1.2⟩
structure JS (G:Geo) (g0:Nat) (ρ:Rho):Prop where
 only:∀id p,ρ id=some p→keepB id=true
 has:∀id,keepB id=true→∃p,ρ id=some p
 apart:∀id p,ρ id=some p→p.1≠G.A∧p.1≠G.B∧p.1<G.base∧g0≤p.1
 inj:∀id id' p p',ρ id=some p→ρ id'=some p'→p.1=p'.1→id=id'
 nd:∃q c,ρ 167=some q∧G.nd=.slice (some ⟨q.1,q.2,none⟩) 3 c
structure JV (ρ:Rho) (V:World):Prop where
 rf:∀id cs,Go.Ev.look partB id=some cs→OwnF (λ_=>0) ρ V id cs
 rm:Go.Ev.Own (λ_=>0) ρ V 63 node1S
section
variable {G:Geo} {g0:Nat} {ρ:Rho} {V V':World}
theorem look_muB {id:Nat} {cs:List SV} (h:Go.Ev.look muB id=some cs):id=63∧cs=node1S:=by
 have:=look_mem h
 unfold muB at this
 obtain⟨rfl,rfl⟩:=Prod.mk.inj (List.mem_singleton.1 this)
 exact⟨rfl,rfl⟩
theorem JV.rel (hs:JS G g0 ρ) (h:JV ρ V):Rel (λ_=>0) ρ fzB muB V:=by
 refine⟨h.rf,λid cs hl=>?_,λid cs hl=>?_,λid id' p p' _ _ hp hp' e=>hs.inj id id' p p' hp hp' e⟩
 ·obtain⟨rfl,rfl⟩:=look_muB hl
  exact .inl h.rm
 ·obtain⟨rfl,rfl⟩:=look_muB hl
  rfl
theorem JV.keep (hs:JS G g0 ρ) (h:JV ρ V) (hk:Keep (λk=>k=G.A∨k=G.B∨G.base≤k) V V'):JV ρ V':=by
 have hb:∀id p,keepB id=true→ρ id=some p→V'.heap[p.1]?=V.heap[p.1]?:=λid p hid hp=>by
  obtain⟨h1,h2,h3,_⟩:=hs.apart id p hp
  refine hk.block p.1 ?_ λe=>by rcases e with e|e|e;exact h1 e;exact h2 e;omega
  unfold keepB at hid
  obtain⟨cs,hcs⟩:=Option.isSome_iff_exists.1 hid
  have h4:cond (Nat.beq 63 id) (some node1S) (Go.Ev.look partB id)=some cs:=hcs
  cases e:Nat.beq 63 id with
  |true=>
   have:=Nat.eq_of_beq_eq_true e
   subst this
   exact OwnG.lt (.inl h.rm) hp
  |false=>rw[e]at h4;exact(h.rf id cs h4).lt hp
 exact⟨λid cs hl=>let⟨h1,h2,h3⟩:=partB_at hl;(h.rf id cs hl).turn h3 h1 h2 (λ_ _ _ h=>h) hb,h.rm.turn rfl node1_ok (λ_ _ _ h=>h) hb⟩
end
end Go.Proofs.YticddijkkbcdmaaGreat.Ev
set_option linter.unusedVariables false
set_option linter.unusedSimpArgs false
noncomputable section
set_option maxRecDepth 1000000
namespace Go.Proofs.YticddijkkbcdmaaGreat.Ev
open Go Go.Ev Go.Proofs Go.RowKit Go.Rm Go.Ry
theorem str00:sOf 0 0=(⟨#[]⟩:ByteArray):=by kernel_rfl
theorem str115:sOf 1 115=(⟨#[115]⟩:ByteArray):=by kernel_rfl
theorem readS_plain (i:Nat):(readS i).all SV.isPlain=true∧(readS i).map SV.plain=readN i:=⟨rfl,by simp[readS,SV.plain,readN,str00,str115]⟩
theorem ansS_plain (i:Nat):(ansS i).all SV.isPlain=true∧(ansS i).map SV.plain=ansN i:=⟨rfl,by simp[ansS,SV.plain,ansN,str00]⟩
theorem plainsVR {val:Nat→Int} {ρ:Rho} {w:World}:∀{l:List SV},l.all SV.isPlain=true→(∀s∈l,∀a n,s=.str a n→n<256^a)→All2 (VR val ρ w) l (l.map SV.plain)
 |[],_,_=>trivial
 |a::x,h,hs=>by
  simp only[List.all_cons,Bool.and_eq_true]at h
  refine⟨?_,plainsVR h.2 λs m=>hs s (by simp[m])⟩
  cases a<;>first|rfl|(cases h.1;done)|exact⟨hs _ (by simp) _ _ rfl,rfl⟩
theorem readS_vr (i:Nat) {val:Nat→Int} {ρ:Rho} {w:World}:All2 (VR val ρ w) (readS i) (readN i):=by
 rw[←(readS_plain i).2]
 refine plainsVR (readS_plain i).1 λs m a n e=>?_
 subst e
 simp[readS]at m
 rcases m with⟨rfl,rfl⟩|⟨rfl,rfl⟩<;>decide
theorem ansS_vr (i:Nat) {val:Nat→Int} {ρ:Rho} {w:World}:All2 (VR val ρ w) (ansS i) (ansN i):=by
 rw[←(ansS_plain i).2]
 refine plainsVR (ansS_plain i).1 λs m a n e=>?_
 subst e
 simp[ansS]at m
 obtain⟨rfl,rfl⟩:=m
 decide
theorem ansN_one (i:Nat):∀u∈ansN i,u.oneCell'=true:=λv hv=>List.all_eq_true.1 (by simp[ansN,Value.oneCell']:(ansN i).all (·.oneCell')=true) v hv
section
variable {G:Geo} {g0:Nat} {ρ:Rho} {V V':World}
set_option maxHeartbeats 1000000 in
theorem receive_ok (hs:JS G g0 ρ) (p:Nat×Nat) (hp:ρ 63=some p) (i:Nat) (hi:i<5) (V:World) (h:JV ρ V):
 Calls Tryz.prog 40 #[.pointer (some ⟨p.1,p.2,none⟩),.agg (readN i).toArray] V λe w'=>∃g o c,e=.returned (.slice (some ⟨g,o,none⟩) 1 c)∧w'.rangeAt g o (ansN i)∧JV ρ w'∧Keep (λk=>k=p.1∨V.heap.size≤k) V w':=by
 have hold:∀id,170≤id→ρ id=none:=λid hid=>by
  cases e:ρ id with
  |none=>rfl
  |some q=>
   have h1:=hs.only id q e
   unfold keepB at h1
   obtain⟨cs,hcs⟩:=Option.isSome_iff_exists.1 h1
   have h2:=look_mem hcs
   have h3:newP.all (λp=>Nat.blt p.1 170)=true:=by kernel_rfl
   have h4:=List.all_eq_true.1 h3 _ h2
   simp only[Nat.blt_eq]at h4
   omega
 refine(callVn (m:=λ_=>0) (val:=λ_=>0) (noOrc_ok zz_not _) mixed (KTree.ok (kt0Ok _ _)) ftOk ⟨[],(λj p h=>by simp at h),recRuns i hi⟩ ρ V (h.rel hs) [.pointer (some ⟨p.1,p.2,none⟩),.agg (readN i).toArray] ⟨⟨p,hp,rfl⟩,⟨_,rfl,readS_vr i⟩,trivial⟩ hold).mono λe w' ⟨x,ρ',h1,⟨n',hn',hext⟩,hr,hx,hfr,hnew⟩=>?_
 obtain⟨q,c,hq,rfl,_⟩:=hx
 have ho:∀id r,keepB id=true→ρ' id=some r→ρ id=some r:=λid r hid hr'=>by
  obtain⟨r2,h2⟩:=hs.has id hid
  have h3:=hext.old id r2 h2
  rw[hr']at h3
  cases h3
  exact h2
 refine⟨q.1,q.2,c,h1,λj v hv=>?_,⟨λid cs hl=>let⟨a1,a2,a3⟩:=partB_at hl;(hr.rf id cs hl).turn a3 a1 a2 ho (λ_ _ _ _=>rfl),((hr.rm 63 node1S rfl).plain rfl).turn rfl node1_ok ho (λ_ _ _ _=>rfl)⟩,⟨hfr.os,hfr.tape,hfr.output,hfr.size,λb hb hn=>hfr.keep b hb λid r hl hr' e=>hn (.inl ?_)⟩⟩
 ·obtain⟨r,C,ty,fr,hr1,hbq,_,hlq,hcq⟩:=(hr.rm 225 (ansS i) rfl).plain rfl
  rw[hq]at hr1;cases hr1
  rw[←(ansS_plain i).2,List.getElem?_map]at hv
  cases hsj:(ansS i)[j]? with
  |none=>rw[hsj]at hv;cases hv
  |some s=>
   rw[hsj]at hv
   cases hv
   obtain⟨u,hu1,hu2⟩:=hcq j s hsj
   have hu3:=hu2.plain (List.all_eq_true.1 (ansS_plain i).1 s (List.mem_of_getElem? hsj))
   rw[cell_blk hbq,←hu3,←hu1]
 ·obtain⟨cs,hcs⟩:=Option.isSome_iff_exists.1 hl
  obtain⟨rfl,rfl⟩:=look_muB hcs
  rw[hp]at hr'
  cases hr'
  exact e.symm
end
theorem cloneReads:∀i,i<5→hcall (noOrc zz) KT0.find FT.find 60 22 [.ag (readS i)] (λ_=>none) [] 0 (isV (.ag (readS i)) []) []=true
 |0,_=>by kernel_rfl
 |1,_=>by kernel_rfl
 |2,_=>by kernel_rfl
 |3,_=>by kernel_rfl
 |4,_=>by kernel_rfl
theorem cloneAns:∀i,i<5→hcall (noOrc zz) KT0.find FT.find 60 22 [.ag (ansS i)] (λ_=>none) [] 0 (isV (.ag (ansS i)) []) []=true
 |0,_=>by kernel_rfl
 |1,_=>by kernel_rfl
 |2,_=>by kernel_rfl
 |3,_=>by kernel_rfl
 |4,_=>by kernel_rfl
theorem mayReads:∀i,i<5→hcall (noOrc zz) KT0.find FT.find 60 36 [.ag (readS i)] (λ_=>none) [] 0 (isV (.one (.bool true)) []) []=true
 |0,_=>by kernel_rfl
 |1,_=>by kernel_rfl
 |2,_=>by kernel_rfl
 |3,_=>by kernel_rfl
 |4,_=>by kernel_rfl
theorem evalE {f:Nat} {args:List AV} {exp:AV} {xs:List Value} (h:hcall (noOrc zz) KT0.find FT.find 60 f args (λ_=>none) [] 0 (isV exp []) []=true) (w:World) (hx:All2 (AVR (λ_=>0) (λ_=>none) w) args xs):
 Calls Tryz.prog f xs.toArray w λe w'=>∃x ρ',e=.returned x∧AVR (λ_=>0) ρ' w' exp x∧Below w.heap.size w w':=
 (callV (m:=λ_=>0) (val:=λ_=>0) (noOrc_ok zz_not _) mixed (KTree.ok (kt0Ok _ _)) ftOk ⟨[],(λj p h=>by simp at h),h⟩ (λ_=>none) w ⟨λid cs h=>(by cases h),λid cs h=>(by cases h),λid cs h=>(by cases h),λid id' p p' h=>(by cases h)⟩ xs hx λid hid=>rfl).mono λe w' ⟨x,ρ',h1,_,_,h2,h3,_⟩=>⟨x,ρ',h1,h2,below_of_fr (fr_any h3)⟩
theorem cloneR_ok (i:Nat) (hi:i<5) (w:World):Calls Tryz.prog 22 #[.agg (readN i).toArray] w λe w'=>e=.returned (.agg (readN i).toArray)∧Below w.heap.size w w':=by
 refine(evalE (cloneReads i hi) w (xs:=[.agg (readN i).toArray]) ⟨⟨_,rfl,readS_vr i⟩,trivial⟩).mono λe w' ⟨x,ρ',e1,hx,hb⟩=>⟨?_,hb⟩
 obtain⟨us,rfl,hu⟩:=hx
 have:=VRs.plain hu (readS_plain i).1
 rw[(readS_plain i).2]at this
 rw[e1,this]
theorem cloneA_ok (i:Nat) (hi:i<5) (w:World):Calls Tryz.prog 22 #[.agg (ansN i).toArray] w λe w'=>e=.returned (.agg (ansN i).toArray)∧Below w.heap.size w w':=by
 refine(evalE (cloneAns i hi) w (xs:=[.agg (ansN i).toArray]) ⟨⟨_,rfl,ansS_vr i⟩,trivial⟩).mono λe w' ⟨x,ρ',e1,hx,hb⟩=>⟨?_,hb⟩
 obtain⟨us,rfl,hu⟩:=hx
 have:=VRs.plain hu (ansS_plain i).1
 rw[(ansS_plain i).2]at this
 rw[e1,this]
theorem mayR_ok (i:Nat) (hi:i<5) (w:World):Calls Tryz.prog 36 #[.agg (readN i).toArray] w λe w'=>e=.returned (.bool true)∧Below w.heap.size w w':=
 (evalE (mayReads i hi) w (xs:=[.agg (readN i).toArray]) ⟨⟨_,rfl,readS_vr i⟩,trivial⟩).mono λe w' ⟨x,ρ',e1,hx,hb⟩=>⟨by rw[e1,show x=.bool true from hx],hb⟩
end Go.Proofs.YticddijkkbcdmaaGreat.Ev
set_option linter.unusedVariables false
set_option linter.unusedSimpArgs false
noncomputable section
set_option maxRecDepth 1000000
namespace Go.Proofs.YticddijkkbcdmaaGreat.Ev
open Go Go.Ev Go.Proofs Go.RowKit Go.Rm Go.Ry
theorem JV.up {G:Geo} {g0:Nat} {ρ:Rho} {V:World} (hs:JS G g0 ρ) (h:JV ρ V) (p:Nat×Nat) (hp:ρ 63=some p) (q:Nat×Nat) (hq:ρ 167=some q):V.cell? ⟨q.1,q.2+1,none⟩=some (.pointer (some ⟨p.1,p.2,none⟩)):=by
 obtain⟨r,C,ty,fr,hr1,hb,hl,hc⟩:=(h.rf 167 _ rfl).plain rfl
 rw[hq]at hr1;cases hr1
 obtain⟨v,hv1,⟨p',hp',hv2⟩⟩:=hc 1 _ rfl
 rw[hp]at hp';cases hp'
 rw[cell_blk hb,hv1,hv2]
 rfl
theorem keepB_newB:∀id cs,Go.Ev.look newP id=some cs→Go.Ev.look newB id=some cs:=λid cs h=>by
 have h1:Go.Ev.look newB id=cond (Nat.beq 1 id) (some _) (cond (Nat.beq 0 id) (some _) (Go.Ev.look newP id)):=rfl
 cases h4:Nat.beq 1 id with
 |true=>have:=Nat.eq_of_beq_eq_true h4;subst this;cases h
 |false=>
  cases h3:Nat.beq 0 id with
  |true=>have:=Nat.eq_of_beq_eq_true h3;subst this;cases h
  |false=>rw[h1,h4,h3];exact h
set_option maxHeartbeats 1000000 in
theorem new_okB (W:World) (hr0:Rel (fun _=>0) ((fun _=>none):Rho) (fun _=>none) [] W) (hid0:∀id,0≤id→((fun _=>none):Rho) id=none):Calls Tryz.prog 10 #[.int .i64 3,.int .i64 4096] W fun e w'=>∃G ρ p,e=.returned (.tuple #[.pointer (some ⟨G.A,G.oA,none⟩),.int .i64 0])∧
 Wst G w' 0 (.slice none 0 0) [] (.slice none 0 0) 0 [] 0∧JS G W.heap.size ρ∧ρ 63=some p∧JV ρ w'∧G.base=w'.heap.size∧W.heap.size≤G.A∧W.heap.size≤G.B∧Below W.heap.size W w':=by
 refine(callVn (m:=λ_=>0) (val:=λ_=>0) (noOrc_ok zz_not _) mixed (KTree.ok (kt0Ok _ _)) ftOk ⟨[],(λj p h=>by simp at h),newRunsB⟩ ((λ_=>none):Rho) W hr0 [.int .i64 3,.int .i64 4096] ⟨rfl,rfl,trivial⟩ hid0).mono λe w' ⟨x,ρ,h1,⟨n',hn',hext⟩,hr,hx,hfr,hnew⟩=>?_
 obtain⟨vs,rfl,hv⟩:=hx
 match vs,hv with
 |[a,c],⟨ha,hc,_⟩=>
  obtain⟨pA,hA,rfl⟩:∃p,ρ 1=some p∧a=.pointer (some ⟨p.1,p.2+0,none⟩):=ha
  have hc':c=.int .i64 0:=hc
  subst hc'
  obtain⟨q,CA,tA,fA,hq,hbA,hfA,hlA,hcA⟩:=(hr.rm 1 [.osl 167 0 3 3 1,.un,.optr 0 0,.nsl,.nsl,.int .i64 0] rfl).plain rfl
  rw[hA]at hq;cases hq
  obtain⟨pB,CB,tB,fB,hB,hbB,hfB,hlB,hcB⟩:=(hr.rm 0 [.nsl] rfl).plain rfl
  obtain⟨nd,hnd1,hnd2⟩:=hcA 0 _ rfl
  obtain⟨dk,hdk1,_⟩:=hcA 1 _ rfl
  obtain⟨v2,hv2,⟨q2,hq2,hv2'⟩⟩:=hcA 2 _ rfl
  obtain⟨v3,hv3,hv3'⟩:=hcA 3 _ rfl
  obtain⟨v4,hv4,hv4'⟩:=hcA 4 _ rfl
  obtain⟨v5,hv5,hv5'⟩:=hcA 5 _ rfl
  obtain⟨u0,hu0,hu0'⟩:=hcB 0 _ rfl
  have e2:v2=.pointer (some ⟨pB.1,pB.2,none⟩):=by rw[hB]at hq2;cases hq2;exact hv2'
  have e3:v3=.slice none 0 0:=hv3'
  have e4:v4=.slice none 0 0:=hv4'
  have e5:v5=.int .i64 0:=hv5'
  have e0:u0=.slice none 0 0:=hu0'
  subst e2 e3 e4 e5 e0
  have hlA6:pA.2+6≤CA.size:=hlA
  have hno:∀id0 p0,¬((Go.Ev.look [] id0).isSome=true∧((λ_=>none):Rho) id0=some p0):=λid0 p0 h=>by cases h.1
  have hnewg:∀id p,(Go.Ev.look newB id).isSome→ρ id=some p→W.heap.size≤p.1:=λid p h hp=>(hnew id p h hp).elim (λh=>h) λ⟨i,p,h1,h2,_⟩=>absurd ⟨h1,h2⟩ (hno i p)
  have hgA:W.heap.size≤pA.1:=hnewg 1 pA rfl hA
  have hgB:W.heap.size≤pB.1:=hnewg 0 pB rfl hB
  have hne:pA.1≠pB.1:=λe=>by have:=hr.dj 1 0 pA pB rfl (.inl rfl) hA hB e;cases this
  have hps:∀id,keepB id=true→(Go.Ev.look newB id).isSome∧id≠1∧id≠0:=λid h=>by
   unfold keepB at h
   obtain⟨cs,hcs⟩:=Option.isSome_iff_exists.1 h
   refine⟨by rw[keepB_newB id cs hcs];rfl,λe=>?_,λe=>?_⟩
   ·subst e;cases hcs
   ·subst e;cases hcs
  have hown:∀id,keepB id=true→∃cs,Go.Ev.look newB id=some cs∧OwnG (λ_=>0) ρ w' id cs:=λid h=>by
   obtain⟨cs,hcs⟩:=Option.isSome_iff_exists.1 (hps id h).1
   exact⟨cs,hcs,hr.rm id cs hcs⟩
  have hsome:∀id,keepB id=true→∃p,ρ id=some p:=λid h=>by
   obtain⟨cs,_,ho⟩:=hown id h
   obtain⟨p,o,h1,_⟩:=ho.f.at
   exact⟨p,h1⟩
  obtain⟨qn,cn,hqn,hndv,_⟩:∃p c,ρ 167=some p∧nd=.slice (some ⟨p.1,p.2+0,none⟩) 3 c∧True:=let⟨p,c,h1,h2,_⟩:=hnd2;⟨p,c,h1,h2,trivial⟩
  obtain⟨p1,hp1⟩:=hsome 63 rfl
  have hB1:∀id p,(bif keepB id then ρ id else none)=some p→keepB id=true∧ρ id=some p:=λid p h=>by
   cases hk:keepB id with
   |true=>rw[hk]at h;exact⟨rfl,h⟩
   |false=>rw[hk]at h;cases h
  have hto:∀id p,keepB id=true→ρ id=some p→(bif keepB id then ρ id else none)=some p:=λid p hk h=>by rw[hk];exact h
  refine⟨⟨pA.1,pA.2,CA.size,tA,fA,pB.1,pB.2,CB.size,tB,fB,w'.heap.size,nd,dk⟩,λid=>bif keepB id then ρ id else none,p1,h1,?_,?_,hto _ _ rfl hp1,?_,rfl,hgA,hgB,below_of_fr (fr_any hfr)⟩
  ·refine⟨⟨⟨CB,hbB,rfl,hu0⟩,hfB.no (by have:pB.2+1≤CB.size:=hlB;show pB.2<CB.size;omega),(Array.getElem?_eq_some_iff.1 hbB).1,Nat.le_refl _,World.ownsRow_nil _ _ _ _,λu hu=>by cases hu⟩,⟨CA,hbA,rfl,hnd1,hdk1,hv2,hv3,hv4,hv5⟩,λi hi=>hfA.no (by show pA.2+i<_;omega),(Array.getElem?_eq_some_iff.1 hbA).1,hne,World.ownsRow_nil _ _ _ _,λk hk=>by cases hk⟩
  ·refine⟨λid p h=>(hB1 id p h).1,λid h=>let⟨p,hp⟩:=hsome id h;⟨p,hto id p h hp⟩,λid p h=>?_,λid id' p p' h h' e=>?_,⟨qn,cn,hto _ _ rfl hqn,hndv⟩⟩
   ·obtain⟨hk,hp⟩:=hB1 id p h
    obtain⟨h2,h4,h3⟩:=hps id hk
    obtain⟨cs,hcs,ho⟩:=hown id hk
    exact⟨λe=>h4 (hr.dj id 1 p pA h2 (.inl rfl) hp hA e),λe=>h3 (hr.dj id 0 p pB h2 (.inl rfl) hp hB e),ho.lt hp,hnewg id p h2 hp⟩
   ·obtain⟨hk,hp⟩:=hB1 id p h
    obtain⟨hk',hp'⟩:=hB1 id' p' h'
    exact hr.dj id id' p p' (hps id hk).1 (.inl (hps id' hk').1) hp hp' e
  ·refine⟨λid cs hl=>?_,?_⟩
   ·obtain⟨a1,a2,a3⟩:=partB_at hl
    have hn:Go.Ev.look newP id=some cs:=by
     have h1:Go.Ev.look newP id=cond (Nat.beq 63 id) (some node1S) (Go.Ev.look partB id):=rfl
     cases h6:Nat.beq 63 id with
     |true=>have:=Nat.eq_of_beq_eq_true h6;subst this;cases hl
     |false=>rw[h1,h6];exact hl
    exact(hr.rm id cs (keepB_newB id cs hn)).f.turn a3 a1 a2 hto (λ_ _ _ _=>rfl)
   ·exact((hr.rm 63 node1S rfl).plain rfl).turn rfl node1_ok hto (λ_ _ _ _=>rfl)
end Go.Proofs.YticddijkkbcdmaaGreat.Ev
