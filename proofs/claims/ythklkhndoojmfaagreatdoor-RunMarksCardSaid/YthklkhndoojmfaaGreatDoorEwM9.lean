/-
  Looking through strings; channels; the first statements by the evaluator; the program's variables.
-/
import Derived.Test.YthklkhndoojmfaaGreatDoorEwM8
import Derived.Conc.LoneSelect
import Derived.Conc.LoneCalls
import Derived.Tactics
import Derived.Orders
import Derived.Lib.CountLaws
import Derived.Lib.Split
import Derived.Lib.ItoaNum
import Derived.Lib.Atoi
import Derived.Shelf.Strings.Cut
import Derived.Shelf.Strings.Split
import Derived.Shelf.Strings.Search3
import Derived.Shelf.Small.Strs
set_option linter.unusedVariables false
set_option linter.unusedSimpArgs false
noncomputable section
namespace Go.Kn
open Go Go.Conc
def WpN (P:Program) (c:Code) (Q:Exit→Act→World→Prop) (a:Act) (w:World):Prop:=
 ∀(b:Frame) (k:List Item) (cs:List Frame),b.kind≠.early→∃e a' w',Q e a' w'∧Arrives P (lone (b.at a (.code c::k)) cs w) b k cs e a' w'
def OpsTo (P:Program) (ops:Array Oper) (Q:Exit→Act→World→Prop) (l:List Nat) (a:Act) (w:World):Prop:=
 ∀(b:Frame) (k:List Item) (cs:List Frame),b.kind≠.early→∃e a' w',Q e a' w'∧Arrives P (lone (b.at a (.inRegion ops l::k)) cs w) b k cs e a' w'
section
variable {P:Program} {Q:Exit→Act→World→Prop} {a:Act} {w:World}
theorem of_wp {c:Code} (h:c.wp P Q a w):WpN P c Q a w:=λb k cs _=>h b k cs
theorem wpN_seq {x y:Code} (h:WpN P x (Exit.then (WpN P y Q) Q) a w):WpN P (Code.seq x y) Q a w:=by
 intro b k cs hb
 obtain⟨e,a₁,w₁,hq,harr⟩:=h b (.code y::k) cs hb
 cases e with
 |normal=>
  obtain⟨e₂,a₂,w₂,hq₂,harr₂⟩:=hq b k cs hb
  exact⟨e₂,a₂,w₂,hq₂,.of_steps (.head step_seq harr) harr₂⟩
 |exit id=>exact⟨_,a₁,w₁,hq,.of_steps (.one step_seq) (.pass (x:=.code y) rfl (λ_ _=>.inl (by simp)) harr)⟩
 |goto l=>exact⟨_,a₁,w₁,hq,.of_steps (.one step_seq) (.pass (x:=.code y) rfl (λ_ _=>.inl (by simp)) harr)⟩
 |ret=>exact⟨_,a₁,w₁,hq,.of_steps (.one step_seq) (.pass (x:=.code y) rfl (λ_ _=>.inl (by simp)) harr)⟩
 |panic ch=>exact⟨_,a₁,w₁,hq,.of_steps (.one step_seq) (.pass (x:=.code y) rfl (λ_ _=>.inl (by simp)) harr)⟩
 |outgrown=>exact⟨_,a₁,w₁,hq,.of_steps (.one step_seq) (.pass (x:=.code y) rfl (λ_ _=>.inl (by simp)) harr)⟩
theorem wpN_cond {c:Operand} {x y:Code} {t:Bool} (hc:a.eval c=.bool t) (h:WpN P (if t then x else y) Q a w):WpN P (Code.cond c x y) Q a w:=
 λb k cs hb=>let⟨e,a',w',q,r⟩:=h b k cs hb;⟨e,a',w',q,.of_steps (.one (step_cond hc)) r⟩
theorem wpN_block {id:Nat} {c:Code} (h:WpN P c (Exit.inBlock id Q) a w):WpN P (Code.block id c) Q a w:=by
 intro b k cs hb
 obtain⟨e,a₁,w₁,hq,harr⟩:=h b (.inBlock id::k) cs hb
 cases e with
 |normal=>exact⟨.normal,a₁,w₁,hq,.head step_block (Steps.trans harr (.one step_inBlock))⟩
 |exit id'=>
  by_cases hid:id'=id
  ·simp only[Exit.inBlock,hid,if_true]at hq
   exact⟨.normal,a₁,w₁,hq,.head step_block (harr k (by simp[exitTo,hid]))⟩
  ·simp only[Exit.inBlock,hid,if_false]at hq
   refine⟨.exit id',a₁,w₁,hq,λk' hk=>.head step_block (harr k' ?_)⟩
   have:(id==id')=false:=by simp;exactλh=>hid h.symm
   simp[exitTo,this,hk]
 |goto l=>exact⟨_,a₁,w₁,hq,λk' hk=>.head step_block (harr k' (by simp[gotoIn,hk]))⟩
 |ret=>exact⟨_,a₁,w₁,hq,.of_steps (.one step_block) harr⟩
 |panic ch=>exact⟨_,a₁,w₁,hq,.of_steps (.one step_block) harr⟩
 |outgrown=>exact⟨_,a₁,w₁,hq,.of_steps (b:=b) (k:=k) (cs:=cs) (e:=.outgrown) (.one step_block) harr⟩
theorem wpN_loop {c:Code} (I:Act→World→Prop) (μ:Act→World→Nat) (h₀:I a w)
 (round:∀a w,I a w→WpN P c (Exit.then (λa' w'=>I a' w'∧μ a' w'<μ a w) Q) a w):WpN P (Code.loop c) Q a w:=by
 intro b k cs hb
 have key:∀n a w,μ a w=n→I a w→
  ∃e a' w',Q e a' w'∧Arrives P (lone (b.at a (.code c::.inLoop c::k)) cs w) b k cs e a' w':=by
  intro n
  induction n using Nat.strongRecOn with
  |_ n ih=>
   intro a w hn hI
   obtain⟨e,a₁,w₁,hq,harr⟩:=round a w hI b (.inLoop c::k) cs hb
   cases e with
   |normal=>
    obtain⟨hI₁,hlt⟩:=hq
    obtain⟨e₂,a₂,w₂,hq₂,harr₂⟩:=ih (μ a₁ w₁) (hn▸hlt) a₁ w₁ rfl hI₁
    exact⟨e₂,a₂,w₂,hq₂,.of_steps (Steps.trans harr (.one step_inLoop)) harr₂⟩
   |exit id=>exact⟨_,a₁,w₁,hq,.pass (x:=.inLoop c) rfl (λ_ _=>.inl (by simp)) harr⟩
   |goto l=>exact⟨_,a₁,w₁,hq,.pass (x:=.inLoop c) rfl (λ_ _=>.inl (by simp)) harr⟩
   |ret=>exact⟨_,a₁,w₁,hq,.pass (x:=.inLoop c) rfl (λ_ _=>.inl (by simp)) harr⟩
   |panic ch=>exact⟨_,a₁,w₁,hq,.pass (x:=.inLoop c) rfl (λ_ _=>.inl (by simp)) harr⟩
   |outgrown=>exact⟨_,a₁,w₁,hq,.pass (x:=.inLoop c) rfl (λ_ _=>.inl (by simp)) harr⟩
 obtain⟨e,a',w',hq,harr⟩:=key _ a w rfl h₀
 exact⟨e,a',w',hq,.of_steps (.one step_loop) harr⟩
theorem OpsTo.nil {ops:Array Oper} (h:Q .normal a w):OpsTo P ops Q [] a w:=λ_ _ _ _=>⟨.normal,a,w,h,.one step_region_end⟩
theorem OpsTo.step {ops:Array Oper} {l l2:List Nat} {a2:Act} {w2:World} (hs:∀(b:Frame) (k:List Item) (cs:List Frame),b.kind≠.early→step P (lone (b.at a (.inRegion ops l::k)) cs w)=.next (lone (b.at a2 (.inRegion ops l2::k)) cs w2))
 (h:OpsTo P ops Q l2 a2 w2):OpsTo P ops Q l a w:=λb k cs hb=>
 let⟨e,a',w',q,r⟩:=h b k cs hb;⟨e,a',w',q,.of_steps (.one (hs b k cs hb)) r⟩
theorem ops_then {ops:Array Oper} {l2:List Nat} {QN:Exit→Act→World→Prop} (hQ:∀e a w,QN e a w→e=.normal∧OpsTo P ops Q l2 a w∨e≠.normal∧Q e a w) (l:List Nat):
 ∀(a:Act) (w:World),wpOps P ops QN l a w→OpsTo P ops Q (l++l2) a w:=by
 have hout:LetsOut QN→LetsOut Q:=λ⟨a,w,h⟩=>by
  rcases hQ _ _ _ h with⟨h1,-⟩|⟨-,h1⟩
  ·cases h1
  ·exact⟨a,w,h1⟩
 induction l with
 |nil=>
  intro a w h
  rcases hQ _ _ _ h with⟨-,h⟩|⟨h,-⟩
  ·exact h
  ·exact(h rfl).elim
 |cons i rest ih=>
  intro a w h b k cs hb
  rw[List.cons_append]
  simp only[wpOps]at h
  cases ho:ops[i]? with
  |none=>
   simp only[ho]at h
   obtain⟨e,a',w',hq,harr⟩:=ih a w h b k cs hb
   have hs:=step_op_skip (P:=P) (b:=b) (a:=a) (k:=k) (cs:=cs) (w:=w) (ops:=ops) (i:=i) (rest:=rest++l2) (by simp[ho])
   simp only[ho,Option.bind_none,Act.put]at hs
   exact⟨e,a',w',hq,.of_steps (.one hs) harr⟩
  |some o=>
   simp only[ho]at h
   by_cases hw:Region.wanted o (yielded ops a.tmps)=true
   ·simp only[hw,if_true]at h
    rcases h with h|⟨hasks,hl⟩
    case inr=>
     obtain⟨a₀,w₀,hq⟩:=hout hl
     exact⟨.outgrown,a₀,w₀,hq,.inr (asks_outgrown ho hw hb hasks)⟩
    simp only[Oper.wp,Oper.upon]at h
    have hg:=stepG_op (P:=P) (b:=b) (k:=k) (cs:=cs) (w:=w) (rest:=rest++l2) ho hw
    have hfin:∀v,(b.at a (.inRegion ops (i::(rest++l2))::k)).finish v=b.at (a.put o.dst v) (.inRegion ops (rest++l2)::k):=by
     intro v;rw[Frame.finish_at,ho];rfl
    split at h
    ·rename_i v w' hr
     obtain⟨e,a',w'',hq,harr⟩:=ih _ _ h b k cs hb
     refine⟨e,a',w'',hq,.of_steps (.one (step_lone_go ?_)) harr⟩
     rw[hg,←hfin];simp[stepG.apply,hr]
    ·rename_i w' hr
     obtain⟨e,a',w'',hq,harr⟩:=ih _ _ h b k cs hb
     refine⟨e,a',w'',hq,.of_steps (.one (step_lone_go ?_)) harr⟩
     rw[hg,←hfin];simp[stepG.apply,hr]
    ·rename_i d w' hr
     obtain⟨e,a',w'',hq,harr⟩:=ih _ _ h b k cs hb
     refine⟨e,a',w'',hq,.of_steps (.one (step_lone_go ?_)) harr⟩
     have:({b.at a (.inRegion ops (i::(rest++l2))::k)with defers:=d::a.defers}:Frame).finish undef=
      b.at ({a with defers:=d::a.defers}.put o.dst undef) (.inRegion ops (rest++l2)::k):=by
      have:=Frame.finish_at b {a with defers:=d::a.defers} ops i (rest++l2) k undef
      rw[ho]at this;exact this
     rw[hg];simp only[stepG.apply,Sem.runT_eq,hr,GStep.bare_after]
     exact congrArg (λfr=>GStep.go {frame:=fr,callers:=cs,status:=.running,dying:=none} w') this
    ·rename_i f args w' hr
     obtain⟨e,w'',fr,hR,hsteps,_,hleave⟩:=h (b.at a (.inRegion ops (i::(rest++l2))::k)::cs)
     have henter:step P (lone (b.at a (.inRegion ops (i::(rest++l2))::k)) cs w)=
      .next (lone (Frame.enter P f args .normal) (b.at a (.inRegion ops (i::(rest++l2))::k)::cs) w'):=
      step_lone_go (by rw[hg];simp[stepG.apply,hr,Frame.at])
     cases e with
     |returned v=>
      obtain⟨e,a',w₃,hq,harr⟩:=ih _ _ hR b k cs hb
      refine⟨e,a',w₃,hq,.of_steps (.head henter (hsteps.trans (.one ?_))) harr⟩
      rw[←hfin];exact step_leave_returned hleave
     |panicked chain=>
      rcases hQ _ _ _ hR with⟨h1,-⟩|⟨-,hR⟩
      ·cases h1
      refine⟨.panic chain,a,w'',hR,.inRegion ops (i::(rest++l2))::k,.head henter (hsteps.trans (.one ?_))⟩
      rw[←Frame.raise_at];exact step_leave_panicked hleave
     |outgrown=>
      obtain⟨a₀,w₀,hq⟩:=hout hR
      exact⟨.outgrown,a₀,w₀,hq,.inr (Outgrown.of_steps (.one henter) hsteps)⟩
    ·rename_i row args w' hr
     obtain⟨v,w'',hR,hsteps⟩:=h (b.at a (.inRegion ops (i::(rest++l2))::k)) cs
     have henter:step P (lone (b.at a (.inRegion ops (i::(rest++l2))::k)) cs w)=
      .next (lone (Frame.ofRow P row args .normal) (b.at a (.inRegion ops (i::(rest++l2))::k)::cs) w'):=
      step_lone_go (by rw[hg];simp[stepG.apply,hr,Frame.at])
     obtain⟨e,a',w₃,hq,harr⟩:=ih _ _ hR b k cs hb
     refine⟨e,a',w₃,hq,.of_steps (.head henter ?_) harr⟩
     rw[←hfin];exact hsteps
    ·rename_i v w' hr
     rcases hQ _ _ _ h with⟨h1,-⟩|⟨-,h⟩
     ·cases h1
     refine⟨_,a,w',h,.inRegion ops (i::(rest++l2))::k,.one (step_lone_go ?_)⟩
     rw[hg,←Frame.raise_at];simp[stepG.apply,hr]
    ·exact h.elim
   ·simp only[hw,if_false,Bool.false_eq_true]at h
    obtain⟨e,a',w',hq,harr⟩:=ih _ _ h b k cs hb
    have hs:=step_op_skip (P:=P) (b:=b) (a:=a) (k:=k) (cs:=cs) (w:=w) (ops:=ops) (i:=i) (rest:=rest++l2)
     (by simp[ho];simpa using hw)
    simp only[ho,Option.bind_some]at hs
    exact⟨e,a',w',hq,.of_steps (.one hs) harr⟩
def Cut (P:Program) (ops:Array Oper) (Q:Exit→Act→World→Prop) (l2:List Nat):Exit→Act→World→Prop:=λe a w=>e=.normal∧OpsTo P ops Q l2 a w∨e≠.normal∧Q e a w
theorem wpN_region {id:Nat} {ops:Array Oper} (h:OpsTo P ops Q (List.range ops.size) a w):WpN P (Code.region id ops false) Q a w:=
 λb k cs hb=>let⟨e,a',w',q,r⟩:=h b k cs hb;⟨e,a',w',q,.of_steps (.one step_region) r⟩
theorem wpOps_part {ops:Array Oper} (l:List Oper):∀k,(∀(j:Nat) (h:j<l.length),ops[k+j]?=some l[j])→wpOps P ops Q (List.range' k l.length)=wpList P ops Q l:=by
 induction l with
 |nil=>intro k _;funext a w;simp[wpOps,wpList]
 |cons o l ih=>
  intro k h
  have h0:ops[k]?=some o:=h 0 (by simp)
  have ih':=ih (k+1) (λj hj=>by have:=h (j+1) (by simp;omega);simpa[Nat.add_assoc,Nat.add_comm 1 j]using this)
  funext a w
  simp only[List.length_cons,List.range'_succ,wpOps,h0,wpList,ih']
theorem wpN_cut {id:Nat} {l:List Oper} (j:Nat) (hj:j≤l.length) (h:wpList P l.toArray (Cut P l.toArray Q (List.range' j (l.length-j))) (l.take j) a w):WpN P (Code.region id l.toArray false) Q a w:=by
 refine wpN_region ?_
 have h2:=wpOps_part (P:=P) (ops:=l.toArray) (Q:=Cut P l.toArray Q (List.range' j (l.length-j))) (l.take j) 0 (λi hi=>by
  rw[List.length_take]at hi
  simp only[Nat.zero_add,List.getElem?_toArray,List.getElem_take]
  exact List.getElem?_eq_getElem (by omega))
 have h3:=ops_then (P:=P) (ops:=l.toArray) (Q:=Q) (l2:=List.range' j (l.length-j)) (QN:=Cut P l.toArray Q (List.range' j (l.length-j))) (λ_ _ _ h=>h) (List.range' 0 j) a w
 have e:List.range l.toArray.size=List.range' 0 j++List.range' j (l.length-j):=by
  rw[List.range_eq_range',List.size_toArray]
  have:=List.range'_append (s:=0) (m:=j) (n:=l.length-j) (step:=1)
  rw[show j+(l.length-j)=l.length by omega]at this
  rw[←this];simp
 rw[e]
 rw[List.length_take,Nat.min_eq_left hj]at h2
 exact h3 (by rw[h2];exact h)
theorem ops_rest {ops:Array Oper} (l:List Oper) (k:Nat) (hl:∀(j:Nat) (h:j<l.length),ops[k+j]?=some l[j]) (h:wpList P ops Q l a w):OpsTo P ops Q (List.range' k l.length) a w:=by
 intro b m cs _
 refine wp_ops (P:=P) (ops:=ops) (Q:=Q) (List.range' k l.length) a w ?_ b m cs
 rw[wpOps_part l k hl];exact h
theorem calls_of_wpN {f:FuncId} {fn:Func} {c:Code} {args:Array Value} {w:World} {R:Ending→World→Prop}
 (hf:P.funcs[f]?=some fn) (hb:fn.body=some c)
 (h:WpN P c (bodyPost P fn R) {tmps:=args++Array.replicate (fn.ntmps-args.size) undef,defers:=[]} w):Calls P f args w R:=by
 intro cs
 let b:Frame:={(default:Frame)with fn:=f,kind:=.normal}
 have henter:Frame.enter P f args .normal=
  b.at {tmps:=args++Array.replicate (fn.ntmps-args.size) undef,defers:=[]} [.code c]:=by
  simp[Frame.enter,Frame.at,hf,hb,b]
 obtain⟨e,a',w',hq,harr⟩:=h b [] cs (by simp[b])
 rw[←henter]at harr
 cases e with
 |normal=>
  obtain⟨hd,v,hr,hR⟩:=hq
  exact⟨.returned v,w',_,hR,Steps.trans harr (.one step_end),rfl,rfl,hd,rfl,fn,hf,hr⟩
 |ret=>
  obtain⟨hd,v,hr,hR⟩:=hq
  obtain⟨todo,hs⟩:=harr
  exact⟨.returned v,w',_,hR,hs,rfl,rfl,hd,rfl,fn,hf,hr⟩
 |panic chain=>
  obtain⟨hd,hR⟩:=hq
  obtain⟨todo,hs⟩:=harr
  exact⟨.panicked chain,w',_,hR,hs,rfl,rfl,hd,fn,hf⟩
 |exit id=>exact hq.elim
 |goto l=>exact hq.elim
 |outgrown=>exact⟨.outgrown,w',b,hq,harr.resolve_left (by simp[b]),rfl,trivial⟩
theorem ops_send {ops:Array Oper} {i:Nat} {rest:List Nat} {o:Oper} {c cap s r:Nat} {buf:Array Value} {v z:Value} (ho:ops[i]?=some o) (hw:Region.wanted o (yielded ops a.tmps)=true)
 (hr:(execOp a.eval o).run P w=.ok (.comm #[scase c v z] true .send) w) (hc:w.heap[c]?=some (.chan cap buf false s r false)) (hroom:buf.size<cap)
 (h:OpsTo P ops Q rest (a.put o.dst undef) (w.setChan c cap (buf.push v) false (s+1) r false)):OpsTo P ops Q (i::rest) a w:=by
 refine OpsTo.step (λb k cs hb=>?_) h
 have h1:=step_lone_send_room (P:=P) (stepG_comm (P:=P) (main:=true) (b:=b) (k:=k) (cs:=cs) (ops:=ops) (rest:=rest) ho hw hb hr) hc hroom
 rw[Frame.finish_at,ho]at h1
 exact h1
theorem ops_sel_buf {ops:Array Oper} {i:Nat} {rest:List Nat} {o:Oper} {c cap s r:Nat} {buf:Array Value} {closed:Bool} {z:Value} (ho:ops[i]?=some o) (hw:Region.wanted o (yielded ops a.tmps)=true)
 (hr:(execOp a.eval o).run P w=.ok (.comm #[rcase c z] false .select) w) (hc:w.heap[c]?=some (.chan cap buf closed s r false)) (hsome:0<buf.size)
 (h:OpsTo P ops Q rest (a.put o.dst (.tuple #[goInt 0,.bool true,buf.getD 0 undef])) (w.setChan c cap (buf.extract 1 buf.size) closed s (r+1) false)):OpsTo P ops Q (i::rest) a w:=by
 refine OpsTo.step (λb k cs hb=>?_) h
 have h1:=step_lone_select_recv_buf (P:=P) (stepG_comm (P:=P) (main:=true) (b:=b) (k:=k) (cs:=cs) (ops:=ops) (rest:=rest) ho hw hb hr) hc hsome
 rw[Frame.finish_at,ho]at h1
 exact h1
end
end Go.Kn
namespace Go.Ev
def cutR (c:Nat) (no:RR) (yes:Nat→Nat→Nat→Nat→RR):Nat→Nat→Nat→Nat→RR:=
 Nat.rec (motive:=λ_=>Nat→Nat→Nat→RR) (λ_ _ _=>no)
  (λm ih pl pn n=>fN (Nat.div n (Nat.pow 256 m)) λb=>fN (Nat.mod n (Nat.pow 256 m)) λr=>cond (Nat.beq b c) (yes pl pn m r) (fN (Nat.add (Nat.mul pn 256) b) λpn'=>fN (Nat.succ pl) λpl'=>ih pl' pn' r))
def cutA (c l n:Nat) (no:RR) (yes:Nat→Nat→Nat→Nat→RR):RR:=cutR c no yes l 0 0 n
def splitR (c:Nat):Nat→Nat→Nat→Nat→(Nat→List SV→RR)→RR:=
 Nat.rec (motive:=λ_=>Nat→Nat→Nat→(Nat→List SV→RR)→RR) (λ_ _ _ _=>zz)
  (λ_ ih l n i k=>fN (Nat.succ i) λi=>cutA c l n (k i [.str l n]) λpl pn m r=>ih m r i λi t=>k i (.str pl pn::t))
def digR:Nat→Nat→Nat→Nat→(Nat→Nat→RR)→RR:=
 Nat.rec (motive:=λ_=>Nat→Nat→Nat→(Nat→Nat→RR)→RR) (λ_ _ _ _=>zz)
  (λ_ ih q l n k=>fN (Nat.add n (Nat.mul (Nat.add 48 (Nat.mod q 10)) (Nat.pow 256 l))) λn=>fN (Nat.succ l) λl=>cond (Nat.blt q 10) (k l n) (fN (Nat.div q 10) λq=>ih q l n k))
def itoR (x:Int) (k:Nat→Nat→RR):RR:=
 Int.rec (motive:=λ_=>RR) (λq=>digR 20 q 0 0 k) (λq=>fN (Nat.succ q) λq=>digR 20 q 0 0 λl n=>fN (Nat.add n (Nat.mul 45 (Nat.pow 256 l))) λn=>fN (Nat.succ l) λl=>k l n) x
def numR:Nat→Nat→Nat→(Nat→RR)→RR:=
 Nat.rec (motive:=λ_=>Nat→Nat→(Nat→RR)→RR) (λ_ a k=>k a)
  (λm ih n a k=>fN (Nat.add (Nat.mul a 10) (Nat.sub (Nat.div n (Nat.pow 256 m)) 48)) λa=>fN (Nat.mod n (Nat.pow 256 m)) λn=>ih n a k)
def parR (l n:Nat) (k:Int→RR):RR:=
 Nat.rec (motive:=λ_=>RR) (k 0) (λm _=>cond (Nat.beq (Nat.div n (Nat.pow 256 m)) 45) (fN (Nat.mod n (Nat.pow 256 m)) λr=>numR m r 0 λa=>fI (Int.neg (Int.ofNat a)) k) (numR l n 0 λa=>fI (Int.ofNat a) k)) l
section
variable {T:RR→Prop}
theorem sB_cons {m n:Nat} (h:n<256^(m+1)):sB (m+1) n=UInt8.ofNat (n/256^m)::sB m (n%256^m):=by
 rw[sB_split (l:=m+1) (k:=1) (by omega) n,Nat.add_sub_cancel,sB_mod]
 rfl
theorem top_lt {m n:Nat} (h:n<256^(m+1)):n/256^m<256:=Nat.div_lt_of_lt_mul (by rw[Nat.pow_succ]at h;exact h)
theorem cutR_elim {c:Nat} {no:RR} {yes:Nat→Nat→Nat→Nat→RR}:∀(l pl pn n:Nat),T (cutR c no yes l pl pn n)→
 (T no∧(n<256^l→∀b∈sB l n,b.toNat≠c))∨
 ∃ql qn m r,T (yes ql qn m r)∧m<l∧(pn<256^pl→n<256^l→qn<256^ql∧r<256^m∧sB pl pn++sB l n=sB ql qn++(UInt8.ofNat c::sB m r)∧((∀b∈sB pl pn,b.toNat≠c)→∀b∈sB ql qn,b.toNat≠c))
 |0,pl,pn,n,h=>.inl ⟨h,λ_ b hb=>by simp[sB]at hb⟩
 |m+1,pl,pn,n,h=>by
  have h1:T (fN (n/256^m) λb=>fN (n%256^m) λr=>cond (Nat.beq b c) (yes pl pn m r) (fN (pn*256+b) λpn'=>fN (Nat.succ pl) λpl'=>cutR c no yes m pl' pn' r)):=h
  rw[fN_eq,fN_eq]at h1
  have hr:n%256^m<256^m:=Nat.mod_lt _ (Nat.pow_pos (by decide))
  cases hb:Nat.beq (n/256^m) c with
  |true=>
   rw[hb]at h1
   have hb':=Nat.eq_of_beq_eq_true hb
   exact .inr ⟨pl,pn,m,n%256^m,h1,by omega,λhp hn=>⟨hp,hr,by rw[sB_cons hn,hb'],λh=>h⟩⟩
  |false=>
   rw[hb]at h1
   have h2:T (fN (pn*256+n/256^m) λpn'=>fN (Nat.succ pl) λpl'=>cutR c no yes m pl' pn' (n%256^m)):=h1
   rw[fN_eq,fN_eq]at h2
   have hne:n/256^m≠c:=λe=>by rw[e,Nat.beq_refl]at hb;cases hb
   have hstep:∀(hn:n<256^(m+1)),sB (pl+1) (pn*256+n/256^m)=sB pl pn++[UInt8.ofNat (n/256^m)]:=λhn=>by
    have:=sB_append pl pn 1 (n/256^m) (by have:=top_lt hn;omega)
    rw[Nat.pow_one]at this
    rw[this];rfl
   rcases cutR_elim m (pl+1) (pn*256+n/256^m) (n%256^m) h2 with⟨g1,g2⟩|⟨ql,qn,k,r,g1,g0,g2⟩
   ·refine .inl ⟨g1,λhn b hb=>?_⟩
    rw[sB_cons hn]at hb
    rcases List.mem_cons.1 hb with rfl|hb
    ·have:=top_lt hn
     rw[UInt8.toNat_ofNat',Nat.mod_eq_of_lt (by omega)]
     exact hne
    ·exact g2 hr b hb
   ·refine .inr ⟨ql,qn,k,r,g1,by omega,λhp hn=>?_⟩
    have ht:=top_lt hn
    obtain⟨a1,a2,a3,a4⟩:=g2 (by rw[Nat.pow_succ];omega) hr
    rw[hstep hn]at a3 a4
    refine⟨a1,a2,by rw[sB_cons hn,←a3];simp,λhp'=>a4 λb hb=>?_⟩
    rcases List.mem_append.1 hb with hb|hb
    ·exact hp' b hb
    ·rw[List.mem_singleton]at hb
     rw[hb,UInt8.toNat_ofNat',Nat.mod_eq_of_lt (by omega)]
     exact hne
theorem cutA_elim {c l n:Nat} {no:RR} {yes:Nat→Nat→Nat→Nat→RR} (h:T (cutA c l n no yes)):
 (T no∧(n<256^l→∀b∈sB l n,b.toNat≠c))∨
 ∃ql qn m r,T (yes ql qn m r)∧m<l∧(n<256^l→qn<256^ql∧r<256^m∧sB l n=sB ql qn++(UInt8.ofNat c::sB m r)∧∀b∈sB ql qn,b.toNat≠c):=by
 rcases cutR_elim l 0 0 n h with h|⟨ql,qn,m,r,g1,g0,g2⟩
 ·exact .inl h
 ·refine .inr ⟨ql,qn,m,r,g1,g0,λhn=>?_⟩
  obtain⟨a1,a2,a3,a4⟩:=g2 (by decide) hn
  exact⟨a1,a2,by simpa[sB]using a3,a4 (by simp[sB])⟩
inductive Pcs (c:Nat):Nat→Nat→List SV→Prop where
 |last (l n):(n<256^l→∀b∈sB l n,b.toNat≠c)→Pcs c l n [.str l n]
 |more (l n ql qn m r t):(n<256^l→qn<256^ql∧r<256^m∧sB l n=sB ql qn++(UInt8.ofNat c::sB m r)∧∀b∈sB ql qn,b.toNat≠c)→Pcs c m r t→Pcs c l n (.str ql qn::t)
theorem splitR_elim (hz:¬T zz) {c:Nat}:∀(f l n i:Nat) {k:Nat→List SV→RR},T (splitR c f l n i k)→∃t,Pcs c l n t∧T (k (i+t.length) t)
 |0,l,n,i,k,h=>(hz h).elim
 |f+1,l,n,i,k,h=>by
  have h1:T (fN (Nat.succ i) λi=>cutA c l n (k i [.str l n]) λpl pn m r=>splitR c f m r i λi t=>k i (.str pl pn::t)):=h
  rw[fN_eq]at h1
  rcases cutA_elim h1 with⟨g1,g2⟩|⟨ql,qn,m,r,g1,_,g2⟩
  ·exact⟨_,.last l n g2,g1⟩
  ·obtain⟨t,hp,ht⟩:=splitR_elim hz f m r _ g1
   refine⟨_,.more l n ql qn m r t g2 hp,?_⟩
   rw[show i+(SV.str ql qn::t).length=i+1+t.length by simp;omega]
   exact ht
theorem digN (d:Nat) (h:d<10):(UInt8.ofNat (48+d)).toNat=48+d:=by rw[UInt8.toNat_ofNat'];omega
theorem digR_elim (hz:¬T zz):∀(f q l n:Nat) {k:Nat→Nat→RR},T (digR f q l n k)→∃l' n',T (k l' n')∧(n<256^l→n'<256^l'∧sB l' n'=Lib.decDigits q++sB l n)
 |0,q,l,n,k,h=>(hz h).elim
 |f+1,q,l,n,k,h=>by
  have h1:T (fN (n+(48+q%10)*256^l) λn=>fN (Nat.succ l) λl=>cond (Nat.blt q 10) (k l n) (fN (q/10) λq=>digR f q l n k)):=h
  rw[fN_eq,fN_eq]at h1
  have hd:q%10<10:=Nat.mod_lt _ (by decide)
  have hlt:n<256^l→n+(48+q%10)*256^l<256^(l+1):=λhn=>by
   rw[Nat.pow_succ]
   have:(48+q%10)*256^l≤57*256^l:=Nat.mul_le_mul_right _ (by omega)
   omega
  have hs:n<256^l→sB (l+1) (n+(48+q%10)*256^l)=UInt8.ofNat (48+q%10)::sB l n:=λhn=>by
   rw[sB_cons (hlt hn),Nat.add_mul_div_right _ _ (Nat.pow_pos (by decide)),Nat.div_eq_of_lt hn,Nat.zero_add,Nat.add_mul_mod_self_right,Nat.mod_eq_of_lt hn]
  cases hb:Nat.blt q 10 with
  |true=>
   rw[hb]at h1
   have hq:q<10:=by simpa[Nat.blt_eq]using hb
   refine⟨_,_,h1,λhn=>⟨hlt hn,?_⟩⟩
   rw[hs hn,Lib.decDigits,dif_pos hq,Nat.mod_eq_of_lt hq];rfl
  |false=>
   rw[hb]at h1
   have h3:T (fN (q/10) λq'=>digR f q' (l+1) (n+(48+q%10)*256^l) k):=h1
   rw[fN_eq]at h3
   have hq:¬q<10:=λh=>by rw[show Nat.blt q 10=true by simpa[Nat.blt_eq]using h]at hb;cases hb
   obtain⟨l',n',g1,g2⟩:=digR_elim hz f (q/10) (l+1) _ h3
   refine⟨l',n',g1,λhn=>?_⟩
   obtain⟨a1,a2⟩:=g2 (hlt hn)
   refine⟨a1,?_⟩
   rw[a2,hs hn]
   conv=>rhs;rw[Lib.decDigits,dif_neg hq]
   simp
theorem itoR_elim (hz:¬T zz) {x:Int} {k:Nat→Nat→RR} (h:T (itoR x k)):∃l n,T (k l n)∧n<256^l∧sB l n=Lib.itoa x:=by
 cases x with
 |ofNat q=>
  obtain⟨l,n,g1,g2⟩:=digR_elim hz 20 q 0 0 (show T (digR 20 q 0 0 k)from h)
  obtain⟨a1,a2⟩:=g2 (by decide)
  refine⟨l,n,g1,a1,?_⟩
  rw[a2,Lib.itoa,if_neg (by simp;try omega)]
  simp[sB]
 |negSucc q=>
  have h1:T (fN (Nat.succ q) λq=>digR 20 q 0 0 λl n=>fN (n+45*256^l) λn=>fN (Nat.succ l) λl=>k l n):=h
  rw[fN_eq]at h1
  obtain⟨l,n,g1,g2⟩:=digR_elim hz 20 _ 0 0 h1
  rw[fN_eq,fN_eq]at g1
  obtain⟨a1,a2⟩:=g2 (by decide)
  have hlt:n+45*256^l<256^(l+1):=by rw[Nat.pow_succ];omega
  refine⟨l+1,n+45*256^l,g1,hlt,?_⟩
  rw[sB_cons hlt,Nat.add_mul_div_right _ _ (Nat.pow_pos (by decide)),Nat.div_eq_of_lt a1,Nat.zero_add,Nat.add_mul_mod_self_right,Nat.mod_eq_of_lt a1,a2,Lib.itoa,if_pos (by omega)]
  simp[sB,Int.natAbs]
theorem index_no {c:Nat} {l:List UInt8} (h:∀b∈l,b.toNat≠c) (hc:c<256):Lib.index l [UInt8.ofNat c]= -1:=by
 induction l with
 |nil=>rfl
 |cons b r ih=>
  have hb:=h b (by simp)
  unfold Lib.index
  rw[if_neg (by simp[List.isPrefixOf];rintro rfl;exact hb (by rw[UInt8.toNat_ofNat'];omega)),ih (λc hc=>h c (by simp[hc]))]
  rfl
theorem index_at {c:Nat} {l r:List UInt8} (h:∀b∈l,b.toNat≠c) (hc:c<256):Lib.index (l++UInt8.ofNat c::r) [UInt8.ofNat c]=l.length:=by
 induction l with
 |nil=>simp[Lib.index,List.isPrefixOf]
 |cons b l ih=>
  have hb:=h b (by simp)
  have hi:=ih (λc hc=>h c (by simp[hc]))
  rw[List.cons_append]
  unfold Lib.index
  rw[if_neg (by simp[List.isPrefixOf];rintro rfl;exact hb (by rw[UInt8.toNat_ofNat'];omega)),hi]
  rw[if_neg (by simp;try omega)]
  simp
theorem cut_no {c:Nat} {l:List UInt8} (h:∀b∈l,b.toNat≠c) (hc:c<256):Lib.cut l [UInt8.ofNat c]=(l,[],false):=by
 unfold Lib.cut
 rw[index_no h hc,if_neg (by decide)]
theorem cut_at {c:Nat} {l r:List UInt8} (h:∀b∈l,b.toNat≠c) (hc:c<256):Lib.cut (l++UInt8.ofNat c::r) [UInt8.ofNat c]=(l,r,true):=by
 unfold Lib.cut
 rw[index_at h hc,if_pos (by omega)]
 congr 1
 ·simp
 ·congr 1
  rw[show l++UInt8.ofNat c::r=(l++[UInt8.ofNat c])++r by simp]
  exact List.drop_left' (by simp)
theorem decFrom_app (d:Nat) (h:d<10):∀(l:List UInt8) (acc:Nat),Lib.decFrom acc (l++[UInt8.ofNat (48+d)])=(Lib.decFrom acc l).map λn=>n*10+d
 |[],acc=>by
  have:=digN d h
  simp only[List.nil_append,Lib.decFrom,Lib.digitVal,this]
  rw[if_pos (by omega)]
  simp
 |b::r,acc=>by
  simp only[List.cons_append,Lib.decFrom]
  cases Lib.digitVal b with
  |none=>rfl
  |some k=>exact decFrom_app d h r _
theorem decFrom_digits (N:Nat):Lib.decFrom 0 (Lib.decDigits N)=some N:=by
 induction N using Nat.strongRecOn with
 |ind N ih=>
  rw[Lib.decDigits]
  split
  ·rename_i h
   have:=decFrom_app N h [] 0
   simpa[Lib.decFrom]using this
  ·rename_i h
   rw[decFrom_app _ (Nat.mod_lt _ (by decide)),ih (N/10) (by omega)]
   simp;omega
theorem digits_all (N:Nat):∀b∈Lib.decDigits N,48≤b.toNat∧b.toNat≤57:=by
 induction N using Nat.strongRecOn with
 |ind N ih=>
  rw[Lib.decDigits]
  split
  ·rename_i h
   intro b hb
   rw[List.mem_singleton]at hb
   rw[hb,digN N h];omega
  ·rename_i h
   intro b hb
   rcases List.mem_append.1 hb with hb|hb
   ·exact ih (N/10) (by omega) b hb
   ·rw[List.mem_singleton]at hb
    rw[hb,digN _ (Nat.mod_lt _ (by decide))];omega
theorem digits_ne (N:Nat):Lib.decDigits N≠[]:=by
 rw[Lib.decDigits];split<;>simp
theorem atoi_itoa (k:Int):Lib.atoi (Lib.itoa k)=some k:=by
 have hne:=digits_ne k.natAbs
 have hda:=digits_all k.natAbs
 have hf:=decFrom_digits k.natAbs
 unfold Lib.itoa
 by_cases hk:k<0
 ·rw[if_pos hk]
  have he:(Lib.decDigits k.natAbs).isEmpty=false:=by cases hq:Lib.decDigits k.natAbs<;>simp_all
  simp[Lib.atoi,Lib.decNat,he,hf]
  omega
 ·rw[if_neg hk]
  have hkn:k.toNat=k.natAbs:=by omega
  rw[hkn]
  cases hq:Lib.decDigits k.natAbs with
  |nil=>exact absurd hq hne
  |cons b r=>
   rw[hq]at hda hf
   have hb:=hda b List.mem_cons_self
   have h45:b≠45:=by rintro rfl;revert hb;decide
   have h43:b≠43:=by rintro rfl;revert hb;decide
   simp[Lib.atoi,Lib.decNat,h45,h43,hf]
   omega
end
end Go.Ev
namespace Go.Ev
open Go.Shelf Go.Proofs Go.RowKit
def onGl (id b kd:Nat) (fz:Fz) (k:RR):RR:=
 Option.rec (motive:=λ_=>RR) zz (λcs=>uncons cs λx r=>x.onMk zz λt=>cond (Nat.beq t 0) (uncons r λx r=>x.onMk zz λp=>cond (Nat.beq p b) (uncons r λx r=>x.onMk zz λd=>cond (Nat.beq d kd) (noMore r k) zz) zz) zz) (fz id)
def onS1 (args:List AV) (k:Nat→Nat→RR):RR:=
 uncons args λx r=>noMore r (x.onOne zz λx=>x.onStr zz k)
def onSS (args:List AV) (k:Nat→Nat→Nat→RR):RR:=
 uncons args λx r=>uncons r λy r=>noMore r (x.onOne zz λx=>x.onStr zz λl s=>y.onOne zz λy=>y.onStr zz λl' c=>cond (Nat.beq l' 1) (cond (Nat.ble l 1000000) (cond (Nat.blt c 256) (k l s c) zz) zz) zz)
def cutK (b:Nat):Contract RR:=λargs fz mu n k=>onGl 0 b 0 fz (onSS args λl s c=>
 cutA c l s (k (.tp [.one (.str l s),.one (.str 0 0),.one (.bool false)]) mu n) (λql qn m r=>k (.tp [.one (.str ql qn),.one (.str m r),.one (.bool true)]) mu n))
def ctK:Contract RR:=λargs fz mu n k=>onSS args λl s c=>
 cutA c l s (k (.one (.bool false)) mu n) (λ_ _ _ _=>k (.one (.bool true)) mu n)
def splitK (b:Nat):Contract RR:=λargs fz mu n k=>onGl 0 b 0 fz (onSS args λl s c=>
 splitR c (Nat.succ l) l s 0 λlen cs=>fN (Nat.succ n) λn'=>k (.one (.osl n 0 len len 1)) ((n,cs)::mu) n')
def itK (b:Nat):Contract RR:=λargs fz mu n k=>onGl 2 b 2 fz (uncons args λx r=>noMore r (x.onOne zz λx=>x.onInt zz λkd i=>cond (IntKind.eqb kd .i64) (cond (ltI i (Int.ofNat 9223372036854775808)) (cond (ltI i (Int.negSucc 9223372036854775807)) zz (itoR i λl s=>k (.one (.str l s)) mu n)) zz) zz))
def ibK:Contract RR:=fun args fz mu n k=>
 uncons args λx r=>uncons r λy r=>noMore r (x.onOne zz λx=>x.onStr zz λl s=>y.onOne zz λy=>y.onInt zz λkd c=>cond (IntKind.eqb kd .u8) (Int.rec (motive:=λ_=>RR) (λc=>cond (Nat.blt c 256)
  (cutA c l s (k (.one (.int .i64 (Int.negSucc 0))) mu n) (λql _ _ _=>k (.one (.int .i64 (Int.ofNat ql))) mu n)) zz) (λ_=>zz) c) zz)
section
variable {T:RR→Prop} {P:Program} {val:Nat→Int} {fz:Fz} {ρ:Rho} {mu:St} {n:Nat} {w:World} {r:Ren}
theorem onGl_elim (hz:¬T zz) {id b kd:Nat} {k:RR} (h:T (onGl id b kd fz k)):fz id=some [.mk 0,.mk b,.mk kd]∧T k:=by
 obtain⟨cs,h1,h2⟩:=option_elim hz h
 obtain⟨x,l,rfl,h3⟩:=uncons_elim hz h2
 obtain⟨m,rfl,h4⟩:=onMk_elim hz h3
 obtain⟨h5,h6⟩:=cond_elim hz h4
 have e1:=beq_yes h5
 obtain⟨x1,l1,rfl,i3⟩:=uncons_elim hz h6
 obtain⟨m1,rfl,i4⟩:=onMk_elim hz i3
 obtain⟨i5,i6⟩:=cond_elim hz i4
 have e2:=beq_yes i5
 obtain⟨x2,l2,rfl,j3⟩:=uncons_elim hz i6
 obtain⟨m2,rfl,j4⟩:=onMk_elim hz j3
 obtain⟨j5,j6⟩:=cond_elim hz j4
 have e3:=beq_yes j5
 obtain⟨rfl,h7⟩:=noMore_elim hz j6
 rw[e1,e2,e3]at h1
 exact⟨h1,h7⟩
theorem glob_at (hr:Rel val ρ fz mu w) {id b kd:Nat} (h:fz id=some [.mk 0,.mk b,.mk kd]):∃C ty fr v,w.heap[b]?=some (.cells C ty fr)∧C[0]?=some v∧(kd=0∧(∃m,v=.int .i64 m)∨kd=1∧(v=.nilIface∨∃te pe,v=.iface te pe)∨kd=2∧C=(Lib.pow10Tab.map λz=>Value.int .u64 z).toArray):=by
 have h1:=(hr.rf id _ h).other rfl
 generalize hc:[SV.mk 0,.mk b,.mk kd]=cs at h1
 cases h1 with
 |map p agg v es ms clock=>
  injection hc with h2 h3
  injection h2 with h2
  have:=mtag_ne agg v;omega
 |text g l n C ty fr=>injection hc with h2 h3;injection h2 with h2;cases h2
 |bld p ty a s va vs=>injection hc with h2 h3;injection h2 with h2;cases h2
 |box p ty fr s v=>injection hc with h2 h3;injection h2 with h2;cases h2
 |glob p kd' C ty fr v hp hw hv hg=>
  simp only[List.cons.injEq,SV.mk.injEq,true_and,and_true]at hc
  obtain⟨rfl,rfl⟩:=hc
  exact⟨C,ty,fr,v,hw,hv,hg⟩
theorem glob_int (hr:Rel val ρ fz mu w) {id b:Nat} (h:fz id=some [.mk 0,.mk b,.mk 0]):∃m,w.cell? ⟨b,0,none⟩=some (.int .i64 m):=by
 obtain⟨C,ty,fr,v,h1,h2,⟨_,m,rfl⟩|⟨h3,_⟩|⟨h3,_⟩⟩:=glob_at hr h
 ·exact⟨m,by rw[Lib.cell_of_heap h1];exact h2⟩
 ·cases h3
 ·cases h3
theorem glob_err (hr:Rel val ρ fz mu w) {id b:Nat} (h:fz id=some [.mk 0,.mk b,.mk 1]):∃v,w.cell? ⟨b,0,none⟩=some v∧(v=.nilIface∨∃te pe,v=.iface te pe):=by
 obtain⟨C,ty,fr,v,h1,h2,⟨h3,_⟩|⟨_,h3⟩|⟨h3,_⟩⟩:=glob_at hr h
 ·cases h3
 ·exact⟨v,by rw[Lib.cell_of_heap h1];exact h2,h3⟩
 ·cases h3
theorem onSS_elim (hz:¬T zz) {args:List AV} {k:Nat→Nat→Nat→RR} (h:T (onSS args k)):∃l s c,args=[.one (.str l s),.one (.str 1 c)]∧l≤1000000∧c<256∧T (k l s c):=by
 obtain⟨x,r1,rfl,h1⟩:=uncons_elim hz h
 obtain⟨y,r2,rfl,h2⟩:=uncons_elim hz h1
 obtain⟨rfl,h3⟩:=noMore_elim hz h2
 obtain⟨x,rfl,h4⟩:=onOne_elim hz h3
 obtain⟨l,a,rfl,h5⟩:=onStr_elim hz h4
 obtain⟨y,rfl,h6⟩:=onOne_elim hz h5
 obtain⟨l',b,rfl,h7⟩:=onStr_elim hz h6
 obtain⟨e1,h8⟩:=cond_elim hz h7
 have:=beq_yes e1;subst this
 obtain⟨e2,h9⟩:=cond_elim hz h8
 obtain⟨e3,h10⟩:=cond_elim hz h9
 exact⟨l,a,b,rfl,Nat.le_of_ble_eq_true e2,by simpa[Nat.blt_eq]using e3,h10⟩
theorem ss_inv {l s c:Nat} {xs:List Value} (h:All2 (AVR val ρ w) [.one (.str l s),.one (.str 1 c)] xs):xs=[.string (sOf l s),.string (sOf 1 c)]∧s<256^l:=by
 match xs,h with
 |[x1,x2],hx=>
  obtain⟨hx1,hx2,_⟩:=hx
  obtain⟨ha,rfl⟩:=(show s<256^l∧x1=.string (sOf l s)from hx1)
  obtain⟨hb,rfl⟩:=(show c<256^1∧x2=.string (sOf 1 c)from hx2)
  exact⟨rfl,ha⟩
theorem sB_one (c:Nat):sB 1 c=[UInt8.ofNat c]:=rfl
theorem Like.drewN:∀(k:Nat) (w:World),Like w (w.drewN k):=by
 intro k w
 exact⟨rfl,rfl,rfl,rfl⟩
theorem cutK_ok (hz:¬T zz) (L:Lays.n145 P r):ContractOk T P val (r.f 145) (cutK (r.g 1)):=by
 intro args fz mu n k ht
 have hbody:hasBody P (r.f 145)=true:=by unfold hasBody;rw[L.f145];rfl
 obtain⟨hg,h1⟩:=onGl_elim hz ht
 obtain⟨l,s,c,rfl,hl,hc,h2⟩:=onSS_elim hz h1
 rcases cutA_elim h2 with⟨g1,g2⟩|⟨ql,qn,m,q,g1,_,g2⟩
 ·refine⟨_,_,_,g1,hbody,Nat.le_refl _,λρ w xs hr hx _=>?_⟩
  obtain⟨rfl,hs⟩:=ss_inv hx
  obtain⟨mx,hm⟩:=glob_int hr hg
  refine(Any.strings_Cut L (sOf l s) (sOf 1 c) mx w (by rw[sOf_size];omega) hm).mono λe w' ⟨he,nn,hw'⟩=>⟨_,he,?_⟩
  subst hw'
  rw[sOf_list,sOf_list,sB_one,cut_no (g2 hs) hc]
  exact(Stp.like hr (Like.drewN nn w)).post ⟨[_,_,_],rfl,⟨hs,rfl⟩,⟨by decide,rfl⟩,rfl,trivial⟩
 ·refine⟨_,_,_,g1,hbody,Nat.le_refl _,λρ w xs hr hx _=>?_⟩
  obtain⟨rfl,hs⟩:=ss_inv hx
  obtain⟨mx,hm⟩:=glob_int hr hg
  obtain⟨a1,a2,a3,a4⟩:=g2 hs
  refine(Any.strings_Cut L (sOf l s) (sOf 1 c) mx w (by rw[sOf_size];omega) hm).mono λe w' ⟨he,nn,hw'⟩=>⟨_,he,?_⟩
  subst hw'
  rw[sOf_list,sOf_list,sB_one,a3,cut_at a4 hc]
  exact(Stp.like hr (Like.drewN nn w)).post ⟨[_,_,_],rfl,⟨a1,rfl⟩,⟨a2,rfl⟩,rfl,trivial⟩
theorem ib_no {c:Nat} {l:List UInt8} (h:∀b∈l,b.toNat≠c) (hc:c<256):Lib.indexByte l (UInt8.ofNat c)= -1:=by
 induction l with
 |nil=>rfl
 |cons b l ih=>
  have hb:¬b=UInt8.ofNat c:=λe=>h b (by simp) (by rw[e,UInt8.toNat_ofNat'];omega)
  unfold Lib.indexByte
  rw[if_neg (by simpa using hb),ih λc hc=>h c (by simp[hc])]
  rfl
theorem ib_at {c:Nat} {l q:List UInt8} (h:∀b∈l,b.toNat≠c) (hc:c<256):Lib.indexByte (l++UInt8.ofNat c::q) (UInt8.ofNat c)=l.length:=by
 induction l with
 |nil=>simp[Lib.indexByte]
 |cons b l ih=>
  have hb:¬b=UInt8.ofNat c:=λe=>h b (by simp) (by rw[e,UInt8.toNat_ofNat'];omega)
  rw[List.cons_append]
  unfold Lib.indexByte
  rw[if_neg (by simpa using hb),ih λc hc=>h c (by simp[hc]),if_neg (by simp;try omega)]
  simp
theorem ctK_ok (hz:¬T zz) (L:Lays.n144 P r):ContractOk T P val (r.f 144) ctK:=by
 intro args fz mu n k ht
 have hbody:hasBody P (r.f 144)=true:=by unfold hasBody;rw[L.f144];rfl
 obtain⟨l,s,c,rfl,hl,hc,h2⟩:=onSS_elim hz ht
 rcases cutA_elim h2 with⟨g1,g2⟩|⟨ql,qn,m,q,g1,_,g2⟩
 ·refine⟨_,_,_,g1,hbody,Nat.le_refl _,λρ w xs hr hx _=>?_⟩
  obtain⟨rfl,hs⟩:=ss_inv hx
  refine(Any.strings_Contains_one L (sOf l s) (UInt8.ofNat c) w).mono λe w' ⟨he,hw'⟩=>⟨_,he,?_⟩
  subst hw'
  rw[sOf_list,ib_no (g2 hs) hc]
  exact post_same hr rfl
 ·refine⟨_,_,_,g1,hbody,Nat.le_refl _,λρ w xs hr hx _=>?_⟩
  obtain⟨rfl,hs⟩:=ss_inv hx
  obtain⟨a1,a2,a3,a4⟩:=g2 hs
  refine(Any.strings_Contains_one L (sOf l s) (UInt8.ofNat c) w).mono λe w' ⟨he,hw'⟩=>⟨_,he,?_⟩
  subst hw'
  rw[sOf_list,a3,ib_at a4 hc,decide_eq_true (by omega)]
  exact post_same hr rfl
theorem sOf_of {s:ByteArray} {l n:Nat} (h:s.data.toList=sB l n):s=sOf l n:=by
 show s=⟨(sB l n).toArray⟩
 rw[←h]
theorem pcs_split {c:Nat} {l s:Nat} {t:List SV} (h:Pcs c l s t) (hc:c<256) (hs:s<256^l):
 Lib.countB (sOf l s) (sOf 1 c)+1=t.length∧∃ps:List ByteArray,Lib.splitB (sOf 1 c) 0 (Lib.countB (sOf l s) (sOf 1 c)) (sOf l s)=ps∧ps.length=t.length∧∀(i:Nat) x,t[i]?=some x→∃p,ps[i]?=some p∧∀ρ w,VR val ρ w x (.string p):=by
 induction h with
 |last l n h=>
  have hi:Lib.indexB (sOf l n) (sOf 1 c)= -1:=by
   show Lib.index (sB l n) [UInt8.ofNat c]= -1
   exact index_no (h hs) hc
  rw[Lib.countB_miss _ _ hi]
  refine⟨rfl,_,Lib.splitB_miss _ _ _ _ hi,rfl,λi x hx=>?_⟩
  match i,hx with
  |0,hx=>cases hx;exact⟨_,rfl,λρ w=>⟨hs,rfl⟩⟩
 |more l n ql qn m q t h _ ih=>
  obtain⟨a1,a2,a3,a4⟩:=h hs
  obtain⟨i1,ps,i2,i3,i4⟩:=ih a2
  have hi:Lib.indexB (sOf l n) (sOf 1 c)=(ql:Nat):=by
   show Lib.index (sB l n) [UInt8.ofNat c]=_
   rw[a3,index_at a4 hc,sB_length]
  have h1:(1:Nat)≤(sOf 1 c).size:=by rw[sOf_size];exact Nat.le_refl _
  have hx:(sOf l n).extract (ql+(sOf 1 c).size) (sOf l n).size=sOf m q:=by
   have e:((sOf l n).extract (ql+(sOf 1 c).size) (sOf l n).size).data.toList=sB m q:=by
    have hlen:l=ql+1+m:=by
     have:=congrArg List.length a3
     simp[sB_length]at this
     omega
    rw[Lib.extract_data,sOf_list,a3,sOf_size,sOf_size,show sB ql qn++UInt8.ofNat c::sB m q=(sB ql qn++[UInt8.ofNat c])++sB m q by simp,List.drop_left' (by simp[sB_length]),List.take_of_length_le (by rw[sB_length];omega)]
   exact sOf_of e
  have hp:(sOf l n).extract 0 (ql+0)=sOf ql qn:=by
   have e:((sOf l n).extract 0 (ql+0)).data.toList=sB ql qn:=by
    rw[Lib.extract_data,sOf_list,a3]
    simp[sB_length]
   exact sOf_of e
  rw[Lib.countB_hit _ _ ql h1 hi,hx,Nat.add_comm 1]
  refine⟨by simp only[List.length_cons];omega,sOf ql qn::ps,?_,by simp[i3],λi x hx'=>?_⟩
  ·rw[Lib.splitB_hit _ _ _ _ ql hi,hx,hp,i2]
  ·match i,hx' with
   |0,hx'=>cases hx';exact⟨_,rfl,λρ w=>⟨a1,rfl⟩⟩
   |i+1,hx'=>exact i4 i x hx'
theorem splitK_ok (hz:¬T zz) (L:Lays.n146 P r) (hi9:(P.info? (r.t 9)).map (λi=>(i.zero,i.size,i.bytes))=some (some (.string ByteArray.empty),1,16)):ContractOk T P val (r.f 146) (splitK (r.g 1)):=by
 intro args fz mu n k ht
 have hbody:hasBody P (r.f 146)=true:=by unfold hasBody;rw[L.f146];rfl
 obtain⟨hg,h1⟩:=onGl_elim hz ht
 obtain⟨l,s,c,rfl,hl,hc,h2⟩:=onSS_elim hz h1
 obtain⟨t,hp,h3⟩:=splitR_elim hz _ _ _ _ h2
 rw[fN_eq,Nat.zero_add]at h3
 refine⟨_,_,_,h3,hbody,Nat.le_succ _,λρ w xs hr hx hf=>?_⟩
 obtain⟨rfl,hs⟩:=ss_inv hx
 obtain⟨mx,hm⟩:=glob_int hr hg
 obtain⟨e1,ps,e2,e3,e4⟩:=pcs_split (val:=val) hp hc hs
 refine(Any.strings_Split L hi9 (sOf l s) (sOf 1 c) mx w (by rw[sOf_size];omega) hm (by rw[sOf_size];exact Nat.le_refl _)).mono λe w' ⟨he,hw'⟩=>⟨_,he,?_⟩
 subst hw'
 rw[e1,e2]
 have hn:=hf n (Nat.le_refl _) (Nat.lt_succ_self _)
 obtain⟨b1,b2,b3,b4,b5,b6⟩:=new_block (n:=n) (cs:=t) (C:=(ps.map Value.string).toArray) (ty:=r.t 9) (Like.refl w) hr hn (by simp;omega) (λi x hx=>by
  obtain⟨p,hp,hv⟩:=e4 i x hx
  exact⟨.string p,by simp[hp],hv ρ w⟩)
 have hle:t.length≤l+1:=by
  have:=Lib.countB_le (sOf 1 c) (by rw[sOf_size];exact Nat.le_refl _) _ (sOf l s) (Nat.le_refl _)
  rw[sOf_size]at this
  omega
 refine⟨_,b1,b2,⟨(w.heap.size,0),t.length,upd_same _ _ _,rfl,Nat.le_refl _,Nat.le_refl _,?_,by omega⟩,b3,b4,b5⟩
 rw[b6];simp;omega
theorem ibK_ok (hz:¬T zz) (L:Lays.n137 P r):ContractOk T P val (r.f 137) ibK:=by
 intro args fz mu n k ht
 have hbody:hasBody P (r.f 137)=true:=by unfold hasBody;rw[L.f137];rfl
 obtain⟨x,r1,rfl,h1⟩:=uncons_elim hz ht
 obtain⟨y,r2,rfl,h2⟩:=uncons_elim hz h1
 obtain⟨rfl,h3⟩:=noMore_elim hz h2
 obtain⟨x,rfl,h4⟩:=onOne_elim hz h3
 obtain⟨l,s,rfl,h5⟩:=onStr_elim hz h4
 obtain⟨y,rfl,h6⟩:=onOne_elim hz h5
 obtain⟨kd,c,rfl,h7⟩:=onInt_elim hz h6
 obtain⟨e1,h8⟩:=cond_elim hz h7
 have:=eqb_eq e1;subst this
 cases c with
 |negSucc c=>exact(hz h8).elim
 |ofNat c=>
  obtain⟨e2,h9⟩:=cond_elim hz h8
  have hc:c<256:=by simpa[Nat.blt_eq]using e2
  have hcc:(Int.ofNat c).toNat.toUInt8=UInt8.ofNat c:=rfl
  have hxs:∀ρ w (xs:List Value),All2 (AVR val ρ w) [.one (.str l s),.one (.int .u8 (Int.ofNat c))] xs→xs=[.string (sOf l s),.int .u8 (Int.ofNat c)]∧s<256^l:=by
   intro ρ w xs hx
   match xs,hx with
   |[x1,x2],hx=>
    obtain⟨hx1,hx2,_⟩:=hx
    obtain⟨ha,rfl⟩:=(show s<256^l∧x1=.string (sOf l s)from hx1)
    have hx2:x2=.int .u8 (Int.ofNat c):=hx2
    subst hx2
    exact⟨rfl,ha⟩
  rcases cutA_elim h9 with⟨g1,g2⟩|⟨ql,qn,m,q,g1,_,g2⟩
  ·refine⟨_,_,_,g1,hbody,Nat.le_refl _,λρ w xs hr hx _=>?_⟩
   obtain⟨rfl,hs⟩:=hxs ρ w xs hx
   refine(Any.strings_IndexByte L (sOf l s) (Int.ofNat c) w).mono λe w' ⟨he,hw'⟩=>⟨_,he,?_⟩
   subst hw'
   rw[sOf_list,hcc,ib_no (g2 hs) hc]
   exact post_same hr rfl
  ·refine⟨_,_,_,g1,hbody,Nat.le_refl _,λρ w xs hr hx _=>?_⟩
   obtain⟨rfl,hs⟩:=hxs ρ w xs hx
   obtain⟨a1,a2,a3,a4⟩:=g2 hs
   refine(Any.strings_IndexByte L (sOf l s) (Int.ofNat c) w).mono λe w' ⟨he,hw'⟩=>⟨_,he,?_⟩
   subst hw'
   rw[sOf_list,hcc,a3,ib_at a4 hc,sB_length]
   exact post_same hr rfl
end
end Go.Ev
namespace Go.Ev
open Go.Kn Go.Conc
section
variable {R:Type} {T:R→Prop} {z:R} {P:Program} {val:Nat→Int} {fz:Fz} {orc:Orc R} {call:CallT R} {kp:Nat→Bool}
theorem spineB (hz:¬T z) (hc:CallSound T P val call) (hk:OrcOk T val orc) (hmx:P.follows .mixedOrders=true) {m:Muts} {fuel:Nat}:∀(l:List Code) {last:Code} {ac:ACode} {nx:BC} {tm:TM} {mu:St} {n:Nat} {k:AExit→TM→St→Nat→R},
 prepCode P m (l.foldr Code.seq last)=some ac→T (bcode orc z call fz fuel kp (flat ac nx) tm mu n k)→
 ∃e tm' mu' n',(e=.normal→∃acl,prepCode P m last=some acl∧T (bcode orc z call fz fuel kp (flat acl nx) tm' mu' n' k))∧(e≠.normal→T (k e tm' mu' n'))∧n≤n'∧
  ∀ρ w a,Rel val ρ fz mu w→TmR val ρ w tm a→FreshN ρ n n'→∀(y:Code) (Q:Exit→Act→World→Prop),
   (∀a' w',PostS val ρ fz mu n w a tm' mu' n' a' w'→Exit.then (WpN P y Q) Q e.toExit a' w')→WpN P (l.foldr Code.seq y) Q a w
 |[],last,ac,nx,tm,mu,n,k,hp,h=>⟨.normal,tm,mu,n,λ_=>⟨ac,hp,h⟩,λh=>(h rfl).elim,Nat.le_refl _,λρ w a hr ht _ y Q hQ=>hQ a w (PostS.refl hr ht)⟩
 |x::l,last,ac,nx,tm,mu,n,k,hp,h=>by
  have hp':prepCode P m (.seq x (l.foldr Code.seq last))=some ac:=hp
  simp only[prepCode]at hp'
  split at hp'
  ·rename_i ax ar hx hy
   cases hp'
   obtain⟨e,tm1,mu1,n1,h1,h2⟩:=bcode_sound hz hc hk hmx x hx (show T (bcode orc z call fz fuel kp (flat ax (flat ar nx)) tm mu n k)from h)
   cases e with
   |normal=>
    obtain⟨e2,tm2,mu2,n2,h3,h4,h5,h6⟩:=spineB hz hc hk hmx l hy (show T (bcode orc z call fz fuel kp (flat ar nx) tm1 mu1 n1 k)from h1)
    refine⟨e2,tm2,mu2,n2,h3,h4,Nat.le_trans h2.1 h5,λρ w a hr ht hf y Q hQ=>?_⟩
    refine wpN_seq (of_wp ?_)
    refine h2.2 ρ w a hr ht (hf.sub (Nat.le_refl _) h5) _ λa1 w1 hp=>?_
    obtain⟨d,ρ1,p1,p2,p3,p4,p5,p6⟩:=hp
    refine h6 ρ1 w1 a1 p2 p3 (hf.later p1 h2.1) y Q λa2 w2 hp2=>hQ a2 w2 ?_
    exact PostS.trans d p1 p4 p5 p6 h2.1 h5 hp2
   |exit id=>
    exact⟨.exit id,tm1,mu1,n1,(by intro h;cases h),λ_=>h1,h2.1,λρ w a hr ht hf y Q hQ=>wpN_seq (of_wp (h2.2 ρ w a hr ht hf _ λa1 w1 hp=>hQ a1 w1 hp))⟩
   |ret=>
    exact⟨.ret,tm1,mu1,n1,(by intro h;cases h),λ_=>h1,h2.1,λρ w a hr ht hf y Q hQ=>wpN_seq (of_wp (h2.2 ρ w a hr ht hf _ λa1 w1 hp=>hQ a1 w1 hp))⟩
  ·cases hp'
theorem front_run (hz:¬T z) (hc:CallSound T P val call) (hk:OrcOk T val orc) (hmx:P.follows .mixedOrders=true) {m:Muts} {fuel:Nat} {l:List Code} {id:Nat} {full:List Oper} {j:Nat} (hj:j≤full.length)
 (hsame:prepOpers P m (full.take j).toArray (full.take j)=prepOpers P m full.toArray (full.take j)) {ac:ACode} (hp:prepCode P m (l.foldr Code.seq (.region id (full.take j).toArray false))=some ac)
 {tm:TM} {mu:St} {n:Nat} {k:AExit→TM→St→Nat→R} (h:T (bcode orc z call fz fuel kp (flat ac .norm) tm mu n k)):
 ∃e tm' mu' n',T (k e tm' mu' n')∧n≤n'∧∀ρ w a,Rel val ρ fz mu w→TmR val ρ w tm a→FreshN ρ n n'→∀(y:Code) (Q:Exit→Act→World→Prop),
  (e≠.normal→∀a' w',PostS val ρ fz mu n w a tm' mu' n' a' w'→Q e.toExit a' w')→
  (e=.normal→∀a' w',PostS val ρ fz mu n w a tm' mu' n' a' w'→OpsTo P full.toArray (Exit.then (WpN P y Q) Q) (List.range' j (full.length-j)) a' w')→
  WpN P (l.foldr Code.seq (.seq (.region id full.toArray false) y)) Q a w:=by
 obtain⟨e,tm1,mu1,n1,h1,h2,h3,h4⟩:=spineB hz hc hk hmx l hp h
 cases e with
 |exit i=>
  refine⟨_,tm1,mu1,n1,h2 (by intro h;cases h),h3,λρ w a hr ht hf y Q q1 _=>h4 ρ w a hr ht hf _ Q λa' w' hp=>q1 (by intro h;cases h) a' w' hp⟩
 |ret=>
  refine⟨_,tm1,mu1,n1,h2 (by intro h;cases h),h3,λρ w a hr ht hf y Q q1 _=>h4 ρ w a hr ht hf _ Q λa' w' hp=>q1 (by intro h;cases h) a' w' hp⟩
 |normal=>
  obtain⟨acl,g1,g2⟩:=h1 rfl
  simp only[prepCode,List.toList_toArray]at g1
  split at g1
  ·rename_i al hal
   cases g1
   rw[hsame]at hal
   obtain⟨tm2,mu2,n2,i1,i2,i3⟩:=runKf_sound (P:=P) (val:=val) hz hc hk (prepOpers_R hal) (show T (runKf orc z call fz kp al 10 tm1 mu1 n1 λtm mu n=>bcode orc z call fz fuel kp .norm (cond (BC.norm).tst tm (fg kp tm)) mu n k)from g2)
   refine⟨.normal,_,mu2,n2,i1,Nat.le_trans h3 i2,λρ w a hr ht hf y Q _ q2=>?_⟩
   refine h4 ρ w a hr ht (hf.sub (Nat.le_refl _) i2) _ Q λa1 w1 hp=>?_
   show WpN P (.seq (.region id full.toArray false) y) Q a1 w1
   obtain⟨d,ρ1,p1,p2,p3,p4,p5,p6⟩:=hp
   refine wpN_seq (wpN_cut j hj ?_)
   refine i3 ρ1 w1 a1 p2 p3 (hf.later p1 h3) _ λa2 w2 hp2=>.inl ⟨rfl,?_⟩
   exact q2 rfl a2 w2 (PostS.trans d p1 p4 p5 p6 h3 i2 (fgC kp (BC.norm).tst hp2))
  ·cases g1;exact(hz g2).elim
end
end Go.Ev
namespace Go.Ev
open Go.Shelf Go.Proofs Go.RowKit
def gFz (b0 b1 b2:Nat):Fz
 |0=>some [.mk 0,.mk b0,.mk 0]
 |1=>some [.mk 0,.mk b1,.mk 1]
 |2=>some [.mk 0,.mk b2,.mk 2]
 |_+3=>none
def gRho (b0 b1 b2:Nat):Rho
 |0=>some (b0,0)
 |1=>some (b1,0)
 |2=>some (b2,0)
 |_+3=>none
def GAt (w:World) (b kd:Nat):Prop:=∃C ty fr v,w.heap[b]?=some (.cells C ty fr)∧C[0]?=some v∧(kd=0∧(∃m,v=.int .i64 m)∨kd=1∧(v=.nilIface∨∃te pe,v=.iface te pe)∨kd=2∧C=(Lib.pow10Tab.map λz=>Value.int .u64 z).toArray)
structure GW (b0 b1 b2:Nat) (w:World):Prop where
 c0:GAt w b0 0
 c1:GAt w b1 1
 c2:GAt w b2 2
section
variable {T:RR→Prop} {P:Program} {val:Nat→Int} {fz:Fz} {ρ:Rho} {mu:St} {n:Nat} {w:World} {r:Ren} {b0 b1 b2:Nat}
theorem GAt.own {b kd id:Nat} (h:GAt w b kd) (hp:ρ id=some (b,0)):OwnF val ρ w id [.mk 0,.mk b,.mk kd]:=by
 obtain⟨C,ty,fr,v,h1,h2,h3⟩:=h
 exact .inr (.glob b kd C ty fr v hp h1 h2 h3)
theorem GW.rel (h:GW b0 b1 b2 w):Rel val (gRho b0 b1 b2) (gFz b0 b1 b2) [] w:=by
 have h1:∀id cs,gFz b0 b1 b2 id=some cs→OwnF val (gRho b0 b1 b2) w id cs:=by
  intro id cs hf
  match id,hf with
  |0,hf=>cases hf;exact h.c0.own rfl
  |1,hf=>cases hf;exact h.c1.own rfl
  |2,hf=>cases hf;exact h.c2.own rfl
  |_+3,hf=>cases hf
 exact⟨h1,λid cs h=>(by cases h),λid cs h=>(by cases h),λid id' p p' h=>(by cases h)⟩
theorem gRho_fresh (n':Nat):FreshN (gRho b0 b1 b2) 3 n':=λid h1 _=>by
 match id,h1 with
 |id+3,_=>rfl
def SaysTrueG (P:Program) (b0 b1 b2 f:Nat):Prop:=∀w,GW b0 b1 b2 w→Calls P f #[] w λe w'=>e=.returned (.bool true)∧Fr (λ_=>none) [] w w'
theorem fr_any {ρ ρ':Rho} {w w':World} (h:Fr ρ [] w w'):Fr ρ' [] w w':=⟨h.os,h.tape,h.output,h.size,λb hb _=>h.keep b hb λid p hl=>(by cases hl),h.shape⟩
theorem lawG (hz:¬T zz) {orc:Orc RR} {K:Nat→Option (Contract RR)} {F:HTree} {depth f:Nat} {args:List AV} (hR:∀v mu n,T (isR v mu n)→v=.one (.bool true)) (hk:OrcOk T val orc) (hmx:P.follows .mixedOrders=true)
 (hK:∀f c,K f=some c→ContractOk T P val f c) (hF:F.Ok P) (h:T (hcall orc K F.find depth f args (gFz b0 b1 b2) [] 3 isR)) (w:World) (hw:GW b0 b1 b2 w) (xs:List Value) (hx:All2 (AVR val (gRho b0 b1 b2) w) args xs):
 Calls P f xs.toArray w λe w'=>e=.returned (.bool true)∧Fr (λ_=>none) [] w w':=by
 obtain⟨v,mu',n',h1,_,h2,h3⟩:=hcall_sound (T:=T) hz hk hmx hK (HTree.ok hF) depth f args (gFz b0 b1 b2) [] 3 isR h
 have:=hR _ _ _ h1
 subst this
 refine(h3 (gRho b0 b1 b2) w xs hw.rel hx (gRho_fresh _)).mono λe w' ⟨x,e1,ρ',p1,p2,p3,p4,p5,p6⟩=>?_
 subst e1
 have hx:x=.bool true:=p3
 subst hx
 exact⟨rfl,fr_any p4⟩
end
end Go.Ev
