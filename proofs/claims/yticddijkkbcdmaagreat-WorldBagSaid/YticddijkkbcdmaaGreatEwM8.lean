/-
  The evaluator: contracts of the library.
-/
import Derived.Test.YticddijkkbcdmaaGreatEwM7
import Derived.Shelf.Strings.BuilderK
import Derived.Shelf.SlIterI.Nil
import Derived.Shelf.SortM.Plain
import Derived.Shelf.SortM.SortNone
import Derived.Shelf.SlMaps.Clone
import Derived.Shelf.Small.Strs
import Derived.Maps.RangeRun
import Derived.Maps.RangeWalk
import Derived.WalkKit
import Derived.Laws.Bits64
import Derived.RangeFuncNested
import Derived.RangeFuncBound
import Derived.RangeFuncCalls
import Derived.RangeFuncLeaves
set_option linter.unusedVariables false
set_option linter.unusedSimpArgs false
noncomputable section
namespace Go.Proofs
open Go.Shelf Go.RowKit
variable {P:Program} {ρ:Ren}
def BldUsed (T b:Nat) (va v:Value) (w w1:World):Prop:=
 w.heap[b]?=some (.cells #[va,v] T (0,0))∧(va=.pointer none∧w1=w.setCell ⟨b,0,none⟩ (.pointer (some ⟨b,0,none⟩))∨va=.pointer (some ⟨b,0,none⟩)∧w1=w)
theorem BldUsed.behind {T b:Nat} {va v:Value} {w w1:World} (h:BldUsed T b va v w w1):w1.heap[b]?=some (.cells #[.pointer (some ⟨b,0,none⟩),v] T (0,0)):=by
 obtain⟨h1,⟨_,rfl⟩|⟨rfl,rfl⟩⟩:=h
 ·simp only[World.setCell,Array.getElem?_modify,if_true,h1]
  rfl
 ·exact h1
theorem Any.bld_check (L:Lays.n240 P ρ) (X:Builder.X72 P ρ) {b:Nat} {va v:Value} {w w1:World} (h:BldUsed (ρ.t 72) b va v w w1):
 Calls P (ρ.f 240) #[.pointer (some ⟨b,0,none⟩)] w λe w'=>e=.returned (.tuple #[])∧w'=w1:=by
 obtain⟨h1,⟨rfl,rfl⟩|⟨rfl,rfl⟩⟩:=h
 ·exact Any.Builder_copyCheck_fresh L X b w (by rw[Lib.cell_of_heap h1];rfl) (by simp[World.shape?,h1]) (Lib.frozen_of_heap h1 0)
 ·exact Any.Builder_copyCheck_used L X b w1 (by rw[Lib.cell_of_heap h1];rfl)
theorem wpList_append_run {ops:Array Oper} {rest:List Oper} {o:Oper} {a:Act} {w w':World} {Q:Exit→Act→World→Prop} (hgd:o.guard=none) (sl x:Operand) (t u:TypeId)
 (ho:o.op=.call {callee:=.builtin .append,args:=#[sl,x],argTypes:=#[t,u]}) (v y v':Value) (hs:a.eval sl=v) (hx:a.eval x=y)
 (hr:(Builtin.append_ #[t,u] o.type #[v,y]).run P w=.ok v' w') (h:wpList P ops Q rest (a.put o.dst v') w'):wpList P ops Q (o::rest) a w:=by
 refine wpList_plain hgd λK hK=>?_
 unfold Oper.wp execOp
 simp only[ho,resolve,invoke,builtin,Sem.run_bind,Sem.run_pure,Result.andThen_ok,List.map_toArray,List.map_cons,List.map_nil,hs,hx,hr]
 exact hK _ _ h
set_option maxHeartbeats 2000000 in
set_option maxRecDepth 100000 in
theorem Any.bld_write (L:Lays.n166 P ρ) (X:Builder.Extra P ρ) {b:Nat} {va v:Value} {w w1:World} (h:BldUsed (ρ.t 72) b va v w w1) (s:ByteArray) {ao:Option Addr} {n' cap:Nat} {w2:World} {v2:Value}
 (happ:(Builtin.append_ #[ρ.t 37,ρ.t 9] (ρ.t 37) #[v,.string s]).run P w1=.ok (.slice ao n' cap) w2) (hb2:w2.heap[b]?=some (.cells #[.pointer (some ⟨b,0,none⟩),v2] (ρ.t 72) (0,0))):
 Calls P (ρ.f 166) #[.pointer (some ⟨b,0,none⟩),.string s] w λe w'=>e=.returned (.tuple #[.int .i64 s.size,.nilIface])∧w'=w2.setCell ⟨b,1,none⟩ (.slice ao n' cap):=by
 have mixed:=L.mixed
 have t72:=L.t72;have a72:=L.a72;have z72:=L.z72;have v72:=L.v72;have u72:=run_underlying L.t72
 have t70:=L.t70;have a70:=L.a70;have z70:=L.z70;have v70:=L.v70;have u70:=run_underlying L.t70
 have t37:=L.t37;have a37:=L.a37;have z37:=L.z37;have v37:=L.v37;have u37:=run_underlying L.t37
 have t3:=L.t3;have a3:=L.a3;have z3:=L.z3;have v3:=L.v3;have u3:=run_underlying L.t3
 have t9:=L.t9;have a9:=L.a9;have z9:=L.z9;have v9:=L.v9;have u9:=run_underlying L.t9
 have t4:=L.t4;have a4:=L.a4;have z4:=L.z4;have v4:=L.v4;have u4:=run_underlying L.t4
 have t164:=L.t164;have a164:=L.a164;have z164:=L.z164;have v164:=L.v164;have u164:=run_underlying L.t164
 have t5:=X.t5;have a5:=X.a5;have z5:=X.z5;have v5:=X.v5;have u5:=run_underlying X.t5
 have hbk:=h.behind
 have e240:∀args w,(callFunc (ρ.f 240) args).run P w=.ok (.enter (ρ.f 240) args) w:=enters_of L.f240 (by kernel_rfl) rfl
 go_enter L.f166,Body.n166_ntmps ρ
 go_wp2_with (go_at_fn (ρ.f 240);refine(Any.bld_check {L with} X.toX72 h).mono ?_)
 rintro e w3 ⟨rfl,rfl⟩
 have c0:w3.cell? ⟨b,0,none⟩=some (.pointer (some ⟨b,0,none⟩)):=by rw[Lib.cell_of_heap hbk];rfl
 have c1:w3.cell? ⟨b,1,none⟩=some v:=by rw[Lib.cell_of_heap hbk];rfl
 have d0:w2.cell? ⟨b,0,none⟩=some (.pointer (some ⟨b,0,none⟩)):=by rw[Lib.cell_of_heap hb2];rfl
 have d1:w2.cell? ⟨b,1,none⟩=some v2:=by rw[Lib.cell_of_heap hb2];rfl
 have f1:w2.frozen? ⟨b,1,none⟩=false:=Lib.frozen_of_heap hb2 1
 go_wp2_with (at_builtin;refine wpList_append_run rfl _ _ (ρ.t 37) (ρ.t 9) rfl v _ _ rfl rfl happ ?_)
 go_wp2
 go_ret2
 exact⟨rfl,rfl⟩
set_option maxHeartbeats 2000000 in
set_option maxRecDepth 100000 in
theorem Any.bld_string_nil (L:Lays.n169 P ρ) (X:Builder.Extra P ρ) {b:Nat} {va:Value} {w:World} (hbk:w.heap[b]?=some (.cells #[va,.slice none 0 0] (ρ.t 72) (0,0))):
 Calls P (ρ.f 169) #[.pointer (some ⟨b,0,none⟩)] w λe w'=>e=.returned (.string ⟨#[]⟩)∧w'=w.drew:=by
 have hUS:=Any.unsafeString_none L X
 have c1:w.drew.cell? ⟨b,1,none⟩=some (.slice none 0 0):=by
  have:w.drew.heap[b]?=some (.cells #[va,.slice none 0 0] (ρ.t 72) (0,0)):=hbk
  rw[Lib.cell_of_heap this];rfl
 have hSD:(Builtin.unsafeSliceData_ #[(ρ.t 37)] (ρ.t 127) #[.slice none 0 0]).run P w.drew=.ok (.pointer none) w.drew:=rfl
 have mixed:=L.mixed
 have t72:=L.t72;have a72:=L.a72;have z72:=L.z72;have v72:=L.v72;have u72:=run_underlying L.t72
 have t70:=L.t70;have a70:=L.a70;have z70:=L.z70;have v70:=L.v70;have u70:=run_underlying L.t70
 have t37:=L.t37;have a37:=L.a37;have z37:=L.z37;have v37:=L.v37;have u37:=run_underlying L.t37
 have t127:=L.t127;have a127:=L.a127;have z127:=L.z127;have v127:=L.v127;have u127:=run_underlying L.t127
 have t3:=L.t3;have a3:=L.a3;have z3:=L.z3;have v3:=L.v3;have u3:=run_underlying L.t3
 have t9:=L.t9;have a9:=L.a9;have z9:=L.z9;have v9:=L.v9;have u9:=run_underlying L.t9
 have t5:=X.t5;have a5:=X.a5;have z5:=X.z5;have v5:=X.v5;have u5:=run_underlying X.t5
 go_enter L.f169,Body.n169_ntmps ρ
 go_wp2
 go_region_o
 all_goals (go_wp2;go_ret;exact⟨rfl,rfl⟩)
set_option maxHeartbeats 1000000 in
set_option maxRecDepth 100000 in
theorem Any.bld_string (L:Lays.n169 P ρ) (X:Builder.Extra P ρ) {b g cap:Nat} {va:Value} {l:List UInt8} {cur:Array Value} {fz:Nat×Nat} {w:World} (hbk:w.heap[b]?=some (.cells #[va,.slice (some ⟨g,0,none⟩) l.length cap] (ρ.t 72) (0,0))) (h0:l≠[])
 (hg:w.heap[g]?=some (.cells cur (ρ.t 5) fz)) (hcap:l.length≤cap) (hcm:cap≤maxLen) (hcs:l.length≤cur.size) (hcells:∀(j:Nat) (x:UInt8),l[j]?=some x→cur[j]?=some (.int .u8 x.toNat)):
 Calls P (ρ.f 169) #[.pointer (some ⟨b,0,none⟩)] w λe w'=>e=.returned (.string ⟨l.toArray⟩)∧w'=w.drew.freeze ⟨g,0,none⟩ l.length:=by
 have hl0:l.length≠0:=by simpa using h0
 have c1:w.drew.cell? ⟨b,1,none⟩=some (.slice (some ⟨g,0,none⟩) l.length cap):=by
  have:w.drew.heap[b]?=some (.cells #[va,.slice (some ⟨g,0,none⟩) l.length cap] (ρ.t 72) (0,0)):=hbk
  rw[Lib.cell_of_heap this];rfl
 have hSD:(Builtin.unsafeSliceData_ #[(ρ.t 37)] (ρ.t 127) #[.slice (some ⟨g,0,none⟩) l.length cap]).run P w.drew=.ok (.pointer (some ⟨g,0,none⟩)) w.drew:=
  Lib.run_unsafeSliceData_row _ _ _ _ _ _ (by omega)
 have hUS:(Builtin.unsafeString_ #[(ρ.t 127),(ρ.t 3)] (ρ.t 9) #[.pointer (some ⟨g,0,none⟩),.int .i64 l.length]).run P w.drew=.ok (.string ⟨l.toArray⟩) (w.drew.freeze ⟨g,0,none⟩ l.length):=by
  refine Lib.run_unsafeString_row w.drew (ρ.t 127) (ρ.t 3) (ρ.t 9) (ρ.t 5) L.t127 X.cellsByte g cur.size (by have hg':w.drew.heap[g]?=some (.cells cur (ρ.t 5) fz):=hg;simp[World.shape?,hg']) l h0 hcs (by unfold maxLen at hcm;omega) ?_
  intro j x hx
  have hg':w.drew.heap[g]?=some (.cells cur (ρ.t 5) fz):=hg
  have e:(⟨g,0,none⟩:Addr).add j=⟨g,j,none⟩:=by unfold Addr.add;split<;>simp_all
  rw[e,Lib.cell_of_heap hg']
  exact hcells j x hx
 have mixed:=L.mixed
 have t72:=L.t72;have a72:=L.a72;have z72:=L.z72;have v72:=L.v72;have u72:=run_underlying L.t72
 have t70:=L.t70;have a70:=L.a70;have z70:=L.z70;have v70:=L.v70;have u70:=run_underlying L.t70
 have t37:=L.t37;have a37:=L.a37;have z37:=L.z37;have v37:=L.v37;have u37:=run_underlying L.t37
 have t127:=L.t127;have a127:=L.a127;have z127:=L.z127;have v127:=L.v127;have u127:=run_underlying L.t127
 have t3:=L.t3;have a3:=L.a3;have z3:=L.z3;have v3:=L.v3;have u3:=run_underlying L.t3
 have t9:=L.t9;have a9:=L.a9;have z9:=L.z9;have v9:=L.v9;have u9:=run_underlying L.t9
 have t5:=X.t5;have a5:=X.a5;have z5:=X.z5;have v5:=X.v5;have u5:=run_underlying X.t5
 go_enter L.f169,Body.n169_ntmps ρ
 go_wp2
 go_region_o
 all_goals (go_wp2;go_ret;exact⟨rfl,rfl⟩)
end Go.Proofs
namespace Go.Ev
section
variable {val:Nat→Int} {fz:Fz}
structure Stp (val:Nat→Int) (fz:Fz) (ρ:Rho) (mu:St) (n:Nat) (w:World) (ρ':Rho) (mu':St) (n':Nat) (w':World):Prop where
 le:n≤n'
 ext:Ext ρ ρ' n n'
 rel:Rel val ρ' fz mu' w'
 fr:Fr ρ mu w w'
 nb:NewB ρ ρ' mu mu' w
 ni:NewI mu mu' n n'
variable {ρ ρ' ρ'':Rho} {mu mu' mu'':St} {n n' n'':Nat} {w w' w'':World}
theorem Stp.refl (hr:Rel val ρ fz mu w):Stp val fz ρ mu n w ρ mu n w:=⟨Nat.le_refl _,Ext.refl _ _ _,hr,Fr.refl _ _ _,NewB.refl,NewI.refl⟩
theorem Stp.trans (h:Stp val fz ρ mu n w ρ' mu' n' w') (k:Stp val fz ρ' mu' n' w' ρ'' mu'' n'' w''):Stp val fz ρ mu n w ρ'' mu'' n'' w'':=
 ⟨Nat.le_trans h.le k.le,h.ext.trans k.ext h.le k.le,k.rel,h.fr.trans h.nb k.fr,h.nb.trans k.nb h.fr.size,h.ni.trans k.ni h.le k.le⟩
theorem Stp.sub (h:Stp val fz ρ mu n w ρ' mu' n' w') (hs:∀id c,look mu'' id=some c→look mu' id=some c):Stp val fz ρ mu n w ρ' mu'' n' w':=
 ⟨h.le,h.ext,h.rel.sub hs,h.fr,h.nb.sub hs,h.ni.sub hs⟩
theorem Stp.post (h:Stp val fz ρ mu n w ρ' mu' n' w') {v:AV} {x:Value} (hv:AVR val ρ' w' v x):Post val ρ fz mu n w v mu' n' x w':=⟨ρ',h.ext,h.rel,hv,h.fr,h.nb,h.ni⟩
theorem Stp.like (hr:Rel val ρ fz mu w) (hl:Like w w'):Stp val fz ρ mu n w ρ mu n w':=⟨Nat.le_refl _,Ext.refl _ _ _,hr.like hl,hl.fr,NewB.refl,NewI.refl⟩
theorem Stp.put {id:Nat} {cs cs':List SV} {p:Nat×Nat} (hr:Rel val ρ fz mu w) (hl:look mu id=some cs) (hp:ρ id=some p) (hos:w'.os=w.os) (htp:w'.tape=w.tape) (hou:w'.output=w.output)
 (hsz:w'.heap.size=w.heap.size) (hother:∀b,b≠p.1→w'.heap[b]?=w.heap[b]?) (hbs:∀b,bsize w b≤bsize w' b) (hown:OwnG val ρ w' id cs'):
 Stp val fz ρ mu n w ρ (putS mu id cs') n w':=
 let⟨a1,a2,a3,a4⟩:=put_blockW hr hl hp hos htp hou hsz hother hbs hown
 ⟨Nat.le_refl _,Ext.refl _ _ _,a1,a2,a3,a4⟩
theorem Stp.new {cs:List SV} (hos:w'.os=w.os) (htp:w'.tape=w.tape) (hou:w'.output=w.output) (hsz:w'.heap.size=w.heap.size+1) (hold:∀b,b<w.heap.size→w'.heap[b]?=w.heap[b]?)
 (hr:Rel val ρ fz mu w) (hn:ρ n=none) (hown:(∀b,bsize w b≤bsize w' b)→OwnG val (upd ρ n (w.heap.size,0)) w' n cs):Stp val fz ρ mu n w (upd ρ n (w.heap.size,0)) ((n,cs)::mu) (n+1) w':=
 let⟨a1,a2,a3,a4,a5⟩:=new_blockW hos htp hou hsz hold hr hn hown
 ⟨Nat.le_succ _,a1,a2,a3,a4,a5⟩
theorem Stp.kill (hr:Rel val ρ fz mu w) (id:Nat):Stp val fz ρ mu n w ρ (killS mu id) n w:=
 (Stp.refl hr).sub λa c h=>by
  rw[look_killS]at h
  split at h
  ·cases h
  ·exact h
theorem Stp.move {id:Nat} {cs cs':List SV} {p:Nat×Nat} {oo:Nat} (hr:Rel val ρ fz mu w) (hl:look mu id=some cs) (hp:ρ id=some p) (hn:ρ n=none) (hos:w'.os=w.os) (htp:w'.tape=w.tape) (hou:w'.output=w.output)
 (hsz:w'.heap.size=w.heap.size) (hother:∀b,b≠p.1→w'.heap[b]?=w.heap[b]?) (hbs':∀b,bsize w b≤bsize w' b) (hown:OwnG val (upd ρ n (p.1,oo)) w' n cs'):
 Stp val fz ρ mu n w (upd ρ n (p.1,oo)) ((n,cs')::killS mu id) (n+1) w':=by
 have hup:=λid r hq=>upd_old (p:=(p.1,oo)) hn id r hq
 have hfn:fz n=none:=by
  cases e:fz n with
  |none=>rfl
  |some c=>obtain⟨p,o,h1,_⟩:=(hr.rf n c e).at;rw[hn]at h1;cases h1
 have keepOwn:∀id' c,id'≠id→((look mu id').isSome∨(fz id').isSome)→OwnG val ρ w id' c→OwnG val (upd ρ n (p.1,oo)) w' id' c:=by
  intro id' c hne hlv hown
  refine hown.mono hup hbs' λq hq=>hother _ λe=>hne ?_
  exact(hr.dj id id' p q (by simp[hl]) hlv hp hq e.symm).symm
 have keepF:∀id' c,id'≠id→((look mu id').isSome∨(fz id').isSome)→OwnF val ρ w id' c→OwnF val (upd ρ n (p.1,oo)) w' id' c:=by
  intro id' c hne hlv hown
  refine hown.mono hup hbs' λq hq=>hother _ λe=>hne ?_
  exact(hr.dj id id' p q (by simp[hl]) hlv hp hq e.symm).symm
 have hlk:∀id' c,look ((n,cs')::killS mu id) id'=some c→id'=n∧c=cs'∨id'≠n∧id'≠id∧look mu id'=some c:=by
  intro id' c h
  rw[look_cons]at h
  by_cases e:n=id'
  ·simp only[e,if_true,Option.some.injEq]at h;exact .inl ⟨e.symm,h.symm⟩
  ·simp only[e,if_false,look_killS]at h
   split at h
   ·cases h
   ·rename_i e2;exact .inr ⟨λx=>e x.symm,λx=>e2 x.symm,h⟩
 refine⟨Nat.le_succ _,upd_ext hn,⟨λid' c h=>?_,λid' c h=>?_,λid' c h=>?_,λa b q q' ha hb hq hq' he=>?_⟩,
  ⟨hos,htp,hou,by omega,λb _ hb=>hother b λe=>hb id p (by simp[hl]) hp e.symm,hbs'⟩,λa q ha hq=>?_,λa ha=>?_⟩
 ·refine keepF id' c (λe=>?_) (.inr (by simp[h])) (hr.rf id' c h)
  subst e;have:=hr.dm id' cs hl;rw[this]at h;cases h
 ·rcases hlk id' c h with⟨rfl,rfl⟩|⟨e1,e2,e3⟩
  ·exact hown
  ·exact keepOwn id' c e2 (.inl (by simp[e3])) (hr.rm id' c e3)
 ·rcases hlk id' c h with⟨rfl,rfl⟩|⟨e1,e2,e3⟩
  ·exact hfn
  ·exact hr.dm id' c e3
 ·have key:∀a r,((look ((n,cs')::killS mu id) a).isSome∨(fz a).isSome)→upd ρ n (p.1,oo) a=some r→a=n∧r.1=p.1∨a≠n∧a≠id∧ρ a=some r∧((look mu a).isSome∨(fz a).isSome):=by
   intro a r h hq
   by_cases e:a=n
   ·left;subst e;rw[upd_same]at hq;cases hq;exact⟨rfl,rfl⟩
   ·right
    have hq2:ρ a=some r:=by simpa[upd,e]using hq
    rcases h with h|h
    ·obtain⟨c,hc⟩:=Option.isSome_iff_exists.1 h
     rcases hlk a c hc with⟨x,_⟩|⟨_,x2,x3⟩
     ·exact(e x).elim
     ·exact⟨e,x2,hq2,.inl (by simp[x3])⟩
    ·refine⟨e,λx=>?_,hq2,.inr h⟩
     subst x;have:=hr.dm a cs hl;rw[this]at h;cases h
  rcases key a q (.inl ha) hq with⟨x1,x2⟩|⟨x1,x2,x3,x4⟩
  ·rcases key b q' hb hq' with⟨y1,y2⟩|⟨y1,y2,y3,y4⟩
   ·rw[x1,y1]
   ·exact(y2 (hr.dj id b p q' (by simp[hl]) y4 hp y3 (by omega)).symm).elim
  ·rcases key b q' hb hq' with⟨y1,y2⟩|⟨y1,y2,y3,y4⟩
   ·exact(x2 (hr.dj id a p q (by simp[hl]) x4 hp x3 (by omega)).symm).elim
   ·have hm:(look mu a).isSome:=by
     obtain⟨c,hc⟩:=Option.isSome_iff_exists.1 ha
     rcases hlk a c hc with⟨x,_⟩|⟨_,_,z3⟩
     ·exact(x1 x).elim
     ·simp[z3]
    exact hr.dj a b q q' hm y4 x3 y3 he
 ·obtain⟨c,hc⟩:=Option.isSome_iff_exists.1 ha
  rcases hlk a c hc with⟨rfl,_⟩|⟨x1,x2,x3⟩
  ·rw[upd_same]at hq;cases hq
   exact .inr ⟨id,p,by simp[hl],hp,rfl⟩
  ·exact .inr ⟨a,q,by simp[x3],by simpa[upd,x1]using hq,rfl⟩
 ·obtain⟨c,hc⟩:=Option.isSome_iff_exists.1 ha
  rcases hlk a c hc with⟨rfl,_⟩|⟨x1,x2,x3⟩
  ·exact .inr ⟨Nat.le_refl _,Nat.lt_succ_self _⟩
  ·exact .inl (by simp[x3])
end
end Go.Ev
namespace Go.Ev
open Go.Shelf Go.Proofs
def uncons {α:Type} (l:List α) (k:α→List α→RR):RR:=List.rec (motive:=λ_=>RR) zz (λh t _=>k h t) l
def noMore {α:Type} (l:List α) (k:RR):RR:=List.rec (motive:=λ_=>RR) k (λ_ _ _=>zz) l
def onBld (t:Nat) (mu:St) (b:Nat) (k:SV→SV→RR):RR:=
 Option.rec (motive:=λ_=>RR) zz (λcs=>uncons cs λh l=>h.onMk zz λm=>cond (Nat.beq m 3) (uncons l λh l=>h.onMk zz λm=>cond (Nat.beq m t) (uncons l λa l=>uncons l λs l=>noMore l (k a s)) zz) zz) (look mu b)
def onTxt (e:Nat) (mu:St) (g:Nat) (k:Nat→Nat→RR):RR:=
 Option.rec (motive:=λ_=>RR) zz (λcs=>uncons cs λh l=>h.onMk zz λm=>cond (Nat.beq m 2) (uncons l λs l=>s.onStr zz λlen n=>uncons l λh l=>h.onMk zz λm=>cond (Nat.beq m e) (noMore l (k len n)) zz) zz) (look mu g)
def onBuf (s:SV) (kn:RR) (ks:Nat→Nat→RR):RR:=
 SV.rec (motive:=λ_=>RR) zz (λ_ _=>zz) (λ_=>zz) (λ_ _=>zz) kn zz zz (λ_ _=>zz) (λg off len _ s=>cond (Nat.beq off 0) (cond (Nat.beq s 1) (ks g len) zz) zz) zz zz (λ_ _=>zz) (λ_ _=>zz) zz (λ_=>zz) zz (λ_=>zz) s
def bldOf (t:Nat) (b:Nat) (s:SV):List SV:=[.mk 3,.mk t,.optr b 0,s]
def txtOf (e l n:Nat):List SV:=[.mk 2,.str l n,.mk e]
def wsRet (l:Nat):AV:=.tp [.one (.int .i64 (Int.ofNat l)),.one .nif]
def wsK (t e:Nat):Contract RR:=fun args _ mu n k=>
 uncons args λx r=>uncons r λy r=>noMore r (x.onOne zz λx=>x.onPtr zz λb off=>cond (Nat.beq off 0) (y.onOne zz λy=>y.onStr zz λl s=>cond (Nat.ble l 1073741824) (onBld t mu b λ_ buf=>onBuf buf
  (cond (Nat.beq l 0) (putK mu b (bldOf t b .nsl) λmu=>k (wsRet l) mu n)
   (fN (Nat.succ n) λn'=>putK mu b (bldOf t b (.osl n 0 l l 1)) λmu=>k (wsRet l) ((n,txtOf e l s)::mu) n'))
  (λg len=>onTxt e mu g λl0 s0=>cond (Nat.beq l0 len) (fN (Nat.add l0 l) λl1=>cond (Nat.ble l1 1073741824) (fN (Nat.add (Nat.mul s0 (Nat.pow 256 l)) s) λs1=>fN (Nat.succ n) λn'=>
   killK mu g λmu=>putK mu b (bldOf t b (.osl n 0 l1 l1 1)) λmu=>k (wsRet l) ((n,txtOf e l1 s1)::mu) n') zz) zz)) zz) zz)
def bsK (t e:Nat):Contract RR:=fun args _ mu n k=>
 uncons args λx r=>noMore r (x.onOne zz λx=>x.onPtr zz λb off=>cond (Nat.beq off 0) (onBld t mu b λ_ buf=>onBuf buf (k (.one (.str 0 0)) mu n)
  (λg len=>onTxt e mu g λl0 s0=>cond (Nat.beq l0 len) (cond (Nat.blt 0 len) (k (.one (.str l0 s0)) mu n) zz) zz)) zz)
section
variable {T:RR→Prop} {P:Program} {val:Nat→Int} {fz:Fz} {ρ:Rho} {mu:St} {n:Nat} {w:World} {r:Ren}
theorem uncons_elim (hz:¬T zz) {α:Type} {l:List α} {k:α→List α→RR} (h:T (uncons l k)):∃a t,l=a::t∧T (k a t):=by
 cases l with
 |nil=>exact(hz h).elim
 |cons a t=>exact⟨a,t,rfl,h⟩
theorem noMore_elim (hz:¬T zz) {α:Type} {l:List α} {k:RR} (h:T (noMore l k)):l=[]∧T k:=by
 cases l with
 |nil=>exact⟨rfl,h⟩
 |cons a t=>exact(hz h).elim
theorem onBld_elim (hz:¬T zz) {t b:Nat} {k:SV→SV→RR} (h:T (onBld t mu b k)):∃a s,look mu b=some [.mk 3,.mk t,a,s]∧T (k a s):=by
 obtain⟨cs,h1,h2⟩:=option_elim hz h
 obtain⟨x,l,rfl,h3⟩:=uncons_elim hz h2
 obtain⟨m,rfl,h4⟩:=onMk_elim hz h3
 obtain⟨h5,h6⟩:=cond_elim hz h4
 have:=beq_yes h5;subst this
 obtain⟨x2,l2,rfl,g3⟩:=uncons_elim hz h6
 obtain⟨m2,rfl,g4⟩:=onMk_elim hz g3
 obtain⟨g5,g6⟩:=cond_elim hz g4
 have:=beq_yes g5;subst this
 obtain⟨a,l3,rfl,h7⟩:=uncons_elim hz g6
 obtain⟨s,l4,rfl,h8⟩:=uncons_elim hz h7
 obtain⟨rfl,h9⟩:=noMore_elim hz h8
 exact⟨a,s,h1,h9⟩
theorem onTxt_elim (hz:¬T zz) {e g:Nat} {k:Nat→Nat→RR} (h:T (onTxt e mu g k)):∃l s,look mu g=some [.mk 2,.str l s,.mk e]∧T (k l s):=by
 obtain⟨cs,h1,h2⟩:=option_elim hz h
 obtain⟨x,l,rfl,h3⟩:=uncons_elim hz h2
 obtain⟨m,rfl,h4⟩:=onMk_elim hz h3
 obtain⟨h5,h6⟩:=cond_elim hz h4
 have:=beq_yes h5;subst this
 obtain⟨x2,l2,rfl,h7⟩:=uncons_elim hz h6
 obtain⟨len,s,rfl,h8⟩:=onStr_elim hz h7
 obtain⟨x3,l3,rfl,h9⟩:=uncons_elim hz h8
 obtain⟨m2,rfl,g4⟩:=onMk_elim hz h9
 obtain⟨g5,g6⟩:=cond_elim hz g4
 have:=beq_yes g5;subst this
 obtain⟨rfl,g9⟩:=noMore_elim hz g6
 exact⟨_,_,h1,g9⟩
theorem onBuf_elim (hz:¬T zz) {s:SV} {kn:RR} {ks:Nat→Nat→RR} (h:T (onBuf s kn ks)):s=.nsl∧T kn∨∃g len cap,s=.osl g 0 len cap 1∧T (ks g len):=by
 cases s with
 |nsl=>exact .inl ⟨rfl,h⟩
 |osl g off len cap s=>
  obtain⟨h1,h2⟩:=cond_elim hz (show T (cond (Nat.beq off 0) (cond (Nat.beq s 1) (ks g len) zz) zz)from h)
  obtain⟨h3,h4⟩:=cond_elim hz h2
  have:=beq_yes h1;subst this
  have:=beq_yes h3;subst this
  exact .inr ⟨g,len,cap,rfl,h4⟩
 |_=>exact(hz h).elim
theorem bld_inv {id t:Nat} {a s:SV} (h:OwnG val ρ w id [.mk 3,.mk t,a,s]):∃p va vs,ρ id=some (p,0)∧w.heap[p]?=some (.cells #[va,vs] t (0,0))∧(a=.npt∧va=.pointer none∨a=.optr id 0∧va=.pointer (some ⟨p,0,none⟩))∧VR val ρ w s vs:=by
 have h1:=h.other rfl
 generalize hc:[SV.mk 3,.mk t,a,s]=cs at h1
 cases h1 with
 |map p agg v es ms clock=>
  injection hc with h2 h3
  injection h2 with h2
  have:=mtag_ne agg v;omega
 |text g l n C ty fr=>injection hc with h2 h3;injection h2 with h2;cases h2
 |bld p ty a s va vs hp hw ha hs=>
  simp only[List.cons.injEq,SV.mk.injEq,true_and,and_true]at hc
  obtain⟨rfl,rfl,rfl⟩:=hc
  exact⟨p,va,vs,hp,hw,ha,hs⟩
 |box p ty fr s v=>injection hc with h2 h3;injection h2 with h2;cases h2
 |glob p kd C ty fr v=>injection hc with h2 h3;injection h2 with h2;cases h2
theorem txt_inv {id e l n:Nat} (h:OwnG val ρ w id [.mk 2,.str l n,.mk e]):∃g C fr,ρ id=some (g,0)∧w.heap[g]?=some (.cells C e fr)∧fr.2≤l∧n<256^l∧l≤C.size∧
 (∀(i:Nat) (b:UInt8),(sB l n)[i]?=some b→C[i]?=some (.int .u8 (Int.ofNat b.toNat))):=by
 have h1:=h.other rfl
 generalize hc:[SV.mk 2,.str l n,.mk e]=cs at h1
 cases h1 with
 |map p agg v es ms clock=>
  injection hc with h2 h3
  injection h2 with h2
  have:=mtag_ne agg v;omega
 |text g l' n' C ty fr hp hw hf hn hl hC=>
  simp only[List.cons.injEq,SV.mk.injEq,SV.str.injEq,true_and,and_true]at hc
  obtain⟨⟨rfl,rfl⟩,rfl⟩:=hc
  exact⟨g,C,fr,hp,hw,hf,hn,hl,hC⟩
 |bld p ty a s va vs hp hw ha hs=>injection hc with h2 h3;injection h2 with h2;cases h2
 |box p ty fr s v=>injection hc with h2 h3;injection h2 with h2;cases h2
 |glob p kd C ty fr v=>injection hc with h2 h3;injection h2 with h2;cases h2
theorem bld_used (hr:Rel val ρ fz mu w) {b t:Nat} {a s:SV} (hl:look mu b=some [.mk 3,.mk t,a,s]):∃p va vs w1,ρ b=some (p,0)∧BldUsed t p va vs w w1∧Stp val fz ρ mu n w ρ (putS mu b (bldOf t b s)) n w1∧VR val ρ w1 s vs:=by
 obtain⟨p,va,vs,hp,hw,ha,hs⟩:=bld_inv (hr.rm b _ hl)
 rcases ha with⟨rfl,rfl⟩|⟨rfl,rfl⟩
 ·have e:=setCell_eq_setRow w p 0 _ t (0,0) (.pointer (some ⟨p,0,none⟩)) hw
  have hu:BldUsed t p (.pointer none) vs w (w.setCell ⟨p,0,none⟩ (.pointer (some ⟨p,0,none⟩))):=⟨hw,.inl ⟨rfl,rfl⟩⟩
  have hb:=hu.behind
  have hbs:∀b,bsize w b≤bsize (w.setCell ⟨p,0,none⟩ (.pointer (some ⟨p,0,none⟩))) b:=λb=>by
   rw[e,setRow_bsize hw (by simp)];exact Nat.le_refl _
  have hs':=hs.mono (ρ':=ρ) (w':=w.setCell ⟨p,0,none⟩ (.pointer (some ⟨p,0,none⟩))) (λ_ _ h=>h) hbs
  refine⟨p,_,vs,_,hp,hu,Stp.put hr hl hp rfl rfl rfl (by rw[e];simp) (λb hb=>by rw[e];exact setRow_other w p b _ hb) hbs (.inr (.bld p t _ _ _ _ hp hb (.inr ⟨rfl,rfl⟩) hs')),hs'⟩
 ·refine⟨p,_,vs,w,hp,⟨hw,.inr ⟨rfl,rfl⟩⟩,Stp.put hr hl hp rfl rfl rfl rfl (λ_ _=>rfl) (λ_=>Nat.le_refl _) (.inr (.bld p t _ _ _ _ hp hw (.inr ⟨rfl,rfl⟩) hs)),hs⟩
theorem bld_set (hr:Rel val ρ fz mu w) {b t p:Nat} {s s':SV} {v:Value} (hl:look mu b=some (bldOf t b s)) (hp:ρ b=some (p,0)) (hv:VR val ρ w s' v):Stp val fz ρ mu n w ρ (putS mu b (bldOf t b s')) n (w.setCell ⟨p,1,none⟩ v):=by
 obtain⟨q,va,vs,hq,hw,ha,hs⟩:=bld_inv (hr.rm b _ hl)
 rw[hp]at hq;cases hq
 have ha:va=.pointer (some ⟨p,0,none⟩):=by
  rcases ha with⟨h,_⟩|⟨_,h⟩
  ·cases h
  ·exact h
 subst ha
 have e:=setCell_eq_setRow w p 1 _ t (0,0) v hw
 have hbs:∀b,bsize w b≤bsize (w.setCell ⟨p,1,none⟩ v) b:=λb=>by
  rw[e,setRow_bsize hw (by simp)];exact Nat.le_refl _
 refine Stp.put hr hl hp rfl rfl rfl (by rw[e];simp) (λb hb=>by rw[e];exact setRow_other w p b _ hb) hbs (.inr (.bld p t _ _ _ _ hp (by rw[e];exact setRow_heap w p _ _ t _ hw) (.inr ⟨rfl,rfl⟩) (hv.mono (λ_ _ h=>h) hbs)))
theorem strCells_sB (l s:Nat):Lib.strCells (sOf l s)=(sB l s).map λb=>Value.int .u8 (Int.ofNat b.toNat):=rfl
theorem lenOf_str (l s:Nat) (w:World):(Builtin.lenOf (.string (sOf l s))).run P w=.ok l w:=by
 simp[Builtin.lenOf,sOf_size]
theorem first_str (l s k:Nat) (w:World):(Builtin.firstCells k l (.string (sOf l s))).run P w=.ok (Lib.strCells (sOf l s)).toArray w:=by
 have:=Lib.run_firstCells_string (P:=P) w k (sOf l s)
 rwa [sOf_size]at this
theorem strCells_get {l s i:Nat} {b:UInt8} (h:(sB l s)[i]?=some b):(Lib.strCells (sOf l s))[i]?=some (.int .u8 (Int.ofNat b.toNat)):=by
 rw[strCells_sB,List.getElem?_map,h];rfl
theorem cells_app {old news:List Value} {rest:Array Value} {i:Nat} {v:Value} (h:(old++news)[i]?=some v):(old.toArray++news.toArray++rest)[i]?=some v:=by
 have hlt:=(List.getElem?_eq_some_iff.1 h).1
 rw[Array.getElem?_append_left (by simpa using hlt)]
 rw[List.append_toArray,List.getElem?_toArray]
 exact h
theorem txt_new (hr:Rel val ρ fz mu w) (hn:ρ n=none) {e l s:Nat} {C:Array Value} (hs:s<256^l) (hl:l≤C.size) (hC:∀(i:Nat) (b:UInt8),(sB l s)[i]?=some b→C[i]?=some (.int .u8 (Int.ofNat b.toNat))):
 Stp val fz ρ mu n w (upd ρ n (w.heap.size,0)) ((n,txtOf e l s)::mu) (n+1) (w.drew.alloc (.cells C e)):=by
 refine Stp.new rfl rfl rfl (by show(w.heap.push _).size=_;simp) (λb hb=>alloc_old (w:=w.drew) _ hb) hr hn (λ_=>.inr (.text w.heap.size l s C e (0,0) (upd_same _ _ _) (alloc_new (w:=w.drew) _) (Nat.zero_le _) hs hl hC))
theorem bld_app (hr:Rel val ρ fz mu w) {n':Nat} (hf:FreshN ρ n n') {tS tX e:TypeId} {i:TypeInfo} (hu:P.underlying tS=some (.slice e)) (hx:P.underlying tX=some .string) (hi:P.info? e=some i) (hiz:i.zero=some (.int .u8 0)) (hi1:i.size=1) (hib:i.bytes=1)
 {buf:SV} {vs:Value} (hv:VR val ρ w buf vs) {l s:Nat} (hs:s<256^l) {buf':SV} {mu':St}
 (hc:buf=.nsl∧l=0∧buf'=.nsl∧mu'=mu∧n'=n∨buf=.nsl∧0<l∧l≤1073741824∧buf'=.osl n 0 l l 1∧mu'=(n,txtOf e l s)::mu∧n'=n+1∨
  ∃g l0 s0 cap,buf=.osl g 0 l0 cap 1∧look mu g=some (txtOf e l0 s0)∧l0+l≤1073741824∧buf'=.osl n 0 (l0+l) (l0+l) 1∧mu'=(n,txtOf e (l0+l) (s0*256^l+s))::killS mu g∧n'=n+1):
 ∃ao m cap w' ρ',(Builtin.append_ #[tS,tX] tS #[vs,.string (sOf l s)]).run P w=.ok (.slice ao m cap) w'∧Stp val fz ρ mu n w ρ' mu' n' w'∧VR val ρ' w' buf' (.slice ao m cap):=by
 have hz:∀w,(zeroValue e).run P w=.ok (.int .u8 0) w:=λw=>by simp[zeroValue,typeInfo,hi,hiz]
 have hroomy:roomy=137438953472:=rfl
 have hz1:(Value.int IntKind.u8 0).cells.size=1:=rfl
 have hnl:(Lib.strCells (sOf l s)).length=l:=by rw[Lib.strCells_length,sOf_size]
 rcases hc with⟨rfl,rfl,rfl,rfl,rfl⟩|⟨rfl,hl,hll,rfl,rfl,rfl⟩|⟨g,l0,s0,cap,rfl,hg,hll,rfl,rfl,rfl⟩
 ·have hv:vs=.slice none 0 0:=hv
  subst hv
  refine⟨none,0,0,w,ρ,append_nil hu (.inr hx) hi (lenOf_str 0 s w) ?_,Stp.refl hr,rfl⟩
  exact first_str 0 s i.size w
 ·have hn:ρ n=none:=hf n (Nat.le_refl _) (Nat.lt_succ_self _)
  have hv:vs=.slice none 0 0:=hv
  subst hv
  obtain⟨newCap,rest,⟨h1,h2⟩,rfl,h4⟩:=append_grows (P:=P) (w:=w) (sT:=tS) (xT:=tX) (ty:=tS) (base:=none) (sLen:=0) (sCap:=0) (cnt:=l) (x:=.string (sOf l s)) (old:=[]) (news:=Lib.strCells (sOf l s)) hu (.inr hx) hi hz (lenOf_str l s w) (by omega) (fits_small (by rw[hib,hroomy];omega))
   rfl (first_str l s i.size w.drew)
  simp only[Nat.zero_add]at h1 h4
  generalize hC:([]:List Value).toArray++(Lib.strCells (sOf l s)).toArray++Builtin.zeroCells (Value.int .u8 0).cells (newCap-l)=C at h4
  have hCs:C.size=newCap:=by rw[←hC];simp[zeroCells_size,hz1,hnl];omega
  refine⟨_,_,_,_,_,h4,txt_new hr hn hs (by omega) (λi b hb=>?_),⟨(w.heap.size,0),newCap,upd_same _ _ _,rfl,Nat.le_refl _,h1,?_,h2⟩⟩
  ·rw[←hC]
   refine cells_app (old:=[]) ?_
   rw[List.nil_append]
   exact strCells_get hb
  ·have:=alloc_new (w:=w.drew) (.cells C e)
   show 0+0+newCap*1≤bsize _ w.heap.size
   have hb:bsize (w.drew.alloc (.cells C e)) w.heap.size=C.size:=by
    unfold bsize
    rw[show(w.drew.alloc (.cells C e)).heap[w.heap.size]?=_ from this]
   rw[hb];omega
 ·have hn:ρ n=none:=hf n (Nat.le_refl _) (Nat.lt_succ_self _)
  obtain⟨pg,C,fr,hpg,hw,hf2,hs0,hlC,hC⟩:=txt_inv (hr.rm g _ hg)
  obtain⟨p,c,hp,rfl,h1,h2,h3,h4⟩:=hv
  rw[hpg]at hp;cases hp
  have hbs:bsize w pg=C.size:=by unfold bsize;rw[hw]
  rw[hbs]at h3
  have hn256:s0*256^l+s<256^(l0+l):=by
   rw[Nat.pow_add]
   have h5:(s0+1)*256^l≤256^l0*256^l:=Nat.mul_le_mul_right _ hs0
   rw[Nat.add_mul]at h5
   omega
  have happ:=sB_append l0 s0 l s hs
  by_cases hroom:l0+l≤c
  ·have hst:=run_storeFr P pg l0 e fr (Lib.strCells (sOf l s)) 0 C w hw (λx h5 _=>by
    have:¬x<fr.2:=by omega
    simp[this]) (by rw[hnl];omega) (Lib.strCells_oneCell _)
   rw[hnl]at hst
   simp only[Nat.add_zero]at hst
   generalize hD:(C.toList.take l0++Lib.strCells (sOf l s)++C.toList.drop (l0+l)).toArray=D at hst
   have hDs:D.size=C.size:=by rw[←hD];simp[hnl];omega
   have hrun:=append_fits (P:=P) (w:=w) (w':=w.setRow pg D) (sT:=tS) (xT:=tX) (ty:=tS) (a:=⟨pg,0,none⟩) (sLen:=l0) (sCap:=c) (cnt:=l) (x:=.string (sOf l s)) (news:=Lib.strCells (sOf l s)) hu (.inr hx) hi (lenOf_str l s w) hroom (first_str l s i.size w)
    (by rw[hi1,Nat.mul_one,addr_add,Nat.zero_add];exact hst)
   have hb:∀b,bsize (w.setRow pg D) b=bsize w b:=setRow_bsize hw hDs
   refine⟨_,_,_,_,_,hrun,Stp.move (p:=(pg,0)) (oo:=0) hr hg hpg hn rfl rfl rfl (by simp) (λb hb=>setRow_other w pg b D hb) (λb=>by rw[hb];exact Nat.le_refl _) (.inr (.text pg _ _ D e fr (upd_same _ _ _) (setRow_heap w pg C D e fr hw) (by omega) hn256 (by omega) (λj b hj=>?_))),
    ⟨(pg,0),c,upd_same _ _ _,rfl,Nat.le_refl _,hroom,?_,h4⟩⟩
   ·rw[happ]at hj
    rw[←hD,List.getElem?_toArray]
    have hjl:=(List.getElem?_eq_some_iff.1 hj).1
    rw[List.length_append,sB_length,sB_length]at hjl
    rw[List.getElem?_append_left (by simp[hnl];omega)]
    by_cases hj0:j<l0
    ·rw[List.getElem?_append_left (by rw[sB_length];exact hj0)]at hj
     rw[List.getElem?_append_left (by simp;omega),List.getElem?_take,if_pos hj0,Array.getElem?_toList]
     exact hC j b hj
    ·rw[List.getElem?_append_right (by rw[sB_length];omega),sB_length]at hj
     rw[List.getElem?_append_right (by simp;omega)]
     simp only[List.length_take,Array.length_toList,show min l0 C.size=l0 by omega]
     exact strCells_get hj
   ·show 0+0+c*1≤bsize (w.setRow pg D) pg
    rw[hb,hbs];omega
  ·have hold:(Builtin.firstCells i.size l0 (.slice (some ⟨pg,0,none⟩) l0 c)).run P w.drew=.ok (C.toList.take l0).toArray w.drew:=by
    refine run_firstCells_some w.drew i.size l0 ⟨pg,0,none⟩ l0 c (C.toList.take l0) (by rw[hi1];simp;omega) λj v hj=>?_
    rw[addr_add,Nat.zero_add]
    rw[List.getElem?_take]at hj
    split at hj
    ·have hw':w.drew.heap[pg]?=some (.cells C e fr):=hw
     rw[Lib.cell_of_heap hw']
     simpa using hj
    ·cases hj
   obtain⟨newCap,rest,⟨g1,g2⟩,rfl,g4⟩:=append_grows (P:=P) (w:=w) (sT:=tS) (xT:=tX) (ty:=tS) (base:=some ⟨pg,0,none⟩) (sLen:=l0) (sCap:=c) (cnt:=l) (x:=.string (sOf l s)) (old:=C.toList.take l0) (news:=Lib.strCells (sOf l s)) hu (.inr hx) hi hz (lenOf_str l s w) (by omega) (fits_small (by rw[hib,hroomy];omega))
    hold (first_str l s i.size w.drew)
   generalize hD:(C.toList.take l0).toArray++(Lib.strCells (sOf l s)).toArray++Builtin.zeroCells (Value.int .u8 0).cells (newCap-(l0+l))=D at g4
   have hDs:D.size=newCap:=by rw[←hD];simp[zeroCells_size,hz1,hnl];omega
   have hk:=Stp.kill (n:=n) hr g
   refine⟨_,_,_,_,_,g4,hk.trans (txt_new hk.rel hn hn256 (by omega) (λj b hj=>?_)),⟨(w.heap.size,0),newCap,upd_same _ _ _,rfl,Nat.le_refl _,g1,?_,g2⟩⟩
   ·rw[←hD]
    refine cells_app ?_
    rw[happ]at hj
    by_cases hj0:j<l0
    ·rw[List.getElem?_append_left (by rw[sB_length];exact hj0)]at hj
     rw[List.getElem?_append_left (by simp;omega),List.getElem?_take,if_pos hj0,Array.getElem?_toList]
     exact hC j b hj
    ·rw[List.getElem?_append_right (by rw[sB_length];omega),sB_length]at hj
     rw[List.getElem?_append_right (by simp;omega)]
     simp only[List.length_take,Array.length_toList,show min l0 C.size=l0 by omega]
     exact strCells_get hj
   ·have:=alloc_new (w:=w.drew) (.cells D e)
    show 0+0+newCap*1≤bsize _ w.heap.size
    have hb:bsize (w.drew.alloc (.cells D e)) w.heap.size=D.size:=by
     unfold bsize
     rw[show(w.drew.alloc (.cells D e)).heap[w.heap.size]?=_ from this]
    rw[hb];omega
theorem ws_run (L:Lays.n166 P r) (X:Builder.Extra P r) {b l s n':Nat} {a buf buf':SV} {mu' muF:St} (hb:look mu b=some [.mk 3,.mk (r.t 72),a,buf])
 (hc:buf=.nsl∧l=0∧buf'=.nsl∧mu'=putS mu b (bldOf (r.t 72) b buf)∧n'=n∨buf=.nsl∧0<l∧l≤1073741824∧buf'=.osl n 0 l l 1∧mu'=(n,txtOf (r.t 5) l s)::putS mu b (bldOf (r.t 72) b buf)∧n'=n+1∨
  ∃g l0 s0 cap,buf=.osl g 0 l0 cap 1∧look (putS mu b (bldOf (r.t 72) b buf)) g=some (txtOf (r.t 5) l0 s0)∧l0+l≤1073741824∧buf'=.osl n 0 (l0+l) (l0+l) 1∧mu'=(n,txtOf (r.t 5) (l0+l) (s0*256^l+s))::killS (putS mu b (bldOf (r.t 72) b buf)) g∧n'=n+1)
 (hlb:(n'=n+1→n≠b)→look mu' b=some (bldOf (r.t 72) b buf)) (hsub:(n'=n+1→n≠b)→∀id c,look muF id=some c→look (putS mu' b (bldOf (r.t 72) b buf')) id=some c)
 (hr:Rel val ρ fz mu w) {xs:List Value} (hx:All2 (AVR val ρ w) [.one (.optr b 0),.one (.str l s)] xs) (hf:FreshN ρ n n'):
 Calls P (r.f 166) xs.toArray w λe w'=>∃x,e=.returned x∧Post val ρ fz mu n w (wsRet l) muF n' x w':=by
 obtain⟨i,hi,hi0⟩:=Option.map_eq_some_iff.1 X.infoByte
 simp only[Prod.mk.injEq]at hi0
 obtain⟨hiz,hi1,hib⟩:=hi0
 match xs,hx with
 |[x1,x2],hx=>
 obtain⟨hx1,hx2,_⟩:=hx
 obtain⟨hs,rfl⟩:=(show s<256^l∧x2=.string (sOf l s)from hx2)
 obtain⟨q,hq,rfl⟩:=(show∃p,ρ b=some p∧x1=.pointer (some ⟨p.1,p.2+0,none⟩)from hx1)
 obtain⟨p,va,vs,w1,hp,hu,st1,hvs⟩:=bld_used (n:=n) hr hb
 rw[hp]at hq;cases hq
 have hnb:n'=n+1→n≠b:=λe h=>by
  have:=hf n (Nat.le_refl _) (by omega)
  rw[h,hp]at this;cases this
 obtain⟨ao,m,cap,w2,ρ2,hrun,st2,hv2⟩:=bld_app (P:=P) (tS:=r.t 37) (tX:=r.t 9) st1.rel hf L.t37 L.t9 hi hiz hi1 hib hvs hs hc
 obtain⟨p2,va2,vs2,hp2,hw2,ha2,hs2⟩:=bld_inv (st2.rel.rm b _ (hlb hnb))
 have hpp:=st2.ext.old _ _ hp
 rw[hpp]at hp2;cases hp2
 have ha2:va2=.pointer (some ⟨p,0,none⟩):=by
  rcases ha2 with⟨h,_⟩|⟨_,h⟩
  ·cases h
  ·exact h
 subst ha2
 have st3:=bld_set (n:=n') st2.rel (hlb hnb) hpp hv2
 refine(Any.bld_write L X hu (sOf l s) hrun hw2).mono λe w' ⟨he,hw'⟩=>⟨_,he,?_⟩
 subst hw'
 refine(((st1.trans st2).trans st3).sub (hsub hnb)).post ⟨_,rfl,?_,?_,trivial⟩
 ·show Value.int .i64 ((sOf l s).size:Int)=.int .i64 (Int.ofNat l)
  rw[sOf_size];rfl
 ·rfl
theorem wsK_ok (hz:¬T zz) (L:Lays.n166 P r) (X:Builder.Extra P r):ContractOk T P val (r.f 166) (wsK (r.t 72) (r.t 5)):=by
 intro args fz mu n k ht
 have hbody:hasBody P (r.f 166)=true:=by unfold hasBody;rw[L.f166];rfl
 obtain⟨x,r1,rfl,h1⟩:=uncons_elim hz ht
 obtain⟨y,r2,rfl,h2⟩:=uncons_elim hz h1
 obtain⟨rfl,h3⟩:=noMore_elim hz h2
 obtain⟨x,rfl,h4⟩:=onOne_elim hz h3
 obtain⟨b,off,rfl,h5⟩:=onPtr_elim hz h4
 obtain⟨h6,h7⟩:=cond_elim hz h5
 have:=beq_yes h6;subst this
 obtain⟨y,rfl,h8⟩:=onOne_elim hz h7
 obtain⟨l,s,rfl,h9⟩:=onStr_elim hz h8
 obtain⟨hle,h10⟩:=cond_elim hz h9
 have hle:=Nat.le_of_ble_eq_true hle
 obtain⟨a,buf,hb,h11⟩:=onBld_elim hz h10
 rcases onBuf_elim hz h11 with⟨rfl,h12⟩|⟨g,len,cap,rfl,h12⟩
 ·cases hl0:Nat.beq l 0 with
  |true=>
   have:=beq_yes hl0;subst this
   rw[hl0]at h12
   have h13:T (putK mu b (bldOf (r.t 72) b .nsl) λmu=>k (wsRet 0) mu n):=h12
   rw[putK_eq]at h13
   refine⟨_,_,_,h13,hbody,Nat.le_refl _,λρ w xs hr hx hf=>ws_run L X hb (.inl ⟨rfl,rfl,rfl,rfl,rfl⟩) (λ_=>by simp[look_putS,hb]) (λ_ id c h=>?_) hr hx hf⟩
   simp only[look_putS]at h⊢
   by_cases e1:b=id
   ·subst e1;simp[hb]at h⊢;exact h
   ·simp[e1]at h⊢;exact h
  |false=>
   have hl1:l≠0:=λe=>by subst e;cases hl0
   rw[hl0]at h12
   have h13:T (fN (Nat.succ n) λn'=>putK mu b (bldOf (r.t 72) b (.osl n 0 l l 1)) λmu=>k (wsRet l) ((n,txtOf (r.t 5) l s)::mu) n'):=h12
   rw[fN_eq,putK_eq]at h13
   refine⟨_,_,_,h13,hbody,Nat.le_succ _,λρ w xs hr hx hf=>ws_run L X hb (.inr (.inl ⟨rfl,Nat.pos_of_ne_zero hl1,hle,rfl,rfl,rfl⟩)) (λhn=>?_) (λhn id c h=>?_) hr hx hf⟩
   ·have:=hn rfl
    simp[look_cons,look_putS,hb,this]
   ·have:=hn rfl
    simp only[look_cons,look_putS]at h⊢
    by_cases e1:b=id
    ·subst e1;simp[this,hb]at h⊢;exact h
    ·by_cases e2:n=id
     ·subst e2;simp[e1]at h⊢;exact h
     ·simp[e1,e2]at h⊢;exact h
 ·obtain⟨l0,s0,hg,h13⟩:=onTxt_elim hz h12
  obtain⟨h14,h15⟩:=cond_elim hz h13
  have:=beq_yes h14;subst this
  rw[fN_eq]at h15
  obtain⟨hle2,h16⟩:=cond_elim hz h15
  have hle2:=Nat.le_of_ble_eq_true hle2
  rw[fN_eq,fN_eq,killK_eq,putK_eq]at h16
  have hgb:g≠b:=λe=>by subst e;rw[hb]at hg;cases hg
  have hbg:b≠g:=λe=>hgb e.symm
  refine⟨_,_,_,h16,hbody,Nat.le_succ _,λρ w xs hr hx hf=>ws_run L X hb (.inr (.inr ⟨g,l0,s0,cap,rfl,?_,hle2,rfl,rfl,rfl⟩)) (λhn=>?_) (λhn id c h=>?_) hr hx hf⟩
  ·rw[look_putS,if_neg hbg];exact hg
  ·have:=hn rfl
   simp[look_cons,look_putS,look_killS,hb,this,hgb]
  ·have:=hn rfl
   simp only[look_cons,look_putS,look_killS]at h⊢
   by_cases e1:b=id
   ·subst e1;simp[this,hb,hgb]at h⊢;exact h
   ·by_cases e2:n=id
    ·subst e2;simp[e1]at h⊢;exact h
    ·by_cases e3:g=id
     ·subst e3;simp[e2,hbg]at h
     ·simp[e1,e2,e3]at h⊢;exact h
theorem bsK_ok (hz:¬T zz) (L:Lays.n169 P r) (X:Builder.Extra P r):ContractOk T P val (r.f 169) (bsK (r.t 72) (r.t 5)):=by
 intro args fz mu n k ht
 have hbody:hasBody P (r.f 169)=true:=by unfold hasBody;rw[L.f169];rfl
 obtain⟨x,r1,rfl,h1⟩:=uncons_elim hz ht
 obtain⟨rfl,h3⟩:=noMore_elim hz h1
 obtain⟨x,rfl,h4⟩:=onOne_elim hz h3
 obtain⟨b,off,rfl,h5⟩:=onPtr_elim hz h4
 obtain⟨h6,h7⟩:=cond_elim hz h5
 have:=beq_yes h6;subst this
 obtain⟨a,buf,hb,h11⟩:=onBld_elim hz h7
 rcases onBuf_elim hz h11 with⟨rfl,h12⟩|⟨g,len,cap,rfl,h12⟩
 ·refine⟨_,_,_,h12,hbody,Nat.le_refl _,λρ w xs hr hx _=>?_⟩
  match xs,hx with
  |[x1],hx=>
  obtain⟨q,hq,rfl⟩:=(show∃p,ρ b=some p∧x1=.pointer (some ⟨p.1,p.2+0,none⟩)from hx.1)
  obtain⟨p,va,vs,hp,hw,ha,hs⟩:=bld_inv (hr.rm b _ hb)
  rw[hp]at hq;cases hq
  have hs:vs=.slice none 0 0:=hs
  subst hs
  refine(Any.bld_string_nil L X hw).mono λe w' ⟨he,hw'⟩=>⟨_,he,?_⟩
  subst hw'
  exact(Stp.like hr (Like.drew w)).post ⟨(by decide),rfl⟩
 ·obtain⟨l0,s0,hg,h13⟩:=onTxt_elim hz h12
  obtain⟨h14,h15⟩:=cond_elim hz h13
  have:=beq_yes h14;subst this
  obtain⟨hpos,h16⟩:=cond_elim hz h15
  have hpos:0<l0:=by simpa[Nat.blt_eq]using hpos
  refine⟨_,_,_,h16,hbody,Nat.le_refl _,λρ w xs hr hx _=>?_⟩
  match xs,hx with
  |[x1],hx=>
  obtain⟨q,hq,rfl⟩:=(show∃p,ρ b=some p∧x1=.pointer (some ⟨p.1,p.2+0,none⟩)from hx.1)
  obtain⟨p,va,vs,hp,hw,ha,hs⟩:=bld_inv (hr.rm b _ hb)
  rw[hp]at hq;cases hq
  obtain⟨p',c,hp',rfl,h1,h2,h3,h4⟩:=hs
  obtain⟨pg,C,fr,hpg,hwg,hf2,hs0,hlC,hC⟩:=txt_inv (hr.rm g _ hg)
  rw[hpg]at hp';cases hp'
  have hlen:=sB_length l0 s0
  have hne:sB l0 s0≠[]:=λe=>by rw[e]at hlen;simp at hlen;omega
  have hw2:w.heap[p]?=some (.cells #[va,.slice (some ⟨pg,0,none⟩) (sB l0 s0).length c] (r.t 72) (0,0)):=by rw[hlen];exact hw
  refine(Any.bld_string L X hw2 hne hwg (by omega) (by unfold maxLen;omega) (by omega) hC).mono λe w' ⟨he,hw'⟩=>⟨_,he,?_⟩
  rw[hlen]at hw'
  subst hw'
  have hfz:(w.drew.freeze ⟨pg,0,none⟩ l0)={w.drew with heap:=w.heap.modify pg fun|.cells c elem (lo,hi)=>.cells c elem (if lo==hi then(0,0+l0)else(min lo 0,max hi (0+l0)))|o=>o}:=by
   unfold World.freeze
   rw[if_neg (by omega)]
   rfl
  have hg1:∃fr',fr'.2≤l0∧(w.drew.freeze ⟨pg,0,none⟩ l0).heap[pg]?=some (.cells C (r.t 5) fr'):=by
   rw[hfz]
   simp only[Array.getElem?_modify,if_true,hwg]
   refine⟨_,?_,rfl⟩
   split
   ·simp
   ·simp;omega
  obtain⟨fr',hf3,hg1⟩:=hg1
  have hother:∀b,b≠pg→(w.drew.freeze ⟨pg,0,none⟩ l0).heap[b]?=w.heap[b]?:=λb hb=>by
   rw[hfz]
   simp only[Array.getElem?_modify]
   rw[if_neg (λe=>hb e.symm)]
  have hbs:∀b,bsize w b≤bsize (w.drew.freeze ⟨pg,0,none⟩ l0) b:=λb=>by
   unfold bsize
   by_cases e:b=pg
   ·subst e;rw[hg1,hwg];exact Nat.le_refl _
   ·rw[hother b e];exact Nat.le_refl _
  have st:Stp val fz ρ mu n w ρ (putS mu g [.mk 2,.str l0 s0,.mk (r.t 5)]) n (w.drew.freeze ⟨pg,0,none⟩ l0):=
   Stp.put hr hg hpg (by rw[hfz];rfl) (by rw[hfz];rfl) (by rw[hfz];rfl) (by rw[hfz];simp) hother hbs (.inr (.text pg l0 s0 C (r.t 5) fr' hpg hg1 hf3 hs0 hlC hC))
  refine(st.sub λid c' h=>?_).post ⟨hs0,rfl⟩
  rw[look_putS]
  by_cases e:g=id
  ·subst e;rw[hg]at h⊢;simpa using h
  ·rw[if_neg e];exact h
end
end Go.Ev
namespace Go.Ev
open Go.Shelf Go.Proofs Go.RowKit
section
variable {val:Nat→Int} {fz:Fz} {ρ:Rho} {mu:St} {n:Nat} {w w':World}
theorem bsize_below (hb:Below w.heap.size w w') (b:Nat):bsize w b≤bsize w' b:=by
 by_cases h:b<w.heap.size
 ·unfold bsize;rw[hb.block b h];exact Nat.le_refl _
 ·have:bsize w b=0:=by unfold bsize;rw[Array.getElem?_eq_none (by omega)]
  omega
theorem Rel.below (hr:Rel val ρ fz mu w) (hb:Below w.heap.size w w'):Rel val ρ fz mu w':=
 ⟨fun id cs h=>(hr.rf id cs h).mono (fun _ _ h=>h) (bsize_below hb) fun p hp=>hb.block _ ((hr.rf id cs h).lt hp),
  λid cs h=>(hr.rm id cs h).mono (λ_ _ h=>h) (bsize_below hb) λp hp=>hb.block _ ((hr.rm id cs h).lt hp),hr.dm,hr.dj⟩
theorem Stp.below (hr:Rel val ρ fz mu w) (hb:Below w.heap.size w w'):Stp val fz ρ mu n w ρ mu n w':=
 ⟨Nat.le_refl _,Ext.refl _ _ _,hr.below hb,⟨hb.os,hb.tape,hb.output,hb.size,λb h _=>hb.block b h,bsize_below hb⟩,NewB.refl,NewI.refl⟩
theorem Stp.newB {cs:List SV} {p:Nat×Nat} (hb:Below w.heap.size w w') (hpp:w.heap.size≤p.1) (hr:Rel val ρ fz mu w) (hn:ρ n=none) (hown:(∀b,bsize w b≤bsize w' b)→OwnG val (upd ρ n p) w' n cs):
 Stp val fz ρ mu n w (upd ρ n p) ((n,cs)::mu) (n+1) w':=by
 have hbs:=bsize_below hb
 have hown:=hown hbs
 have hup:=λid q hq=>upd_old (p:=p) hn id q hq
 have keepOwn:∀id c,OwnG val ρ w id c→OwnG val (upd ρ n p) w' id c:=λid c ho=>ho.mono hup hbs λp hp=>hb.block _ (ho.lt hp)
 have keepF:∀id c,OwnF val ρ w id c→OwnF val (upd ρ n p) w' id c:=λid c ho=>ho.mono hup hbs λp hp=>hb.block _ (ho.lt hp)
 have hfn:fz n=none:=by
  cases e:fz n with
  |none=>rfl
  |some c=>obtain⟨p,o,h1,_⟩:=(hr.rf n c e).at;rw[hn]at h1;cases h1
 refine⟨Nat.le_succ _,upd_ext hn,⟨λid c h=>keepF id c (hr.rf id c h),λid c h=>?_,λid c h=>?_,λid id' q q' h h' hp hp' he=>?_⟩,
  ⟨hb.os,hb.tape,hb.output,hb.size,λb h _=>hb.block b h,hbs⟩,λid q h hp=>?_,λid h=>?_⟩
 ·rw[look_cons]at h
  split at h
  ·rename_i e
   cases h
   subst e
   exact hown
  ·exact keepOwn id c (hr.rm id c h)
 ·rw[look_cons]at h
  split at h
  ·rename_i e;subst e;exact hfn
  ·exact hr.dm id c h
 ·have key:∀id q,((look ((n,cs)::mu) id).isSome∨(fz id).isSome)→upd ρ n p id=some q→id=n∧q=p∨id≠n∧ρ id=some q∧((look mu id).isSome∨(fz id).isSome)∧q.1<w.heap.size:=by
   intro id q h hp
   by_cases e:id=n
   ·left;subst e;rw[upd_same]at hp;cases hp;exact⟨rfl,rfl⟩
   ·right
    have hp':ρ id=some q:=by simpa[upd,e]using hp
    have hl':(look mu id).isSome∨(fz id).isSome:=by
     rcases h with h|h
     ·rw[look_cons]at h
      simp only[show¬n=id fromλx=>e x.symm,if_false]at h
      exact .inl h
     ·exact .inr h
    refine⟨e,hp',hl',?_⟩
    rcases hl' with h|h
    ·obtain⟨c,hc⟩:=Option.isSome_iff_exists.1 h;exact(hr.rm id c hc).lt hp'
    ·obtain⟨c,hc⟩:=Option.isSome_iff_exists.1 h;exact(hr.rf id c hc).lt hp'
  rcases key id q (.inl h) hp with⟨e1,e2⟩|⟨e1,e2,e3,e4⟩
  ·rcases key id' q' h' hp' with⟨f1,f2⟩|⟨f1,f2,f3,f4⟩
   ·rw[e1,f1]
   ·subst e2;omega
  ·rcases key id' q' h' hp' with⟨f1,f2⟩|⟨f1,f2,f3,f4⟩
   ·subst f2;omega
   ·have hm:(look mu id).isSome:=by
     rw[look_cons]at h
     simpa[show¬n=id fromλx=>e1 x.symm]using h
    exact hr.dj id id' q q' hm f3 e2 f2 he
 ·rw[look_cons]at h
  by_cases e:id=n
  ·subst e;rw[upd_same]at hp;cases hp;exact .inl hpp
  ·simp only[show¬n=id fromλx=>e x.symm,if_false]at h
   exact .inr ⟨id,q,h,by simpa[upd,e]using hp,rfl⟩
 ·rw[look_cons]at h
  by_cases e:id=n
  ·subst e;exact .inr ⟨Nat.le_refl _,Nat.lt_succ_self _⟩
  ·simp only[show¬n=id fromλx=>e x.symm,if_false]at h
   exact .inl h
end
def mkK (g:Nat):Contract RR:=fun args _ mu n k=>
 uncons args λx r=>noMore r (x.onOne zz λx=>SV.rec (motive:=λ_=>RR) zz (λ_ _=>zz) (λ_=>zz) (λ_ _=>zz) zz zz zz (λ_ _=>zz) (λ_ _ _ _ _=>zz) zz zz (λ_ _=>zz) (λ_ _=>zz)
  (fN (Nat.succ n) λn'=>k (.one (.fn g [(n,0)])) ((n,[.mk 1,.nmp])::mu) n') (λid=>fN (Nat.succ n) λn'=>k (.one (.fn g [(n,0)])) ((n,[.mk 1,.mp id])::mu) n') zz (λ_=>zz) x)
def keysK (es:List (SV×List SV)):(List Int→RR)→RR:=
 List.rec (motive:=λ_=>(List Int→RR)→RR) (λk=>k []) (λe _ ih k=>e.1.onInt zz λkd i=>cond (IntKind.eqb kd .i64) (cond (ltI i (Int.ofNat 9223372036854775808)) (cond (ltI i (Int.negSucc 9223372036854775807)) zz (ih λr=>k (i::r))) zz) zz) es
def insK (x:Int) (l:List Int):(List Int→RR)→RR:=
 List.rec (motive:=λ_=>(List Int→RR)→RR) (λk=>k [x]) (λh t ih k=>cond (ltI x h) (k (x::h::t)) (ih λr=>k (h::r))) l
def sortK (l:List Int):(List Int→RR)→RR:=
 List.rec (motive:=λ_=>(List Int→RR)→RR) (λk=>k []) (λh _ ih k=>ih λr=>insK h r k) l
def risesK (l:List Int):Bool:=
 List.rec (motive:=λ_=>Bool) true (λh t ih=>cond (List.rec (motive:=λ_=>Bool) true (λh' _ _=>ltI h h') t) ih false) l
def intsK (l:List Int):Nat→(Nat→List SV→RR)→RR:=
 List.rec (motive:=λ_=>Nat→(Nat→List SV→RR)→RR) (λm k=>k m []) (λh _ ih m k=>ih (Nat.succ m) λm r=>k m (.int .i64 h::r)) l
def srtK (g:Nat) (agg:Bool) (v:Nat):Contract RR:=fun args fz mu n k=>
 uncons args λx r=>noMore r (x.onOne zz λx=>x.onFn zz λf caps=>cond (Nat.beq f g) (uncons caps λc r=>noMore r (cond (Nat.beq c.2 0) (lookAny fz mu c.1 zz λcs=>uncons cs λh t=>h.onMk zz λm=>cond (Nat.beq m 1) (uncons t λs t=>noMore t
  (readM zz fz mu agg v s λes=>keysK es λl=>sortK l λl=>cond (risesK l) (intsK l 0 λm cs=>cond (Nat.ble m 1073741824) (Nat.rec (motive:=λ_=>RR) (k (.one .nsl) mu n) (λ_ _=>fN (Nat.succ n) λn'=>k (.one (.osl n 0 m m 1)) ((n,cs)::mu) n') m) zz) zz)) zz) zz)) zz)
section
variable {T:RR→Prop} {P:Program} {val:Nat→Int} {fz:Fz} {ρ:Rho} {mu:St} {n:Nat} {w:World} {r:Ren}
theorem hasBody_of {f:FuncId} {B:Func} (h:Bears P f B) (hb:B.body.isSome=true):hasBody P f=true:=by
 obtain⟨nm,hn,hf⟩:=h
 unfold hasBody
 rw[hf]
 show(B.body.isSome&&!(nm== "runtime.NumGoroutine"))=true
 rw[hb,hn];rfl
theorem mkK_ok (hz:¬T zz) (L:SlLaysZI.n7 P r):ContractOk T P val (r.f 7) (mkK (r.f 10)):=by
 intro args fz mu n k ht
 have hbody:hasBody P (r.f 7)=true:=hasBody_of L.f7 rfl
 obtain⟨x,r1,rfl,h1⟩:=uncons_elim hz ht
 obtain⟨rfl,h3⟩:=noMore_elim hz h1
 obtain⟨x,rfl,h4⟩:=onOne_elim hz h3
 have key:T (k (.one (.fn (r.f 10) [(n,0)])) ((n,[.mk 1,x])::mu) (n+1))→(∀ρ w x1,VR val ρ w x x1→∃mb,x1=.map mb)→∃v mu' n',T (k v mu' n')∧hasBody P (r.f 7)=true∧n≤n'∧∀ρ w (xs:List Value),Rel val ρ fz mu w→All2 (AVR val ρ w) [.one x] xs→FreshN ρ n n'→
  Calls P (r.f 7) xs.toArray w λe w'=>∃x,e=.returned x∧Post val ρ fz mu n w v mu' n' x w':=by
  intro hk hm
  refine⟨_,_,_,hk,hbody,Nat.le_succ _,λρ w xs hr hx hf=>?_⟩
  match xs,hx with
  |[x1],hx=>
  have hn:=hf n (Nat.le_refl _) (Nat.lt_succ_self _)
  obtain⟨mb,rfl⟩:=hm ρ w x1 hx.1
  refine(callsIn_wide.1 (AnyZI.keys_in L Fence.wide 5 trivial rfl mb w)).mono λe w' ⟨he,hw'⟩=>⟨_,he,?_⟩
  subst hw'
  have st:Stp val fz ρ mu n w (upd ρ n (w.heap.size,0)) ((n,[.mk 1,x])::mu) (n+1) (w.alloc (.cells #[.map mb] (r.t 23))):=by
   refine Stp.new rfl rfl rfl (by show(w.heap.push _).size=_;simp) (λb hb=>alloc_old (w:=w) _ hb) hr hn (λhbs=>?_)
   exact .inr (.box w.heap.size (r.t 23) (0,0) x (.map mb) (upd_same _ _ _) (alloc_new (w:=w) _) (VR.mono hx.1 (λid q hq=>upd_old hn id q hq) hbs))
  exact st.post ⟨[.pointer (some ⟨w.heap.size,0,none⟩)],rfl,⟨(w.heap.size,0),upd_same _ _ _,rfl⟩,trivial⟩
 cases x with
 |nmp=>
  have h5:T (fN (Nat.succ n) λn'=>k (.one (.fn (r.f 10) [(n,0)])) ((n,[.mk 1,.nmp])::mu) n'):=h4
  rw[fN_eq]at h5
  exact key h5 λρ w x1 h=>⟨none,h⟩
 |mp id=>
  have h5:T (fN (Nat.succ n) λn'=>k (.one (.fn (r.f 10) [(n,0)])) ((n,[.mk 1,.mp id])::mu) n'):=h4
  rw[fN_eq]at h5
  exact key h5 λρ w x1 ⟨p,_,_,h⟩=>⟨_,h⟩
 |_=>exact(hz h4).elim
theorem keysK_elim (hz:¬T zz):∀{es:List (SV×List SV)} {k:List Int→RR},T (keysK es k)→∃l:List Int,es.map (·.1)=l.map (SV.int .i64)∧(∀i∈l,-9223372036854775808≤i∧i<9223372036854775808)∧T (k l)
 |[],k,h=>⟨[],rfl,λ_ h=>(by cases h),h⟩
 |e::es,k,h=>by
  obtain⟨kd,i,e1,h1⟩:=onInt_elim hz (show T (e.1.onInt zz λkd i=>cond (IntKind.eqb kd .i64) (cond (ltI i (Int.ofNat 9223372036854775808)) (cond (ltI i (Int.negSucc 9223372036854775807)) zz (keysK es λr=>k (i::r))) zz) zz)from h)
  obtain⟨h2,h3⟩:=cond_elim hz h1
  have:=eqb_eq h2
  subst this
  obtain⟨h4,h5⟩:=cond_elim hz h3
  obtain⟨h6,h7⟩:=cond_elim' hz h5
  obtain⟨l,g1,g2,g3⟩:=keysK_elim hz (es:=es) h7
  rw[ltI_eq]at h4 h6
  refine⟨i::l,by simp[e1,g1],λj hj=>?_,g3⟩
  simp only[List.mem_cons]at hj
  rcases hj with rfl|hj
  ·simp only[decide_eq_true_eq,decide_eq_false_iff_not]at h4 h6
   have e2:Int.negSucc 9223372036854775807= -9223372036854775808:=rfl
   have e3:Int.ofNat 9223372036854775808=9223372036854775808:=rfl
   rw[e3]at h4
   rw[e2]at h6
   omega
  ·exact g2 j hj
theorem insK_elim {x:Int}:∀{l:List Int} {k:List Int→RR},T (insK x l k)→∃l',l'.Perm (x::l)∧T (k l')
 |[],k,h=>⟨[x],.refl _,h⟩
 |a::l,k,h=>by
  have h1:T (cond (ltI x a) (k (x::a::l)) (insK x l λr=>k (a::r))):=h
  cases e:ltI x a with
  |true=>rw[e]at h1;exact⟨_,.refl _,h1⟩
  |false=>
   rw[e]at h1
   obtain⟨l',h2,h3⟩:=insK_elim (l:=l) h1
   exact⟨a::l',(h2.cons a).trans (.swap x a l),h3⟩
theorem sortK_elim:∀{l:List Int} {k:List Int→RR},T (sortK l k)→∃l',l'.Perm l∧T (k l')
 |[],k,h=>⟨[],.refl _,h⟩
 |a::l,k,h=>by
  obtain⟨l1,h1,h2⟩:=sortK_elim (l:=l) (show T (sortK l λr=>insK a r k)from h)
  obtain⟨l2,h3,h4⟩:=insK_elim h2
  exact⟨l2,h3.trans (h1.cons a),h4⟩
theorem risesK_iff:∀{l:List Int},risesK l=true→l.Pairwise (· <·)
 |[],_=>.nil
 |[a],_=>by simp
 |a::b::l,h=>by
  have h1:cond (ltI a b) (risesK (b::l)) false=true:=h
  cases e:ltI a b with
  |false=>rw[e]at h1;cases h1
  |true=>
   rw[e]at h1
   have ih:=risesK_iff (l:=b::l) h1
   rw[ltI_eq,decide_eq_true_eq]at e
   refine List.pairwise_cons.2 ⟨λx hx=>?_,ih⟩
   simp only[List.mem_cons]at hx
   rcases hx with rfl|hx
   ·exact e
   ·have:=(List.pairwise_cons.1 ih).1 x hx
    omega
theorem intsK_eq:∀(l:List Int) (m:Nat) (k:Nat→List SV→RR),intsK l m k=k (m+l.length) (l.map (SV.int .i64))
 |[],m,k=>rfl
 |a::l,m,k=>by
  show intsK l (Nat.succ m) (λm r=>k m (.int .i64 a::r))=_
  rw[intsK_eq]
  simp only[List.length_cons,List.map_cons]
  congr 1
  omega
theorem sorted_unique {l l':List Int} (hp:l.Perm l') (hs:l.Pairwise (· <·)):l'.mergeSort (λx y=>decide (x≤y))=l:=by
 have tr:∀a b c:Int,decide (a≤b)=true→decide (b≤c)=true→decide (a≤c)=true:=λa b c h1 h2=>by simp only[decide_eq_true_eq]at*;omega
 have to:∀a b:Int,(decide (a≤b)||decide (b≤a))=true:=λa b=>by simp only[Bool.or_eq_true,decide_eq_true_eq];omega
 refine List.Perm.eq_of_pairwise (le:=λa b=>decide (a≤b)=true) (λa b _ _ h1 h2=>?_) (List.pairwise_mergeSort tr to l') (hs.imp λh=>by simp only[decide_eq_true_eq];omega) ((List.mergeSort_perm l' _).trans hp.symm)
 simp only[decide_eq_true_eq]at h1 h2
 omega
def kInt:Value→Int
 |.int _ i=>i
 |_=>0
theorem map_owns {k:TypeId} (hk:P.underlying k=some (.int .i64)) {id:Nat} {agg:Bool} {v p clock:Nat} {es:List (SV×List SV)} {ms:Array MapEntry} (h:MapAt val ρ w id agg v es p ms clock) {l:List Int} (hl:es.map (·.1)=l.map (SV.int .i64)) (hb:∀i∈l, -9223372036854775808≤i∧i<9223372036854775808)
 (hnd:l.Nodup) (hsz:l.length≤1073741824):
 ∃D0:DataW Unit,w.ownsMap P k (λ_=>some (.lit (.bool true),[])) p ms.size D0∧(intKeys D0).Perm l∧Maps.size D0=l.length:=by
 obtain⟨h1,h2,h3,h4,h5,h6⟩:=h
 have hkeys:ms.toList.map (·.key)=l.map (Value.int .i64):=by
  refine List.ext_getElem? λi=>?_
  rw[List.getElem?_map,List.getElem?_map]
  have e1:=congrArg (λx=>x[i]?) hl
  simp only[List.getElem?_map]at e1
  cases e2:es[i]? with
  |none=>
   rw[e2]at e1
   have e3:l[i]?=none:=by
    cases h:l[i]? with
    |none=>rfl
    |some a=>rw[h]at e1;cases e1
   have e4:ms.toList[i]?=none:=by
    rw[List.getElem?_eq_none_iff]at e2⊢
    rw[←h4.length];exact e2
   rw[e3,e4];rfl
  |some e=>
   rw[e2]at e1
   obtain⟨m,hm,hmm⟩:=h4.get e2
   cases e3:l[i]? with
   |none=>rw[e3]at e1;cases e1
   |some a=>
    rw[e3]at e1
    simp only[Option.map_some,Option.some.injEq]at e1
    have:m.key=.int .i64 a:=by
     have:=hmm.1
     rw[e1]at this
     exact this
    rw[hm]
    simp[this]
 have hlen:ms.size=l.length:=by
  have:=congrArg List.length hkeys
  simpa using this
 have hrd:∀x∈ms.toList,∃i,x.key=.int .i64 i∧WideElems.rd (H:=Unit) P k (λ_=>some (.lit (.bool true),[])) x=some (.int .i64 i,.lit (.bool true)):=by
  intro x hx
  have hx':x.key∈ms.toList.map (·.key):=List.mem_map_of_mem hx
  rw[hkeys]at hx'
  obtain⟨i,hi,e⟩:=List.mem_map.1 hx'
  refine⟨i,e.symm,?_⟩
  have hw:(Lit.int .i64 i).wf=true:=by
   have:=hb i hi
   have e1:IntKind.i64.min= -9223372036854775808:=rfl
   have e2:IntKind.i64.max=9223372036854775807:=rfl
   simp only[Lit.wf,e1,e2,Bool.and_eq_true,decide_eq_true_eq]
   omega
  unfold WideElems.rd keyOf
  rw[hk]
  simp only[mapKey,hk,←e,hw,and_self,if_true,Option.bind_some,Option.map_some]
 refine⟨.map ((ms.toList.map (WideElems.rg P k (λ_=>some (.lit (.bool true),[])))).foldr DataW.insert []),⟨ms,clock,h2,⟨by rw[hlen];unfold maxLen;omega,⟨h6,?_,?_⟩,λx hx=>?_⟩,Nat.le_refl _,rfl⟩,?_,?_⟩
 ·exact h5.imp λh e=>by omega
 ·rw[hkeys]
  exact List.pairwise_map.2 (hnd.imp λh e=>h (by simpa using e))
 ·obtain⟨i,_,h⟩:=hrd x hx
  exact⟨_,h⟩
 ·show(((ms.toList.map (WideElems.rg P k (λ_=>some (.lit (.bool true),[])))).foldr DataW.insert []).map λp=>intOf p.1).Perm l
  refine((WideShapes.sorted_perm _).map _).trans ?_
  rw[List.map_map]
  have:ms.toList.map ((λp:Lit×DataW Unit=>intOf p.1)∘WideElems.rg P k (λ_=>some (.lit (.bool true),[])))=l:=by
   have e1:ms.toList.map ((λp:Lit×DataW Unit=>intOf p.1)∘WideElems.rg P k (λ_=>some (.lit (.bool true),[])))=ms.toList.map λx=>kInt x.key:=by
    refine List.map_congr_left λx hx=>?_
    obtain⟨i,h,h'⟩:=hrd x hx
    simp only[Function.comp,WideElems.rg,h',h,Option.getD_some]
    rfl
   have e2:(ms.toList.map λx=>kInt x.key)=(ms.toList.map (·.key)).map kInt:=by rw[List.map_map];rfl
   rw[e1,e2,hkeys,List.map_map]
   exact List.map_id _
  rw[this]
 ·show((ms.toList.map _).foldr DataW.insert []).length=l.length
  rw[(WideShapes.sorted_perm _).length_eq]
  simpa using hlen
theorem box_inv {id:Nat} {s:SV} (h:OwnG val ρ w id [.mk 1,s]):∃p ty fr v,ρ id=some (p,0)∧w.heap[p]?=some (.cells #[v] ty fr)∧VR val ρ w s v:=by
 have h1:=h.other rfl
 generalize hc:[SV.mk 1,s]=cs at h1
 cases h1 with
 |map p agg v es ms clock=>
  injection hc with h2 h3
  injection h2 with h2
  have:=mtag_ne agg v;omega
 |text g l n C ty fr=>injection hc with h2 h3;injection h2 with h2;cases h2
 |bld p ty a s va vs=>injection hc with h2 h3;injection h2 with h2;cases h2
 |box p ty fr s v hp hw hv=>
  simp only[List.cons.injEq,true_and,and_true]at hc
  subst hc
  exact⟨p,ty,fr,v,hp,hw,hv⟩
 |glob p kd C ty fr v=>injection hc with h2 h3;injection h2 with h2;cases h2
theorem srtK_ok (hz:¬T zz) {r5 r6 r10:Ren} (L6:SlLaysZI.n6 P r6) (L10:SlLaysZI.n10 P r10) (L5:SlLaysM.n5 P r5) (h5:r5.f 5=r6.f 9) (agg:Bool) (v:Nat):ContractOk T P val (r6.f 6) (srtK (r10.f 10) agg v):=by
 intro args fz mu n k ht
 have hbody:hasBody P (r6.f 6)=true:=hasBody_of L6.f6 rfl
 obtain⟨x,r1,rfl,h1⟩:=uncons_elim hz ht
 obtain⟨rfl,h3⟩:=noMore_elim hz h1
 obtain⟨x,rfl,h4⟩:=onOne_elim hz h3
 obtain⟨f,caps,rfl,h6⟩:=onFn_elim hz h4
 obtain⟨h7,h8⟩:=cond_elim hz h6
 have:=beq_yes h7;subst this
 obtain⟨c,r2,rfl,h9⟩:=uncons_elim hz h8
 obtain⟨rfl,h10⟩:=noMore_elim hz h9
 obtain⟨h11,h12⟩:=cond_elim hz h10
 have hc2:=beq_yes h11
 obtain⟨cs,hl,h13⟩:=lookAny_elim hz h12
 obtain⟨hd,t,rfl,h14⟩:=uncons_elim hz h13
 obtain⟨m,rfl,h15⟩:=onMk_elim hz h14
 obtain⟨h16,h17⟩:=cond_elim hz h15
 have:=beq_yes h16;subst this
 obtain⟨s,t2,rfl,h18⟩:=uncons_elim hz h17
 obtain⟨rfl,h19⟩:=noMore_elim hz h18
 obtain⟨es,hseen,h20⟩:=readM_elim hz h19
 obtain⟨l0,hes,hrange,h21⟩:=keysK_elim hz h20
 obtain⟨l,hperm,h22⟩:=sortK_elim h21
 obtain⟨h23,h24⟩:=cond_elim hz h22
 have hrise:=risesK_iff h23
 rw[intsK_eq]at h24
 obtain⟨h25,h26⟩:=cond_elim hz h24
 have hsz:=Nat.le_of_ble_eq_true h25
 rw[Nat.zero_add]at hsz
 have hnd:l0.Nodup:=hperm.nodup_iff.1 (hrise.imp λh e=>by omega)
 have hlen:=hperm.length_eq
 -- what the model does
 have hrun:∀ρ w (xs:List Value),Rel val ρ fz mu w→All2 (AVR val ρ w) [.one (.fn (r10.f 10) [c])] xs→Calls P (r6.f 6) xs.toArray w fun e w'=>∃v,e=.returned v∧w'.ownsRow w.heap.size (r6.t 26) 1 v l.length (l.map encZ)∧(v=.slice none 0 0↔l=[])∧Below w.heap.size w w':=by
  intro ρ w xs hr hx
  match xs,hx with
  |[x1],hx=>
  obtain⟨vs,rfl,hcaps⟩:=(show∃vs:List Value,x1=.func (.func (r10.f 10)) #[] vs.toArray∧All2 (CapR ρ) [c] vs from hx.1)
  match vs,hcaps with
  |[cv],hcaps=>
  obtain⟨q,hq,rfl⟩:=hcaps.1
  obtain⟨p,ty,fr,mv,hp,hw,hmv⟩:=box_inv ((seenG hr hl).g rfl)
  rw[hp]at hq;cases hq
  have hlt:p<w.heap.size:=(seenG hr hl).lt hp
  have hcell:w.cell? ⟨p,0,none⟩=some mv:=by rw[Lib.cell_of_heap hw];rfl
  have hsorts:AnyZI.SortsIn P r6 Fence.wide 4:=
   ⟨fun blk off cap ss W hH hblk hsz=>callsIn_wide.2 (by rw[←h5];exact AnyM.slices_Sort_int L5 blk off cap ss W hH hblk hsz),
    λp cap W=>callsIn_wide.2 (by rw[←h5];exact AnyM.slices_Sort_int_none L5 p cap W)⟩
  have e9:∀args w,(callFunc (r6.f 9) args).run P w=.ok (.enter (r6.f 9) args) w:=by rw[←h5];exact L5.f5.enters rfl
  have hl0:Value.pointer (some ⟨(p,0).1,(p,0).2+c.2,none⟩)=.pointer (some ⟨p,0,none⟩):=by rw[hc2]
  have key:∀N (S:List Int→Prop),SeqGives Fence.wide 2 P (r10.f 10) #[.pointer (some ⟨p,0,none⟩)] encZ S N w→N≤1073741824→(∀ss,S ss→ss.Perm l)→
   Calls P (r6.f 6) #[.func (.func (r10.f 10)) #[] #[.pointer (some ⟨p,0,none⟩)]] w λe w'=>∃v,e=.returned v∧w'.ownsRow w.heap.size (r6.t 26) 1 v l.length (l.map encZ)∧(v=.slice none 0 0↔l=[])∧Below w.heap.size w w':=by
   intro N S hseq hN hS
   refine(callsIn_wide.1 (AnyZI.sorted_in L6 Fence.wide 5 trivial trivial trivial trivial rfl (by omega) hsorts e9 (r10.f 10) #[.pointer (some ⟨p,0,none⟩)] trivial (L10.f10.enters rfl) S N (by unfold maxLen;omega) (by omega) w hseq)).mono ?_
   rintro e w' ⟨v,ss,he,hSS,hrow,hnil,hbelow⟩
   have hps:=hS ss hSS
   rw[sorted_unique hps.symm hrise,hps.length_eq]at hrow
   refine⟨v,he,hrow,hnil.trans ?_,hbelow⟩
   constructor
   ·rintro rfl;exact(List.nil_perm.1 hps)
   ·rintro rfl;exact(List.perm_nil.1 hps)
  show Calls P (r6.f 6) #[.func (.func (r10.f 10)) #[] #[.pointer (some ⟨(p,0).1,(p,0).2+c.2,none⟩)]] w _
  rw[hl0]
  rcases hseen with⟨rfl,rfl⟩|⟨id,cs,rfl,hl2,rfl,hv⟩
  ·have hmv:mv=.map none:=hmv
   subst hmv
   have hl0:l0=[]:=by simpa using hes.symm
   subst hl0
   have hln:l=[]:=List.perm_nil.1 hperm
   subst hln
   exact key 0 _ (AnyZI.keys_gives_nil L10 Fence.wide 2 trivial rfl p w hlt hcell) (Nat.zero_le _) (λss h=>by rw[show ss=[]from h])
  ·obtain⟨pm,ms,clock,hma⟩:=((seenG hr hl2).g rfl).map hv
   obtain⟨q2,e1,e2,rfl⟩:=hmv
   rw[hma.1]at e1;cases e1
   obtain⟨D0,hown,hp1,hp2⟩:=map_owns (P:=P) L10.t26 hma hes hrange hnd (by omega)
   exact key _ _ (AnyZI.keys_gives L10 Fence.wide 2 trivial rfl (by omega) p pm ms.size D0 w hlt hcell hown) (by omega) (λss h=>h.trans (hp1.trans hperm.symm))
 cases hm:l.length with
 |zero=>
  rw[Nat.zero_add,hm]at h26
  refine⟨_,_,_,h26,hbody,Nat.le_refl _,λρ w xs hr hx hf=>(hrun ρ w xs hr hx).mono ?_⟩
  rintro e w' ⟨v,he,hrow,hnil,hb⟩
  refine⟨v,he,(Stp.below hr hb).post ?_⟩
  exact hnil.2 (List.eq_nil_of_length_eq_zero hm)
 |succ m=>
  rw[Nat.zero_add,hm]at h26
  have h27:T (fN (Nat.succ n) λn'=>k (.one (.osl n 0 (m+1) (m+1) 1)) ((n,l.map (SV.int .i64))::mu) n'):=h26
  rw[fN_eq]at h27
  refine⟨_,_,_,h27,hbody,Nat.le_succ _,λρ w xs hr hx hf=>(hrun ρ w xs hr hx).mono ?_⟩
  rintro e w' ⟨v,he,hrow,hnil,hb⟩
  have hn:=hf n (Nat.le_refl _) (Nat.lt_succ_self _)
  rcases hrow.2 with⟨rfl,h0⟩|⟨g,cap,cur,rfl,hbase,hg,hcap,hcm,hcs,htake⟩
  ·have:=hnil.1 rfl
   rw[this]at hm;cases hm
  ·have st:Stp val fz ρ mu n w (upd ρ n (g,0)) ((n,l.map (SV.int .i64))::mu) (n+1) w':=by
    refine Stp.newB hb hbase hr hn λhbs=>.inl ⟨(g,0),cur,r6.t 26,(0,0),upd_same _ _ _,hg,FrOk.zero _,by simp;omega,λi s hi=>?_⟩
    rw[List.getElem?_map]at hi
    obtain⟨a,ha,rfl⟩:=Option.map_eq_some_iff.1 hi
    refine⟨.int .i64 a,?_,rfl⟩
    have hi2:i<l.length:=(List.getElem?_eq_some_iff.1 ha).1
    have e3:(cur.toList.take (l.length*1))[i]?=(l.map encZ)[i]?:=by rw[htake]
    rw[List.getElem?_take,if_pos (by omega),List.getElem?_map,ha,Array.getElem?_toList]at e3
    show cur[0+i]?=_
    rw[Nat.zero_add,e3];rfl
   refine⟨_,he,st.post ⟨(g,0),cap,upd_same _ _ _,by rw[hm],Nat.le_refl _,by omega,?_,by unfold maxLen at hcm;omega⟩⟩
   show 0+0+cap*1≤bsize w' g
   have:bsize w' g=cur.size:=by unfold bsize;rw[hg]
   omega
end
end Go.Ev
namespace Go.Ev
open Go
def Under (w:World) (r bm:Nat) (ms:Array MapEntry) (clock:Nat) (seen:Array Nat):Prop:=
 ∃since c0,w.heap[r]?=some (.mapIter (some bm) since seen c0)∧w.heap[bm]?=some (.map ms clock)∧(∀x∈ms.toList,x.born<since)∧since≤c0∧since≤clock
structure But1 (r:Nat) (w w':World):Prop where
 os:w'.os=w.os
 tape:w'.tape=w.tape
 output:w'.output=w.output
 size:w'.heap.size=w.heap.size
 block:∀b,b≠r→w'.heap[b]?=w.heap[b]?
theorem Under.but {w w':World} {r bm b clock:Nat} {ms:Array MapEntry} {seen:Array Nat} (h:Under w r bm ms clock seen) (hb:But1 b w w') (h1:b≠r) (h2:b≠bm):Under w' r bm ms clock seen:=by
 obtain⟨s,c,a1,a2,a3,a4,a5⟩:=h
 exact⟨s,c,(hb.block r λe=>h1 e.symm).trans a1,(hb.block bm λe=>h2 e.symm).trans a2,a3,a4,a5⟩
def toCome (ms:Array MapEntry) (r:Nat) (w:World):Nat:=
 match w.heap[r]? with
 |some (.mapIter _ _ seen _)=>(leftOf ms seen).size
 |_=>0
theorem Under.toCome {w:World} {r bm clock:Nat} {ms:Array MapEntry} {seen:Array Nat} (h:Under w r bm ms clock seen):toCome ms r w=(leftOf ms seen).size:=by
 obtain⟨s,c,a1,_⟩:=h
 unfold Ev.toCome;rw[a1]
theorem left_mem {ms:Array MapEntry} {seen:Array Nat} {e:MapEntry}:e∈(leftOf ms seen).toList↔e∈ms.toList∧seen.contains e.born=false:=by
 unfold leftOf
 simp
theorem left_less {ms:Array MapEntry} {seen:Array Nat} {e:MapEntry} (h:e∈(leftOf ms seen).toList):(leftOf ms (seen.push e.born)).size<(leftOf ms seen).size:=left_shrinks ms seen e h
section
variable {P:Program} (w:World) {ops:Array Oper} {rest:List Oper} {o:Oper} {a:Act} {Q:Exit→Act→World→Prop}
theorem wpList_range_raw (hg:o.guard=none) (m:Operand) (t:TypeId) (hop:o.op=Op.range t m) (k e:TypeId) (ht:P.underlying t=some (.map k e)) (bm clock:Nat) (ms:Array MapEntry) (hm:a.eval m=.map (some bm)) (hb:w.heap[bm]?=some (.map ms clock)) (hc:∀x∈ms.toList,x.born<clock)
 (hK:∀w',Under w' w.heap.size bm ms clock #[]→w'=w.alloc (.mapIter (some bm) clock #[] clock)→wpList P ops Q rest (a.put o.dst (.pointer (some ⟨w.heap.size,0,none⟩))) w'):wpList P ops Q (o::rest) a w:=by
 refine wpList_plain hg λK' hK'=>?_
 unfold Oper.wp
 simp[execOp,hop,hm,run_range_map w t k e bm ms clock ht hb,Result.andThen]
 have hlt:bm<w.heap.size:=by
  rcases Nat.lt_or_ge bm w.heap.size with h|h
  ·exact h
  ·simp[Array.getElem?_eq_none h]at hb
 exact hK' _ _ (hK _ ⟨clock,clock,heap_alloc_new w _,(RowKit.Below.heap_alloc w _ bm hlt).trans hb,hc,Nat.le_refl _,Nat.le_refl _⟩ rfl)
theorem wpList_next_raw {α β:Type} (hg:o.guard=none) (it:Operand) (hop:o.op=Op.next it false) (r bm clock:Nat) (ms:Array MapEntry) (seen:Array Nat) (mkK:α→Value) (mkV:β→Value) (shapes:∀e∈ms.toList,∃x y,e.key=mkK x∧e.val=mkV y) (hn:(ms.toList.map (·.born)).Nodup)
 (hit:a.eval it=.pointer (some ⟨r,0,none⟩)) (h:Under w r bm ms clock seen) (hne:r≠bm)
 (hDone:(leftOf ms seen).size=0→wpList P ops Q rest (a.put o.dst (.tuple #[.bool false])) w)
 (hMore:∀(e:MapEntry) (x:α) (y:β) (w':World),e∈(leftOf ms seen).toList→e.key=mkK x→e.val=mkV y→Under w' r bm ms clock (seen.push e.born)→But1 r w w'→(Instr.entry (.pointer (some ⟨r,0,none⟩))).run P w'=.ok (.tuple #[mkK x,mkV y]) w'→
  wpList P ops Q rest (a.put o.dst (.tuple #[.bool true,mkK x,mkV y])) w'):wpList P ops Q (o::rest) a w:=by
 refine wpList_plain hg λK' hK'=>?_
 unfold Oper.wp
 obtain⟨since,c0,h1,h2,h3,h4,h5⟩:=h
 rcases run_next_at (P:=P) w o.type r bm since c0 seen ms clock h1 h2 h3 h4 with⟨g1,g2⟩|⟨e,he,w1,hw1,g2⟩
 ·simp[execOp,hop,hit,g2,Result.andThen]
  exact hK' _ _ (hDone g1)
 ·have hmem:=(left_mem.1 he).1
  obtain⟨x,y,hx,hy⟩:=shapes e hmem
  have hww:w1.heap=w.heap∧w1.os=w.os∧w1.tape=w.tape∧w1.output=w.output:=by
   rcases hw1 with e|e<;>rw[e]<;>exact⟨rfl,rfl,rfl,rfl⟩
  obtain⟨hh,hos,htp,hou⟩:=hww
  have hl:∀b:Nat,(w1.heap)[b]?=w.heap[b]?:=λb=>by rw[hh]
  have hs:w1.heap.size=w.heap.size:=by rw[hh]
  have hlt:r<w1.heap.size:=by
   rw[hs]
   rcases Nat.lt_or_ge r w.heap.size with h|h
   ·exact h
   ·simp[Array.getElem?_eq_none h]at h1
  have hr:(ChangeMaps.setBlock w1 r (.mapIter (some bm) since (seen.push e.born) clock)).heap[r]?=some (.mapIter (some bm) since (seen.push e.born) clock):=by
   simp[ChangeMaps.setBlock,hlt]
  have ho:∀b:Nat,b≠r→(ChangeMaps.setBlock w1 r (.mapIter (some bm) since (seen.push e.born) clock)).heap[b]?=w.heap[b]?:=λb hb=>by
   show(w1.heap.setIfInBounds r _)[b]?=_
   rw[Array.getElem?_setIfInBounds_ne (λx=>hb x.symm),hl]
  have hbm:=(ho bm λx=>hne x.symm).trans h2
  have hen:=run_entry_at (P:=P) _ r bm since seen ms clock e hr hbm hmem hn
  rw[hx,hy]at g2 hen
  simp[execOp,hop,hit,g2,Result.andThen]
  refine hK' _ _ (hMore e x y _ he hx hy ⟨since,clock,hr,hbm,h3,h5,h5⟩ ⟨hos,htp,hou,?_,ho⟩ hen)
  show(w1.heap.setIfInBounds r _).size=_
  rw[Array.size_setIfInBounds,hs]
end
end Go.Ev
namespace Go.Ev
open Go.RowKit
structure SyncAt (pL oL pm r:Nat) (C:Array Value) (ty:TypeId) (fr:Nat×Nat) (ms:Array MapEntry) (clock:Nat) (w0 w:World) (seen:Array Nat) (C':Array Value):Prop where
 run:Under w r pm ms clock seen
 L:w.heap[pL]?=some (.cells C' ty fr)
 size:C'.size=C.size
 hit:∀m∈ms.toList,∀i:Nat,m.key=.int .i64 i→C'[oL+i]?=if seen.contains m.born then some m.val else C[oL+i]?
 miss:∀j:Nat,(∀m∈ms.toList,∀i:Nat,m.key=.int .i64 i→j≠oL+i)→C'[j]?=C[j]?
 os:w.os=w0.os
 tape:w.tape=w0.tape
 output:w.output=w0.output
 hs:w.heap.size=w0.heap.size+1
 block:∀b,b<w0.heap.size→b≠pL→w.heap[b]?=w0.heap[b]?
theorem pair_ne {α β:Type} {f:α→β} {l:List α} (h:l.Pairwise λx y=>f x≠f y) {a b:α} (ha:a∈l) (hb:b∈l) (he:f a=f b):a=b:=by
 induction l with
 |nil=>cases ha
 |cons x t ih=>
  obtain⟨h1,h2⟩:=List.pairwise_cons.1 h
  simp only[List.mem_cons]at ha hb
  rcases ha with rfl|ha
  ·rcases hb with rfl|hb
   ·rfl
   ·exact(h1 b hb he).elim
  ·rcases hb with rfl|hb
   ·exact(h1 a ha he.symm).elim
   ·exact ih h2 ha hb
theorem SyncAt.start {pL oL pm clock:Nat} {C:Array Value} {ty:TypeId} {fr:Nat×Nat} {ms:Array MapEntry} {w w0:World} (hu:Under w0 w.heap.size pm ms clock #[]) (hw0:w0=w.alloc (.mapIter (some pm) clock #[] clock)) (hL:w.heap[pL]?=some (.cells C ty fr)):
 SyncAt pL oL pm w.heap.size C ty fr ms clock w w0 #[] C:=by
 subst hw0
 have hpL:pL<w.heap.size:=(Array.getElem?_eq_some_iff.1 hL).1
 exact⟨hu,(Below.heap_alloc w _ pL hpL).trans hL,rfl,λm _ i _=>by simp,λj _=>rfl,rfl,rfl,rfl,by simp,λb hb _=>Below.heap_alloc w _ b hb⟩
theorem SyncAt.step {pL oL pm clock:Nat} {C C':Array Value} {ty:TypeId} {fr:Nat×Nat} {ms:Array MapEntry} {w wr w1:World} {seen:Array Nat} {len x:Nat} {e:MapEntry} {y:Value} (h:SyncAt pL oL pm w.heap.size C ty fr ms clock w wr seen C')
 (hpL:pL<w.heap.size) (hmL:pm≠pL) (he:e∈(leftOf ms seen).toList) (hx:e.key=.int .i64 x) (hy:e.val=y) (hu1:Under w1 w.heap.size pm ms clock (seen.push e.born)) (hb1:But1 w.heap.size wr w1) (hlen:oL+len≤C.size) (hxl:x<len)
 (hinj:ms.toList.Pairwise λx y=>x.key≠y.key) (hborn:(ms.toList.map (·.born)).Nodup):
 (∃seen C',SyncAt pL oL pm w.heap.size C ty fr ms clock w (w1.setCell ⟨pL,oL+x,none⟩ y) seen C')∧toCome ms w.heap.size (w1.setCell ⟨pL,oL+x,none⟩ y)<toCome ms w.heap.size wr:=by
 have hmem:=(left_mem.1 he).1
 have hL1:w1.heap[pL]?=some (.cells C' ty fr):=(hb1.block pL (by omega)).trans h.L
 have e1:=setCell_eq_setRow w1 pL (oL+x) C' ty fr y hL1
 have hother:∀b:Nat,b≠pL→(w1.setCell ⟨pL,oL+x,none⟩ y).heap[b]?=w1.heap[b]?:=λb hb=>by rw[e1];exact setRow_other w1 pL b _ hb
 have hsz:(w1.setCell ⟨pL,oL+x,none⟩ y).heap.size=w1.heap.size:=by rw[e1];simp
 have hu2:Under (w1.setCell ⟨pL,oL+x,none⟩ y) w.heap.size pm ms clock (seen.push e.born):=hu1.but (b:=pL) ⟨rfl,rfl,rfl,hsz,hother⟩ (by omega) (λh=>hmL h.symm)
 have hb:ms.toList.Pairwise λx y=>x.born≠y.born:=List.pairwise_map.1 hborn
 refine⟨⟨seen.push e.born,C'.setIfInBounds (oL+x) y,hu2,by rw[e1];exact setRow_heap w1 pL C' _ ty fr hL1,by rw[Array.size_setIfInBounds,h.size],λm hm i hi=>?_,λj hj=>?_,hb1.os.trans h.os,hb1.tape.trans h.tape,hb1.output.trans h.output,by rw[hsz,hb1.size,h.hs],λb hb hne=>?_⟩,?_⟩
 ·by_cases hix:i=x
  ·subst hix
   have:m=e:=pair_ne hinj hm hmem (by rw[hi,hx])
   subst this
   rw[Array.getElem?_setIfInBounds_self_of_lt (by rw[h.size];omega)]
   simp[hy]
  ·rw[Array.getElem?_setIfInBounds_ne (by omega),h.hit m hm i hi]
   have hne:m.born≠e.born:=λhbb=>by
    have:m=e:=pair_ne hb hm hmem hbb
    subst this
    rw[hx]at hi
    injection hi with _ hi
    omega
   have:(seen.push e.born).contains m.born=seen.contains m.born:=by
    simp[hne]
   rw[this]
 ·rw[Array.getElem?_setIfInBounds_ne (λhjj=>hj e hmem x hx hjj.symm),h.miss j hj]
 ·rw[hother b hne,hb1.block b (by omega),h.block b hb hne]
 ·rw[hu2.toCome,h.run.toCome]
  exact left_less he
theorem SyncAt.all {pL oL pm r clock:Nat} {C C':Array Value} {ty:TypeId} {fr:Nat×Nat} {ms:Array MapEntry} {w wr:World} {seen:Array Nat} (h:SyncAt pL oL pm r C ty fr ms clock w wr seen C') (h0:(leftOf ms seen).size=0):
 ∀m∈ms.toList,∀i:Nat,m.key=.int .i64 i→C'[oL+i]?=some m.val:=by
 intro m hm i hi
 rw[h.hit m hm i hi]
 cases hc:seen.contains m.born with
 |true=>rfl
 |false=>
  have:=left_mem.2 ⟨hm,hc⟩
  have h1:leftOf ms seen=#[]:=Array.eq_empty_of_size_eq_zero h0
  rw[h1]at this
  simp at this
def scatK (off len:Nat) (es:List (SV×List SV)):List SV→(List SV→RR)→RR:=
 List.rec (motive:=λ_=>List SV→(List SV→RR)→RR) (λlc k=>k lc)
  (λe _ ih lc k=>e.1.onInt zz λkd i=>cond (IntKind.eqb kd .i64) (Int.rec (motive:=λ_=>RR) (λm=>cond (Nat.blt m len) (uncons e.2 λv r=>noMore r (cond v.isStr (fN (Nat.add off m) λp=>overK lc p [v] zz λlc=>ih lc k) zz)) zz) (λ_=>zz) i) zz) es
def syK:Contract RR:=fun args fz mu n k=>
 uncons args λx r=>noMore r (x.onOne zz λx=>x.onPtr zz λd o=>lookAll fz mu d zz λcs=>subK cs o 3 zz λcs=>uncons cs λx0 cs=>uncons cs λx1 cs=>uncons cs λx2 _=>
  SV.rec (motive:=λ_=>RR) zz (λ_ _=>zz) (λ_=>zz) (λ_ _=>zz) zz
   (x0.onSl zz λL off len _ s=>cond (Nat.beq s 1) (cond (Nat.beq d L) zz (onLook mu L zz λlc=>x1.onMp zz λf=>ownM zz mu false 1 x1 λ_ es=>keysK es λl=>sortK l λl=>cond (risesK l) (scatK off len es lc λlc=>putK mu L lc λmu=>setM mu false 1 f [] λmu=>k (.one (.int .i64 (Int.ofNat 0))) mu n) zz)) zz)
   zz (λ_ _=>k (.one (.int .i64 (Int.ofNat 0))) mu n) (λ_ _ _ _ _=>zz) zz zz (λ_ _=>zz) (λ_ _=>zz) zz (λ_=>zz) zz (λ_=>zz) x2)
inductive Scat (off len:Nat):List (SV×List SV)→List SV→List SV→Prop where
 |nil (lc):Scat off len [] lc lc
 |cons (m:Nat) (a b:Nat) (es lc lc'):m<len→off+m<lc.length→Scat off len es (over lc (off+m) [.str a b]) lc'→Scat off len ((.int .i64 (Int.ofNat m),[.str a b])::es) lc lc'
section
variable {T:RR→Prop} {P:Program} {val:Nat→Int} {fz:Fz} {ρ:Rho} {mu:St} {n:Nat} {w w':World}
theorem isStr_elim {v:SV} (h:v.isStr=true):∃a b,v=.str a b:=by cases v<;>first|exact⟨_,_,rfl⟩|cases h
theorem scatK_elim (hz:¬T zz) {off len:Nat}:∀{es:List (SV×List SV)} {lc:List SV} {k:List SV→RR},T (scatK off len es lc k)→∃lc',Scat off len es lc lc'∧T (k lc')
 |[],lc,k,h=>⟨lc,.nil lc,h⟩
 |(x,c)::es,lc,k,h=>by
  have h0:T (x.onInt zz λkd i=>cond (IntKind.eqb kd .i64) (Int.rec (motive:=λ_=>RR) (λm=>cond (Nat.blt m len) (uncons c λv r=>noMore r (cond v.isStr (fN (Nat.add off m) λp=>overK lc p [v] zz λlc=>scatK off len es lc k) zz)) zz) (λ_=>zz) i) zz):=h
  obtain⟨kd,i,rfl,h1⟩:=onInt_elim hz h0
  obtain⟨h2,h3⟩:=cond_elim hz h1
  have:=eqb_eq h2
  subst this
  cases i with
  |negSucc m=>exact(hz h3).elim
  |ofNat m=>
   obtain⟨h4,h5⟩:=cond_elim hz (show T (cond (Nat.blt m len) _ zz)from h3)
   obtain⟨v,r,rfl,h6⟩:=uncons_elim hz h5
   obtain⟨rfl,h7⟩:=noMore_elim hz h6
   obtain⟨h8,h9⟩:=cond_elim hz h7
   obtain⟨a,b,rfl⟩:=isStr_elim h8
   rw[fN_eq]at h9
   obtain⟨h10,h11⟩:=overK_elim hz h9
   obtain⟨lc',h12,h13⟩:=scatK_elim hz (es:=es) h11
   exact⟨lc',.cons m a b es lc lc' (by simpa[Nat.blt_eq]using h4) (by have h10:off+m+1≤lc.length:=h10;omega) h12,h13⟩
theorem Scat.length {off len:Nat} {es:List (SV×List SV)} {lc lc':List SV} (h:Scat off len es lc lc'):lc'.length=lc.length:=by
 induction h with
 |nil=>rfl
 |cons m a b es lc lc' h1 h2 _ ih=>rw[ih,over_length (show off+m+1≤lc.length from h2)]
theorem Scat.keys {off len:Nat} {es:List (SV×List SV)} {lc lc':List SV} (h:Scat off len es lc lc'):∀e∈es,∃m a b,e=(.int .i64 (Int.ofNat m),[.str a b])∧m<len∧off+m<lc.length:=by
 induction h with
 |nil=>intro e h;cases h
 |cons m a b es lc lc' h1 h2 _ ih=>
  intro e he
  simp only[List.mem_cons]at he
  rcases he with rfl|he
  ·exact⟨m,a,b,rfl,h1,h2⟩
  ·obtain⟨m',a',b',e1,e2,e3⟩:=ih e he
   rw[over_length (show off+m+1≤lc.length from h2)]at e3
   exact⟨m',a',b',e1,e2,e3⟩
theorem Scat.miss {off len:Nat} {es:List (SV×List SV)} {lc lc':List SV} (h:Scat off len es lc lc') {j:Nat} (hj:∀e∈es,∀m:Nat,e.1=.int .i64 (Int.ofNat m)→j≠off+m):lc'[j]?=lc[j]?:=by
 induction h with
 |nil=>rfl
 |cons m a b es lc lc' h1 h2 _ ih=>
  rw[ih λe he=>hj e (by simp[he]),over_get (show off+m+1≤lc.length from h2)]
  have:=hj (.int .i64 (Int.ofNat m),[.str a b]) (by simp) m rfl
  by_cases h3:j<off+m
  ·simp[h3]
  ·simp[h3,show¬j<off+m+1 by omega]
theorem Scat.hit {off len:Nat} {es:List (SV×List SV)} {lc lc':List SV} (h:Scat off len es lc lc') (hn:(es.map (·.1)).Nodup):∀e∈es,∀m:Nat,e.1=.int .i64 (Int.ofNat m)→∃v,e.2=[v]∧lc'[off+m]?=some v:=by
 induction h with
 |nil=>intro e h;cases h
 |cons m a b es lc lc' h1 h2 h3 ih=>
  intro e he m' hm'
  simp only[List.map_cons,List.nodup_cons]at hn
  simp only[List.mem_cons]at he
  rcases he with rfl|he
  ·injection hm' with _ hm'
   injection hm' with hm'
   subst hm'
   refine⟨_,rfl,?_⟩
   rw[h3.miss (λe he m' hm'=>?_),over_get (show off+m+1≤lc.length from h2)]
   ·simp
   ·intro e2
    have:m=m':=by omega
    subst this
    exact hn.1 (List.mem_map.2 ⟨e,he,hm'⟩)
  ·exact ih hn.2 e he m' hm'
theorem Stp.putB {id:Nat} {cs cs':List SV} {p:Nat×Nat} (hr:Rel val ρ fz mu w) (hl:look mu id=some cs) (hp:ρ id=some p) (hos:w'.os=w.os) (htp:w'.tape=w.tape) (hou:w'.output=w.output)
 (hsz:w.heap.size≤w'.heap.size) (hother:∀b,b<w.heap.size→b≠p.1→w'.heap[b]?=w.heap[b]?) (hb0:bsize w p.1≤bsize w' p.1) (hown:(∀b,bsize w b≤bsize w' b)→OwnG val ρ w' id cs'):
 Stp val fz ρ mu n w ρ (putS mu id cs') n w':=by
 have hbs:∀b,bsize w b≤bsize w' b:=λb=>by
  by_cases e:b=p.1
  ·subst e;exact hb0
  ·by_cases h:b<w.heap.size
   ·unfold bsize;rw[hother b h e];exact Nat.le_refl _
   ·have:bsize w b=0:=by unfold bsize;rw[Array.getElem?_eq_none (by omega)]
    omega
 have hown:=hown hbs
 have hlk:∀id',(look (putS mu id cs') id').isSome=(look mu id').isSome:=by
  intro id'
  rw[look_putS]
  split
  ·subst_vars;simp[hl]
  ·rfl
 have keepOwn:∀id' c,id'≠id→((look mu id').isSome∨(fz id').isSome)→OwnG val ρ w id' c→OwnG val ρ w' id' c:=by
  intro id' c hne hlv hown
  refine hown.mono (λ_ _ h=>h) hbs λq hq=>hother _ (hown.lt hq) λe=>hne ?_
  exact(hr.dj id id' p q (by simp[hl]) hlv hp hq e.symm).symm
 have keepF:∀id' c,id'≠id→((look mu id').isSome∨(fz id').isSome)→OwnF val ρ w id' c→OwnF val ρ w' id' c:=by
  intro id' c hne hlv hown
  refine hown.mono (λ_ _ h=>h) hbs λq hq=>hother _ (hown.lt hq) λe=>hne ?_
  exact(hr.dj id id' p q (by simp[hl]) hlv hp hq e.symm).symm
 refine⟨Nat.le_refl _,Ext.refl _ _ _,⟨λid' c h=>?_,λid' c h=>?_,λid' c h=>?_,λa b q q' ha hb hq hq' he=>?_⟩,
  ⟨hos,htp,hou,hsz,λb hlt hb=>hother b hlt λe=>hb id p (by simp[hl]) hp e.symm,hbs⟩,λa q ha hq=>.inr ⟨a,q,by rwa [hlk]at ha,hq,rfl⟩,λa ha=>.inl (by rwa [hlk]at ha)⟩
 ·refine keepF id' c (λe=>?_) (.inr (by simp[h])) (hr.rf id' c h)
  subst e;have:=hr.dm id' cs hl;rw[this]at h;cases h
 ·rw[look_putS]at h
  split at h
  ·rename_i e;subst e
   simp only[hl,Option.map_some,Option.some.injEq]at h
   subst h
   exact hown
  ·rename_i e
   exact keepOwn id' c (λx=>e x.symm) (.inl (by simp[h])) (hr.rm id' c h)
 ·have:=hlk id'
  rw[h]at this
  obtain⟨c',hc'⟩:=Option.isSome_iff_exists.1 this.symm
  exact hr.dm id' c' hc'
 ·rw[hlk]at ha hb
  exact hr.dj a b q q' ha hb hq hq' he
def SyncWalk (P:Program) (f:Nat):Prop:=
 ∀{pd od pL oL len cap pm clock:Nat} {C:Array Value} {ty:TypeId} {fr:Nat×Nat} {ms:Array MapEntry} {w:World},
  w.cell? ⟨pd,od,none⟩=some (.slice (some ⟨pL,oL,none⟩) len cap)→w.cell? ⟨pd,od+1,none⟩=some (.map (some pm))→w.cell? ⟨pd,od+2,none⟩=some (.pointer none)→
  w.heap[pm]?=some (.map ms clock)→w.heap[pL]?=some (.cells C ty fr)→FrOk fr C.size→oL+len≤C.size→pd≠pL→
  (∀e∈ms.toList,∃(i:Nat) (s:ByteArray),e.key=.int .i64 i∧i<len∧e.val=.string s)→(ms.toList.Pairwise λx y=>x.key≠y.key)→(ms.toList.map (·.born)).Nodup→(∀m∈ms.toList,m.born<clock)→
  Calls P f #[.pointer (some ⟨pd,od,none⟩)] w λe w'=>e=.returned (.int .i64 0)∧∃w1 seen C',SyncAt pL oL pm w.heap.size C ty fr ms clock w w1 seen C'∧(leftOf ms seen).size=0∧w'=ChangeMaps.setBlock w1 pm (.map #[] clock)
def SyncFused (P:Program) (f:Nat):Prop:=
 ∀{pd od:Nat} {a:Addr} {w:World},w.cell? ⟨pd,od+2,none⟩=some (.pointer (some a))→Calls P f #[.pointer (some ⟨pd,od,none⟩)] w λe w'=>e=.returned (.int .i64 0)∧w'=w
theorem list3 {l:List SV} {a b c:SV} {t:List SV} {o:Nat} (h:(l.drop o).take 3=a::b::c::t):l[o]?=some a∧l[o+1]?=some b∧l[o+2]?=some c:=by
 have h0:((l.drop o).take 3)[0]?=some a:=by rw[h];rfl
 have h1:((l.drop o).take 3)[1]?=some b:=by rw[h];rfl
 have h2:((l.drop o).take 3)[2]?=some c:=by rw[h];rfl
 simp only[List.getElem?_take,List.getElem?_drop]at h0 h1 h2
 exact⟨by simpa using h0,by simpa using h1,by simpa using h2⟩
theorem own_cell {id:Nat} {cs:List SV} {p:Nat×Nat} {i:Nat} {s:SV} (h:OwnR val ρ w id cs) (hp:ρ id=some p) (hi:cs[i]?=some s):∃v,w.cell? ⟨p.1,p.2+i,none⟩=some v∧VR val ρ w s v:=by
 obtain⟨q,C,ty,fr,h1,h2,h4,h5⟩:=h
 rw[hp]at h1;cases h1
 obtain⟨v,e,r⟩:=h5 i s hi
 refine⟨v,?_,r⟩
 simp only[World.cell?,h2]
 simpa using e
theorem All2.right {α β:Type} {R:α→β→Prop} {x:List α} {y:List β} (h:All2 R x y) {b:β} (hb:b∈y):∃a∈x,R a b:=by
 obtain⟨i,hi⟩:=List.getElem?_of_mem hb
 have hlt:i<x.length:=by rw[h.length];exact(List.getElem?_eq_some_iff.1 hi).1
 obtain⟨b',hb',hR⟩:=h.get (List.getElem?_eq_getElem hlt)
 rw[hi]at hb';cases hb'
 exact⟨_,List.getElem_mem hlt,hR⟩
theorem All2.left {α β:Type} {R:α→β→Prop} {x:List α} {y:List β} (h:All2 R x y) {a:α} (ha:a∈x):∃b∈y,R a b:=by
 obtain⟨i,hi⟩:=List.getElem?_of_mem ha
 obtain⟨b,hb,hR⟩:=h.get hi
 exact⟨b,List.mem_of_getElem? hb,hR⟩
theorem map_keys {agg:Bool} {es:List (SV×List SV)} {ms:List MapEntry} (h4:All2 (EntR val ρ w agg) es ms) {l:List Int} (hl:es.map (·.1)=l.map (SV.int .i64)):ms.map (·.key)=l.map (Value.int .i64):=by
 induction es generalizing ms l with
 |nil=>
  cases ms with
  |nil=>cases l with
   |nil=>rfl
   |cons _ _=>cases hl
  |cons _ _=>exact h4.elim
 |cons e es ih=>
  cases ms with
  |nil=>exact h4.elim
  |cons m ms=>
   cases l with
   |nil=>cases hl
   |cons i l=>
    simp only[List.map_cons,List.cons.injEq]at hl⊢
    refine⟨?_,ih h4.2 hl.2⟩
    have:=h4.1.1
    rw[hl.1]at this
    exact this
theorem syK_ok (hz:¬T zz) {f:Nat} (hbody:hasBody P f=true) (hW:SyncWalk P f) (hF:SyncFused P f):ContractOk T P val f syK:=by
 intro args fz mu n k ht
 obtain⟨x,r1,rfl,h1⟩:=uncons_elim hz ht
 obtain⟨rfl,h2⟩:=noMore_elim hz h1
 obtain⟨x,rfl,h3⟩:=onOne_elim hz h2
 obtain⟨d,o,rfl,h4⟩:=onPtr_elim hz h3
 obtain⟨cs,⟨hlk,hplain⟩,h5⟩:=lookAll_elim hz h4
 obtain⟨_,h6⟩:=subK_elim hz h5
 generalize hcs:(cs.drop o).take 3=cs3 at h6
 obtain⟨x0,t0,rfl,h7⟩:=uncons_elim hz h6
 obtain⟨x1,t1,rfl,h8⟩:=uncons_elim hz h7
 obtain⟨x2,t2,rfl,h9⟩:=uncons_elim hz h8
 obtain⟨hc0,hc1,hc2⟩:=list3 hcs
 cases x2 with
 |optr a b=>
  refine⟨_,_,_,h9,hbody,Nat.le_refl _,λρ w xs hr hx _=>?_⟩
  match xs,hx with
  |[y],hx=>
  obtain⟨p,hp,rfl⟩:=(show∃p,ρ d=some p∧y=.pointer (some ⟨p.1,p.2+o,none⟩)from hx.1)
  obtain⟨v,hv,q,_,rfl⟩:=own_cell ((seenG hr hlk).plain hplain) hp hc2
  refine(hF (pd:=p.1) (od:=p.2+o) (by rw[Nat.add_assoc];exact hv)).mono λe w' ⟨he,hw'⟩=>⟨_,he,?_⟩
  subst hw'
  exact post_same hr rfl
 |npt=>
  obtain⟨L,off,len,cap,s,rfl,h10⟩:=onSl_elim hz (show T (x0.onSl zz λL off len _ s=>cond (Nat.beq s 1) (cond (Nat.beq d L) zz (onLook mu L zz λlc=>x1.onMp zz λf=>ownM zz mu false 1 x1 λ_ es=>keysK es λl=>sortK l λl=>cond (risesK l) (scatK off len es lc λlc=>putK mu L lc λmu=>setM mu false 1 f [] λmu=>k (.one (.int .i64 (Int.ofNat 0))) mu n) zz)) zz)from h9)
  obtain⟨h11,h12⟩:=cond_elim hz h10
  have:=beq_yes h11;subst this
  obtain⟨h13,h14⟩:=cond_elim' hz h12
  have hdL:d≠L:=Nat.ne_of_beq_eq_false h13
  obtain⟨lc,hlL,hpL,h15⟩:=onLook_elim hz h14
  obtain⟨f',rfl,h16⟩:=onMp_elim hz h15
  obtain⟨f'',es,e1,hlf,hvs,h17⟩:=ownM_elim hz h16
  cases e1
  obtain⟨l0,hes,hrange,h18⟩:=keysK_elim hz h17
  obtain⟨l,hperm,h19⟩:=sortK_elim h18
  obtain⟨h20,h21⟩:=cond_elim hz h19
  have hnd:l0.Nodup:=hperm.nodup_iff.1 ((risesK_iff h20).imp λh e=>by omega)
  obtain⟨lc',hsc,h22⟩:=scatK_elim hz h21
  rw[putK_eq,setM_eq]at h22
  refine⟨_,_,_,h22,hbody,Nat.le_refl _,λρ w xs hr hx _=>?_⟩
  match xs,hx with
  |[y],hx=>
  obtain⟨p,hp,rfl⟩:=(show∃p,ρ d=some p∧y=.pointer (some ⟨p.1,p.2+o,none⟩)from hx.1)
  have hod:=(seenG hr hlk).plain hplain
  obtain⟨v0,hv0,pq,c,hpq,rfl,hlc1,hlc2,hcap,_⟩:=own_cell hod hp hc0
  obtain⟨v1,hv1,pm,hpm,hpm0,rfl⟩:=own_cell hod hp hc1
  obtain⟨v2,hv2,r2⟩:=own_cell hod hp hc2
  have r2:v2=.pointer none:=r2
  subst r2
  obtain⟨pL,C,ty,fr,hL1,hL2,hfr,hLs,hLc⟩:=(hr.rm L _ hlL).plain hpL
  rw[hpq]at hL1;cases hL1
  obtain⟨pm',ms,clock,hma⟩:=(hr.rm f' _ hlf).map hvs
  obtain⟨g1,g2,g3,g4,g5,g6⟩:=hma
  rw[hpm]at g1;cases g1
  have hbsz:bsize w pq.1=C.size:=by unfold bsize;rw[hL2]
  rw[hbsz]at hcap
  have hne:p.1≠pq.1:=λe=>hdL ((hr.dj L d pq p (by simp[hlL]) (by rcases hlk with h|⟨_,h⟩<;>simp[h]) hpq hp e.symm).symm)
  have hlen:pq.2+off+len≤C.size:=by omega
  have hkk:=map_keys g4 hes
  have hk:∀e∈ms.toList,∃(i:Nat) (s:ByteArray),e.key=.int .i64 i∧i<len∧e.val=.string s:=by
   intro me hme
   obtain⟨e,he,hee⟩:=g4.right hme
   obtain⟨m,a,b,rfl,h23,_⟩:=hsc.keys e he
   obtain⟨hk1,vs,hk2,hk3⟩:=hee
   have hk2:vs=[me.val]:=hk2
   subst hk2
   obtain⟨_,hk4⟩:=(show b<256^a∧me.val=.string (sOf a b)from hk3.1)
   exact⟨m,_,hk1,h23,hk4⟩
  have hinj:ms.toList.Pairwise λx y=>x.key≠y.key:=by
   rw[←List.pairwise_map (f:=λm:MapEntry=>m.key) (R:=λa b=>a≠b),hkk]
   exact List.pairwise_map.2 (hnd.imp λh e=>h (by simpa using e))
  have hb:(ms.toList.map (·.born)).Nodup:=g5.imp λh e=>by omega
  have hnde:(es.map (·.1)).Nodup:=by
   rw[hes]
   exact List.pairwise_map.2 (hnd.imp λh e=>h (by simpa using e))
  have hv0':w.cell? ⟨p.1,p.2+o,none⟩=some (.slice (some ⟨pq.1,pq.2+off,none⟩) len c):=hv0
  refine(hW (pd:=p.1) (od:=p.2+o) (pL:=pq.1) (oL:=pq.2+off) (pm:=pm') hv0' (by rw[Nat.add_assoc];exact hv1) (by rw[Nat.add_assoc];exact hv2) g2 hL2 hfr hlen hne hk hinj hb g6).mono ?_
  rintro e w' ⟨he,w1,seen,C',hS,h0,rfl⟩
  refine⟨_,he,?_⟩
  have hall:=hS.all h0
  have st1:Stp val fz ρ mu n w ρ (putS mu L lc') n w1:=by
   refine Stp.putB hr hlL hpq hS.os hS.tape hS.output (by rw[hS.hs];omega) hS.block (by unfold bsize;rw[hL2,hS.L];exact Nat.le_of_eq hS.size.symm) λhbs=>.inl ⟨pq,C',ty,fr,hpq,hS.L,by rw[hS.size];exact hfr,by rw[hsc.length,hS.size];exact hLs,λj s hj=>?_⟩
   by_cases hex:∃e∈es,∃m:Nat,e.1=.int .i64 (Int.ofNat m)∧j=off+m
   ·obtain⟨e,he,m,hem,rfl⟩:=hex
    obtain⟨v,hv,hvj⟩:=hsc.hit hnde e he m hem
    rw[hvj]at hj;cases hj
    obtain⟨me,hme,hee⟩:=g4.left he
    obtain⟨hk1,vs,hk2,hk3⟩:=hee
    have hk2:vs=[me.val]:=hk2
    subst hk2
    rw[hem]at hk1
    rw[hv]at hk3
    refine⟨me.val,?_,hk3.1.mono (λ_ _ h=>h) hbs⟩
    rw[←Nat.add_assoc]
    exact hall me hme m hk1
   ·rw[hsc.miss (λe he m hem hjm=>hex ⟨e,he,m,hem,hjm⟩)]at hj
    obtain⟨v,hv,hvr⟩:=hLc j s hj
    refine⟨v,?_,hvr.mono (λ_ _ h=>h) hbs⟩
    rw[hS.miss (pq.2+j) λme hme i hi hji=>?_]
    ·exact hv
    ·obtain⟨e,he,hee⟩:=g4.right hme
     obtain⟨m,a,b,rfl,_,_⟩:=hsc.keys e he
     have hk1:me.key=.int .i64 (Int.ofNat m):=hee.1
     rw[hi]at hk1
     injection hk1 with _ hk1
     have hk1:i=m:=by injection hk1
     subst hk1
     exact hex ⟨_,he,i,rfl,by omega⟩
  have hLf:L≠f':=λe=>by
   subst e;rw[hlL]at hlf;cases hlf;cases hpL
  have hlf2:look (putS mu L lc') f'=some (.mk (mtag false 1)::flatE es):=by rw[look_putS,if_neg hLf];exact hlf
  obtain⟨pm2,ms2,clock2,hma2⟩:=(st1.rel.rm f' _ hlf2).map hvs
  obtain⟨since,k0,q1,q2,_⟩:=hS.run
  have e2:pm2=pm':=by
   have:=hma2.1
   rw[hpm]at this;cases this;rfl
  subst e2
  have e3:=hma2.2.1
  rw[q2]at e3
  cases e3
  obtain⟨ρ',a1,a2,_,a4,a5,a6⟩:=map_set (n:=n) (clock':=clock) (ms':=#[]) (es':=[]) st1.rel hlf2 hma2 (λ_ h=>(by cases h)) trivial (by simp) (λ_ h=>(by simp at h))
  have st2:Stp val fz ρ (putS mu L lc') n w1 ρ' (putS (putS mu L lc') f' (.mk (mtag false 1)::flatE [])) n (ChangeMaps.setBlock w1 pm2 (.map #[] clock)):=⟨Nat.le_refl _,a1,a2,a4,a5,a6⟩
  exact(st1.trans st2).post rfl
 |_=>exact(hz h9).elim
end
end Go.Ev
namespace Go.Ev
def hashB (x b:Nat):Nat:=Nat.mod (Nat.mul (Nat.xor x b) 1099511628211) 18446744073709551616
def hashL (bs:List UInt8) (x:Nat):Nat:=bs.foldl (λx b=>hashB x b.toNat) x
def hashN (n l:Nat):Nat→(Nat→RR)→RR:=
 Nat.rec (motive:=λ_=>Nat→(Nat→RR)→RR) (λx k=>k x) (λi ih x k=>fN (hashB x (Nat.mod (Nat.div n (Nat.pow 256 i)) 256)) λx=>ih x k) l
theorem hashN_eq (n:Nat):∀(l x:Nat) (k:Nat→RR),hashN n l x k=k (hashL (sB l n) x)
 |0,x,k=>rfl
 |l+1,x,k=>by
  show fN (hashB x (n/256^l%256)) (λx=>hashN n l x k)=_
  rw[fN_eq,hashN_eq n l]
  have h:=sB_split (show 1≤l+1 by omega) n
  rw[show l+1-1=l by omega]at h
  rw[h]
  simp[sB,hashL,UInt8.toNat_ofNat']
theorem hashL_nil (x:Nat):hashL [] x=x:=rfl
theorem hashL_cons (b:UInt8) (bs:List UInt8) (x:Nat):hashL (b::bs) x=hashL bs (hashB x b.toNat):=by
 unfold hashL
 rw[List.foldl_cons]
theorem hashB_lt (x b:Nat):hashB x b<18446744073709551616:=by
 show(Nat.xor x b*1099511628211)%18446744073709551616<18446744073709551616
 omega
theorem hashL_lt (bs:List UInt8):∀{x:Nat},x<18446744073709551616→hashL bs x<18446744073709551616:=by
 induction bs with
 |nil=>intro x h;rw[hashL_nil];exact h
 |cons b bs ih=>intro x _;rw[hashL_cons];exact ih (hashB_lt x b.toNat)
theorem hashL_snoc:∀(bs:List UInt8) (b:UInt8) (x:Nat),hashL (bs++[b]) x=hashB (hashL bs x) b.toNat
 |[],b,x=>by rw[List.nil_append,hashL_cons,hashL_nil,hashL_nil]
 |c::bs,b,x=>by rw[List.cons_append,hashL_cons,hashL_cons,hashL_snoc bs]
theorem hash_round {x b:Nat} (hx:x<18446744073709551616) (hb:b<256):IntKind.u64.wrap (bits .xor .u64 (x:Int) (IntKind.u64.wrap (b:Int))*1099511628211)=Int.ofNat (hashB x b):=by
 have e1:IntKind.u64.wrap (b:Int)=((b:Nat):Int):=by rw[IntKind.wrap_u64];omega
 rw[e1,bits_xor_u64_nat x b hx (by omega),IntKind.wrap_u64]
 show _=(((x^^^b)*1099511628211%18446744073709551616:Nat):Int)
 generalize x^^^b=y
 omega
theorem hash_take {s:ByteArray} {k:Nat} (h:k<s.size) (x:Nat):hashL (s.data.toList.take (k+1)) x=hashB (hashL (s.data.toList.take k) x) (s[k]'h).toNat:=by
 have hl:k<s.data.toList.length:=by simpa using h
 rw[List.take_succ_eq_append_getElem hl,hashL_snoc]
 rfl
theorem hash_all {s:ByteArray} {k:Nat} (h1:k≤s.size) (h2:¬k<s.size) (x:Nat):hashL (s.data.toList.take k) x=hashL s.data.toList x:=by
 rw[List.take_of_length_le]
 have:s.data.toList.length=s.size:=by simp
 omega
def hsK:Contract RR:=λargs _ mu n k=>
 uncons args λx r=>noMore r (x.onOne zz λx=>x.onStr zz λl a=>cond (Nat.ble l 1099511627776) (hashN a l 14695981039346656037 λh=>k (.one (.int .u64 (Int.ofNat h))) mu n) zz)
def HashWalk (P:Program) (f:Nat):Prop:=
 ∀(s:ByteArray) (w:World),s.size≤1099511627776→Calls P f #[.string s] w λe w'=>e=.returned (.int .u64 (Int.ofNat (hashL s.data.toList 14695981039346656037)))∧w'=w
theorem hsK_ok {T:RR→Prop} {P:Program} {val:Nat→Int} (hz:¬T zz) {f:Nat} (hbody:hasBody P f=true) (hW:HashWalk P f):ContractOk T P val f hsK:=by
 intro args fz mu n k ht
 obtain⟨x,r1,rfl,h1⟩:=uncons_elim hz ht
 obtain⟨rfl,h2⟩:=noMore_elim hz h1
 obtain⟨x,rfl,h3⟩:=onOne_elim hz h2
 obtain⟨l,a,rfl,h4⟩:=onStr_elim hz h3
 obtain⟨h5,h6⟩:=cond_elim hz h4
 have hl:=Nat.le_of_ble_eq_true h5
 rw[hashN_eq]at h6
 refine⟨_,_,_,h6,hbody,Nat.le_refl _,λρ w xs hr hx _=>?_⟩
 match xs,hx with
 |[y],hx=>
 obtain⟨_,rfl⟩:=(show a<256^l∧y=.string (sOf l a)from hx.1)
 refine(hW (sOf l a) w (by rw[sOf_size];exact hl)).mono λe w' ⟨he,hw'⟩=>⟨_,he,?_⟩
 subst hw'
 exact post_same hr (by rw[sOf_list];rfl)
end Go.Ev
namespace Go.Ev
open Go.RowKit
section
variable {P:Program} (w:World) {ops:Array Oper} {rest:List Oper} {o:Oper} {a:Act} {Q:Exit→Act→World→Prop}
end
section
variable {T:RR→Prop} {P:Program} {val:Nat→Int} {fz:Fz} {ρ:Rho} {mu:St} {n:Nat} {w:World}
end
end Go.Ev
namespace Go.Ev
open Go.RowKit
section
variable {T:RR→Prop} {P:Program} {val:Nat→Int} {fz:Fz} {ρ:Rho} {mu:St} {n:Nat} {w:World} {orc:Orc RR} {call:CallT RR}
end
end Go.Ev
namespace Go.Ev
open Go.RowKit
abbrev Slc:=Option Addr×Nat×Nat
abbrev Pnt:=ByteArray×Int×Int
instance:Inhabited Pnt:=⟨(ByteArray.empty,0,0)⟩
instance:Inhabited Slc:=⟨(none,0,0)⟩
section
variable {T:RR→Prop} {P:Program} {val:Nat→Int} {fz:Fz} {ρ ρ1:Rho} {mu mu1:St} {n n1:Nat} {w W0 W':World}
end
end Go.Ev
namespace Go.Ev
inductive KTree where
 |nil
 |node (k:Nat) (c:Contract RR) (l r:KTree)
def KTree.find (t:KTree) (f:Nat):Option (Contract RR):=
 KTree.rec (motive:=λ_=>Option (Contract RR)) none (λk c _ _ ihl ihr=>Bool.rec (motive:=λ_=>Option (Contract RR)) (Bool.rec (motive:=λ_=>Option (Contract RR)) ihr ihl (Nat.ble f k)) (some c) (Nat.beq f k)) t
def KTree.Ok (T:RR→Prop) (P:Program) (val:Nat→Int):KTree→Prop
 |.nil=>True
 |.node k c l r=>ContractOk T P val k c∧l.Ok T P val∧r.Ok T P val
theorem KTree.ok {T:RR→Prop} {P:Program} {val:Nat→Int}:∀{t:KTree},t.Ok T P val→∀f c,t.find f=some c→ContractOk T P val f c
 |.nil,_,f,c,e=>by cases e
 |.node k v l r,ht,f,c,e=>by
  have e':Bool.rec (motive:=λ_=>Option (Contract RR)) (Bool.rec (motive:=λ_=>Option (Contract RR)) (r.find f) (l.find f) (Nat.ble f k)) (some v) (Nat.beq f k)=some c:=e
  cases e1:Nat.beq f k with
  |true=>
   rw[e1]at e'
   have:=Nat.eq_of_beq_eq_true e1
   subst this
   cases e'
   exact ht.1
  |false=>
   rw[e1]at e'
   cases e2:Nat.ble f k with
   |true=>rw[e2]at e';exact KTree.ok ht.2.1 f c e'
   |false=>rw[e2]at e';exact KTree.ok ht.2.2 f c e'
end Go.Ev
namespace Go.Ev
end Go.Ev
namespace Go.Ev
end Go.Ev
