/-
  The evaluator: code, regions of open order.
-/
import Derived.Test.YticddijkkbcdmaaGreatEwM3
import Derived.Scope
import Derived.LoopN
set_option linter.unusedVariables false
set_option linter.unusedSimpArgs false
noncomputable section
namespace Go.Ev
structure TmR (val:Nat→Int) (ρ:Rho) (w:World) (tm:TM) (a:Act):Prop where
 rng:∀t,inR tm (t/16) (t%16)→t<a.tmps.size
 vals:∀t,AVR val ρ w (get tm (t/16) (t%16)) (a.tmps.getD t undef)
section
variable {val:Nat→Int} {ρ ρ':Rho} {w w':World} {tm:TM} {a:Act}
theorem TmR.mono (h:TmR val ρ w tm a) (ho:∀id p,ρ id=some p→ρ' id=some p) (hs:∀b,bsize w b≤bsize w' b):TmR val ρ' w' tm a:=
 ⟨h.rng,λt=>(h.vals t).mono ho hs⟩
theorem TmR.set (h:TmR val ρ w tm a) (t:Nat) {v:AV} {x:Value} (hv:AVR val ρ w v x):TmR val ρ w (setT tm (t/16) (t%16) v) (a.put (some t) x):=by
 have hput:∀t',(a.put (some t) x).tmps.getD t' undef=if t'=t∧t<a.tmps.size then x else a.tmps.getD t' undef:=by
  intro t'
  simp only[Act.put,Array.getD_eq_getD_getElem?,Array.getElem?_setIfInBounds]
  by_cases e:t=t'
  ·subst e
   by_cases hl:t<a.tmps.size
   ·simp[hl]
   ·simp[hl,Array.getElem?_eq_none (Nat.le_of_not_lt hl)]
  ·have e':¬t'=t:=λx=>e x.symm
   simp[e,e']
 refine⟨λt' ht=>?_,λt'=>?_⟩
 ·simpa[Act.put]using h.rng t' (inR_setT ht)
 ·rw[hput]
  by_cases e:t'=t
  ·subst e
   rcases get_setT_same (tm:=tm) (q:=t'/16) (r:=t'%16) (v:=v)with⟨h1,h2⟩|⟨h1,h2⟩
   ·rw[h2];simp[h.rng t' h1,hv]
   ·rw[h2];trivial
  ·have hne:¬(t'/16=t/16∧t'%16=t%16):=by omega
   rw[get_setT_other hne]
   simp only[e,false_and,if_false]
   exact h.vals t'
def setDT (tm:TM) (dst:Option (Nat×Nat)) (v:AV):TM:=match dst with|none=>tm|some p=>setT tm p.1 p.2 v
theorem setDst_eq {R:Type} (tm:TM) (dst:Option (Nat×Nat)) (v:AV) (k:TM→R):setDst tm dst v k=k (setDT tm dst v):=by
 cases dst with
 |none=>rfl
 |some p=>exact setTm_eq _ _ _ _ _
theorem TmR.put (h:TmR val ρ w tm a) (dst:Option Nat) {v:AV} {x:Value} (hv:AVR val ρ w v x):TmR val ρ w (setDT tm (dst.map slot) v) (a.put dst x):=by
 cases dst with
 |none=>exact h
 |some t=>exact h.set t hv
theorem TmR.oper {P:Program} (h:TmR val ρ w tm a) (op:Op):OperR P val ρ w tm a op:=by
 intro x y _ hy
 cases x with
 |tmp t=>simp[od]at hy;subst hy;exact h.vals t
 |const v=>
  obtain⟨v',hv',rfl⟩:=Option.map_eq_some_iff.1 hy
  exact toAV_AVR hv'
 |global g=>cases hy
 |func f=>
  simp only[od]at hy
  split at hy
  ·cases hy;exact⟨[],rfl,trivial⟩
  ·cases hy
theorem TmR.ev {P:Program} (h:TmR val ρ w tm a) {x:Operand} {y:Od} (hy:od P x=some y):AVR val ρ w (Ev.ev tm y) (a.eval x):=h.oper (P:=P) (.move x) x y (by simp[Op.operands]) hy
end
def PostS (val:Nat→Int) (ρ:Rho) (fz:Fz) (mu:St) (n:Nat) (w:World) (a:Act) (tm':TM) (mu':St) (n':Nat) (a':Act) (w':World):Prop:=
 a'.defers=a.defers∧∃ρ',Ext ρ ρ' n n'∧Rel val ρ' fz mu' w'∧TmR val ρ' w' tm' a'∧Fr ρ mu w w'∧NewB ρ ρ' mu mu' w∧NewI mu mu' n n'
theorem PostS.refl {val:Nat→Int} {ρ:Rho} {fz:Fz} {mu:St} {n:Nat} {w:World} {a:Act} {tm:TM} (hr:Rel val ρ fz mu w) (ht:TmR val ρ w tm a):PostS val ρ fz mu n w a tm mu n a w:=
 ⟨rfl,ρ,Ext.refl _ _ _,hr,ht,Fr.refl _ _ _,NewB.refl,NewI.refl⟩
theorem PostS.trans {val:Nat→Int} {ρ ρ1:Rho} {fz:Fz} {mu mu1 mu2:St} {n n1 n2:Nat} {w w1 w2:World} {a a1 a2:Act} {tm2:TM} (hd:a1.defers=a.defers) (he:Ext ρ ρ1 n n1) (hf:Fr ρ mu w w1) (hb:NewB ρ ρ1 mu mu1 w) (hi:NewI mu mu1 n n1)
 (h1:n≤n1) (h2:n1≤n2) (h:PostS val ρ1 fz mu1 n1 w1 a1 tm2 mu2 n2 a2 w2):PostS val ρ fz mu n w a tm2 mu2 n2 a2 w2:=by
 obtain⟨d,ρ2,e2,r2,t2,f2,b2,i2⟩:=h
 exact⟨d.trans hd,ρ2,he.trans e2 h1 h2,r2,t2,hf.trans hb f2,hb.trans b2 hf.size,hi.trans i2 h1 h2⟩
section
variable {R:Type} {T:R→Prop} {z:R} {P:Program} {val:Nat→Int} {fz:Fz} {orc:Orc R} {call:CallT R}
def OpR (P:Program) (ops:Array Oper) (o:Oper) (ao:AOper):Prop:=ao.dst=o.dst.map slot∧prepOp P o.op=some ao.op∧guardOf ops o.guard=some ao.g
def StepS (P:Program) (val:Nat→Int) (fz:Fz) (ops:Array Oper) (o:Oper) (tm:TM) (mu:St) (n:Nat) (tm':TM) (mu':St) (n':Nat):Prop:=
 n≤n'∧∀ρ w a,Rel val ρ fz mu w→TmR val ρ w tm a→FreshN ρ n n'→∀(K:Act→World→Prop) (Q:Exit→Act→World→Prop),(∀a' w',PostS val ρ fz mu n w a tm' mu' n' a' w'→K a' w')→
  (if Region.wanted o (yielded ops a.tmps)then o.wp P a w K Q∨(o.asks P a w∧LetsOut Q)else K (a.put o.dst undef) w)
theorem put_defers (a:Act) (dst:Option Nat) (v:Value):(a.put dst v).defers=a.defers:=by cases dst<;>rfl
theorem wanted_elim (hz:¬T z) {ops:Array Oper} {g:Option (Nat×Bool)} {g':Option (Nat×Nat×Bool)} {tm:TM} {yes no:R} (hg:guardOf ops g=some g') (h:T (onWanted z g' tm yes no)):
 (T yes∧∀ρ w a,TmR val ρ w tm a→∀o:Oper,o.guard=g→Region.wanted o (yielded ops a.tmps)=true)∨(T no∧∀ρ w a,TmR val ρ w tm a→∀o:Oper,o.guard=g→Region.wanted o (yielded ops a.tmps)=false):=by
 cases g with
 |none=>
  simp[guardOf]at hg;subst hg
  exact .inl ⟨h,λρ w a _ o ho=>by simp[Region.wanted,ho]⟩
 |some p=>
  obtain⟨j,want⟩:=p
  simp only[guardOf]at hg
  split at hg
  ·rename_i t ht
   cases hg
   have hv:∀ρ w a,TmR val ρ w tm a→∀x,inR tm (t/16) (t%16)→a.tmps.getD t undef=x→a.tmps[t]?=some x:=by
    intro ρ w a hr x hin hx
    have hlt:=hr.rng t hin
    simp only[Array.getD_eq_getD_getElem?,Array.getElem?_eq_getElem hlt,Option.getD_some]at hx
    rw[Array.getElem?_eq_getElem hlt,hx]
   have hin:get tm (t/16) (t%16)≠.one .un→inR tm (t/16) (t%16):=by
    intro hne
    unfold get at hne
    simp only[nth_eq]at hne
    cases e:tm[t/16]? with
    |none=>rw[e]at hne;simp at hne
    |some row=>
     rw[e]at hne
     simp only[Option.getD_some]at hne
     refine⟨row,e,?_⟩
     rcases Nat.lt_or_ge (t%16) row.length with h|h
     ·exact h
     ·rw[List.getElem?_eq_none h]at hne;exact(hne rfl).elim
   have h':T (AV.rec (motive:=λ_=>R) (λs=>s.onBool z λb=>cond (b==want) yes no) (λ_=>z) (λl=>List.rec (motive:=λ_=>R) no (λ_ _ _=>z) l) (get tm (t/16) (t%16))):=h
   cases e:get tm (t/16) (t%16)with
   |one s=>
    rw[e]at h'
    obtain⟨b,e2,h2⟩:=onBool_elim hz h'
    subst e2
    have key:∀ρ w a,TmR val ρ w tm a→∀o:Oper,o.guard=some (j,want)→Region.wanted o (yielded ops a.tmps)=(b==want):=by
     intro ρ w a hr o ho
     have hx:=hr.vals t
     rw[e]at hx
     have hx':=hv ρ w a hr (.bool b) (hin (by rw[e];intro h;cases h)) hx
     have hy:yielded ops a.tmps j=some b:=by
      unfold yielded;rw[ht];simp[hx']
     simp only[Region.wanted,ho,hy]
     cases b<;>cases want<;>rfl
    cases hb:(b==want)with
    |true=>rw[hb]at h2 key;exact .inl ⟨h2,key⟩
    |false=>rw[hb]at h2 key;exact .inr ⟨h2,key⟩
   |ag l=>rw[e]at h';exact(hz h').elim
   |tp l=>
    rw[e]at h'
    cases l with
    |cons _ _=>exact(hz h').elim
    |nil=>
     refine .inr ⟨h',λρ w a hr o ho=>?_⟩
     have hx:=hr.vals t
     rw[e]at hx
     obtain⟨vs,hx1,hx2⟩:=hx
     have hvs:vs=[]:=by cases vs with|nil=>rfl|cons _ _=>exact hx2.elim
     subst hvs
     have hx':=hv ρ w a hr _ (hin (by rw[e];intro h;cases h)) hx1
     have hy:yielded ops a.tmps j=none:=by
      unfold yielded;rw[ht];simp[hx']
     simp[Region.wanted,ho,hy]
  ·cases hg
theorem stepK_sound (hz:¬T z) (hc:CallSound T P val call) (hk:OrcOk T val orc) {ops:Array Oper} {o:Oper} {ao:AOper} {tm:TM} {mu:St} {n:Nat} {k:TM→St→Nat→R} (hr:OpR P ops o ao) (h:T (stepK orc z call fz ao tm mu n k)):
 ∃tm' mu' n',T (k tm' mu' n')∧StepS P val fz ops o tm mu n tm' mu' n':=by
 obtain⟨hd,hp,hg⟩:=hr
 rcases wanted_elim (val:=val) hz hg h with⟨h1,hw⟩|⟨h1,hw⟩
 ·obtain⟨v,mu',n',h2,h3⟩:=aop_sound (P:=P) (val:=val) hz hc hk hp h1
  rw[setDst_eq]at h2
  refine⟨_,_,_,h2,h3.1,λρ w a hrel htm hf K Q hK=>?_⟩
  simp only[hw ρ w a htm o rfl,if_true]
  left
  refine h3.2 ρ w a hrel (htm.oper _) hf K Q λx w' hpost=>?_
  obtain⟨ρ',p1,p2,p3,p4,p5,p6⟩:=hpost
  refine hK _ _ ⟨put_defers _ _ _,ρ',p1,p2,?_,p4,p5,p6⟩
  rw[hd]
  exact(htm.mono p1.old p4.shape).put o.dst p3
 ·rw[setDst_eq]at h1
  refine⟨_,_,_,h1,Nat.le_refl _,λρ w a hrel htm hf K Q hK=>?_⟩
  simp only[hw ρ w a htm o rfl,Bool.false_eq_true,if_false]
  refine hK _ _ ⟨put_defers _ _ _,ρ,Ext.refl _ _ _,hrel,?_,Fr.refl _ _ _,NewB.refl,NewI.refl⟩
  rw[hd]
  exact htm.put o.dst ⟨[],rfl,trivial⟩
theorem prepOpers_R {m:Muts} {ops:Array Oper}:∀{l:List Oper} {al:List AOper},prepOpers P m ops l=some al→All2 (OpR P ops) l al
 |[],al,h=>by simp[prepOpers]at h;subst h;trivial
 |o::l,al,h=>by
  simp only[prepOpers]at h
  split at h
  ·rename_i op g r h1 h2 h3
   cases h
   exact⟨⟨rfl,h1,h2⟩,prepOpers_R h3⟩
  ·cases h
end
end Go.Ev
namespace Go.Ev
structure CInv (val:Nat→Int) (ρ:Rho) (fz:Fz) (comp:Nat→St) (w:World):Prop where
 rf:∀id cs,fz id=some cs→OwnF val ρ w id cs
 rm:∀c id cs,look (comp c) id=some cs→OwnG val ρ w id cs
 dm:∀c id cs,look (comp c) id=some cs→fz id=none
 dj:∀c c' id id' p p',(look (comp c) id).isSome→(look (comp c') id').isSome→ρ id=some p→ρ id'=some p'→p.1=p'.1→c=c'∧id=id'
 df:∀c id id' p p',(look (comp c) id).isSome→(fz id').isSome→ρ id=some p→ρ id'=some p'→p.1≠p'.1
def cat (comp:Nat→St):List Nat→St
 |[]=>[]
 |c::r=>comp c++cat comp r
theorem look_cat {comp:Nat→St} {l:List Nat} {id:Nat} {cs:List SV} (h:look (cat comp l) id=some cs):∃c∈l,look (comp c) id=some cs:=by
 induction l with
 |nil=>cases h
 |cons c r ih=>
  simp only[cat,look_append]at h
  cases e:look (comp c) id with
  |some d=>rw[e]at h;simp only[Option.some.injEq]at h;subst h;exact⟨c,by simp,e⟩
  |none=>rw[e]at h;obtain⟨c',h1,h2⟩:=ih h;exact⟨c',by simp[h1],h2⟩
theorem look_catI {comp:Nat→St} {l:List Nat} {id:Nat} (h:(look (cat comp l) id).isSome):∃c∈l,(look (comp c) id).isSome:=by
 obtain⟨cs,hcs⟩:=Option.isSome_iff_exists.1 h
 obtain⟨c,h1,h2⟩:=look_cat hcs
 exact⟨c,h1,by simp[h2]⟩
section
variable {val:Nat→Int} {ρ:Rho} {fz:Fz} {comp:Nat→St} {w:World}
theorem CInv.take (h:CInv val ρ fz comp w) (l:List Nat):Rel val ρ fz (cat comp l) w:=by
 refine⟨h.rf,λid cs hl=>?_,λid cs hl=>?_,λid id' p p' hl hl' hp hp' he=>?_⟩
 ·obtain⟨c,_,h2⟩:=look_cat hl;exact h.rm c id cs h2
 ·obtain⟨c,_,h2⟩:=look_cat hl;exact h.dm c id cs h2
 ·obtain⟨c,_,h2⟩:=look_catI hl
  rcases hl' with hl'|hl'
  ·obtain⟨c',_,h3⟩:=look_catI hl';exact(h.dj c c' id id' p p' h2 h3 hp hp' he).2
  ·exact(h.df c id id' p p' h2 hl' hp hp' he).elim
theorem Rel.noFz {mu:St} (h:Rel val ρ fz mu w):Rel val ρ (λ_=>none) mu w:=
 ⟨λid cs h=>(by cases h),h.rm,λ_ _ _=>rfl,λid id' p p' hl hl' hp hp' he=>h.dj id id' p p' hl (hl'.elim .inl (λx=>(by cases x))) hp hp' he⟩
theorem CInv.ro (h:CInv val ρ fz comp w) (l:List Nat) (c0:Nat):Rel val ρ (with' (cat comp l) (with' (comp c0) fz)) [] w:=by
 refine⟨λid cs hl=>?_,λid cs hl=>(by cases hl),λid cs hl=>(by cases hl),λid id' p p' hl=>(by cases hl)⟩
 rw[with_eq]at hl
 cases e:look (cat comp l) id with
 |some d=>rw[e]at hl;simp only[Option.some.injEq]at hl;subst hl;obtain⟨c,_,h2⟩:=look_cat e;exact(h.rm c id d h2).f
 |none=>
  rw[e]at hl
  simp only[with_eq]at hl
  cases e2:look (comp c0) id with
  |some d=>rw[e2]at hl;simp only[Option.some.injEq]at hl;subst hl;exact(h.rm c0 id d e2).f
  |none=>rw[e2]at hl;exact h.rf id cs hl
def newComp (comp:Nat→St) (l:List Nat) (t:Nat) (out:St):Nat→St:=λc=>if c=t then out else if c∈l then[]else comp c
theorem CInv.update {ρ':Rho} {fzv:Fz} {muv out:St} {w':World} {n n' t:Nat} {l:List Nat} (h:CInv val ρ fz comp w) (hmu:∀id,(look muv id).isSome→∃c∈l,(look (comp c) id).isSome) (he:Ext ρ ρ' n n') (hfr:FreshN ρ n n')
 (hr':Rel val ρ' fzv out w') (hf:Fr ρ muv w w') (hb:NewB ρ ρ' muv out w) (hi:NewI muv out n n'):CInv val ρ' fz (newComp comp l t out) w':=by
 have fzRho:∀id,(fz id).isSome→∃p,ρ id=some p∧p.1<w.heap.size:=λid hs=>by
  obtain⟨c,hc⟩:=Option.isSome_iff_exists.1 hs
  have ho:=h.rf id c hc
  obtain⟨p,o,h1,_⟩:=ho.at
  exact⟨p,h1,(h.rf id c hc).lt h1⟩
 have cRho:∀c id,(look (comp c) id).isSome→∃p,ρ id=some p∧p.1<w.heap.size:=λc id hs=>by
  obtain⟨cs,hc⟩:=Option.isSome_iff_exists.1 hs
  have ho:=h.rm c id cs hc
  obtain⟨p,o,h1,_⟩:=ho.at
  exact⟨p,h1,(h.rm c id cs hc).lt h1⟩
 have keepB:∀b,b<w.heap.size→(∀c∈l,∀id p,(look (comp c) id).isSome→ρ id=some p→p.1≠b)→w'.heap[b]?=w.heap[b]?:=λb hlt hn=>
  hf.keep b hlt λid p hl hp=>by obtain⟨c,h1,h2⟩:=hmu id hl;exact hn c h1 id p h2 hp
 have oldC:∀c id cs,c≠t→look (newComp comp l t out c) id=some cs→c∉l∧look (comp c) id=some cs:=λc id cs hct hl=>by
  unfold newComp at hl
  simp only[hct,if_false]at hl
  split at hl
  ·cases hl
  ·rename_i hcl;exact⟨hcl,hl⟩
 have oldCI:∀c id,c≠t→(look (newComp comp l t out c) id).isSome→c∉l∧(look (comp c) id).isSome:=λc id hct hl=>by
  obtain⟨cs,hcs⟩:=Option.isSome_iff_exists.1 hl
  obtain⟨h1,h2⟩:=oldC c id cs hct hcs
  exact⟨h1,by simp[h2]⟩
 have newC:∀id,look (newComp comp l t out t) id=look out id:=λid=>by simp[newComp]
 have keepOwnC:∀c id cs,c∉l→look (comp c) id=some cs→OwnG val ρ' w' id cs:=λc id cs hcl hl=>by
  have ho:=h.rm c id cs hl
  refine ho.mono he.old hf.shape λp hp=>keepB p.1 (ho.lt hp) λc' hc' id' p' hl' hp' e=>?_
  exact hcl ((h.dj c c' id id' p p' (by simp[hl]) hl' hp hp' e.symm).1▸hc')
 -- blocks of the new part
 have blk:∀id p,(look out id).isSome→ρ' id=some p→w.heap.size≤p.1∨∃c∈l,∃id0 p0,(look (comp c) id0).isSome∧ρ id0=some p0∧p0.1=p.1:=λid p hl hp=>by
  rcases hb id p hl hp with h1|⟨id0,p0,h1,h2,h3⟩
  ·exact .inl h1
  ·obtain⟨c,h4,h5⟩:=hmu id0 h1;exact .inr ⟨c,h4,id0,p0,h5,h2,h3⟩
 have rhoOld:∀c id p,(look (comp c) id).isSome→ρ' id=some p→ρ id=some p∧p.1<w.heap.size:=λc id p hl hp=>by
  obtain⟨q,h1,h2⟩:=cRho c id hl
  have:=he.old id q h1
  rw[hp]at this;cases this;exact⟨h1,h2⟩
 have rhoFz:∀id p,(fz id).isSome→ρ' id=some p→ρ id=some p∧p.1<w.heap.size:=λid p hl hp=>by
  obtain⟨q,h1,h2⟩:=fzRho id hl
  have:=he.old id q h1
  rw[hp]at this;cases this;exact⟨h1,h2⟩
 refine⟨λid cs hl=>?_,λc id cs hl=>?_,λc id cs hl=>?_,λc c' id id' p p' hl hl' hp hp' e=>?_,λc id id' p p' hl hl' hp hp' e=>?_⟩
 ·have ho:=h.rf id cs hl
  refine ho.mono he.old hf.shape λp hp=>keepB p.1 (ho.lt hp) λc hc id' p' hl' hp' e=>?_
  exact h.df c id' id p' p hl' (by simp[hl]) hp' hp e
 ·by_cases hct:c=t
  ·subst hct;rw[newC]at hl;exact hr'.rm id cs hl
  ·obtain⟨h1,h2⟩:=oldC c id cs hct hl;exact keepOwnC c id cs h1 h2
 ·by_cases hct:c=t
  ·subst hct
   rw[newC]at hl
   rcases hi id (by simp[hl])with h1|h1
   ·obtain⟨c',_,h3⟩:=hmu id h1
    obtain⟨cs',hcs'⟩:=Option.isSome_iff_exists.1 h3
    exact h.dm c' id cs' hcs'
   ·cases e:fz id with
    |none=>rfl
    |some x=>
     obtain⟨p,h2,_⟩:=fzRho id (by simp[e])
     rw[hfr id h1.1 h1.2]at h2;cases h2
  ·obtain⟨h1,h2⟩:=oldC c id cs hct hl;exact h.dm c id cs h2
 ·by_cases hct:c=t
  ·by_cases hct':c'=t
   ·subst hct;subst hct'
    rw[newC]at hl hl'
    exact⟨rfl,hr'.dj id id' p p' hl (.inl hl') hp hp' e⟩
   ·subst hct
    rw[newC]at hl
    obtain⟨h1,h2⟩:=oldCI c' id' hct' hl'
    obtain⟨h3,h4⟩:=rhoOld c' id' p' h2 hp'
    rcases blk id p hl hp with h5|⟨d,hd,id0,p0,h6,h7,h8⟩
    ·omega
    ·exact(h1 ((h.dj d c' id0 id' p0 p' h6 h2 h7 h3 (h8.trans e)).1▸hd)).elim
  ·obtain⟨h1,h2⟩:=oldCI c id hct hl
   obtain⟨h3,h4⟩:=rhoOld c id p h2 hp
   by_cases hct':c'=t
   ·subst hct'
    rw[newC]at hl'
    rcases blk id' p' hl' hp' with h5|⟨d,hd,id0,p0,h6,h7,h8⟩
    ·omega
    ·exact(h1 ((h.dj d c id0 id p0 p h6 h2 h7 h3 (h8.trans e.symm)).1▸hd)).elim
   ·obtain⟨g1,g2⟩:=oldCI c' id' hct' hl'
    obtain⟨g3,g4⟩:=rhoOld c' id' p' g2 hp'
    exact h.dj c c' id id' p p' h2 g2 h3 g3 e
 ·obtain⟨g1,g2⟩:=rhoFz id' p' hl' hp'
  by_cases hct:c=t
  ·subst hct
   rw[newC]at hl
   rcases blk id p hl hp with h5|⟨d,hd,id0,p0,h6,h7,h8⟩
   ·omega
   ·exact h.df d id0 id' p0 p' h6 hl' h7 g1 (h8.trans e)
  ·obtain⟨h1,h2⟩:=oldCI c id hct hl
   obtain⟨h3,h4⟩:=rhoOld c id p h2 hp
   exact h.df c id id' p p' h2 hl' h3 g1 e
theorem CInv.mono0 {ρ':Rho} {w':World} (h:CInv val ρ fz comp w) (he:∀id p,ρ id=some p→ρ' id=some p) (hf:Fr ρ [] w w'):CInv val ρ' fz comp w':=by
 have kp:∀b,b<w.heap.size→w'.heap[b]?=w.heap[b]?:=λb hb=>hf.keep b hb λid p hl=>(by cases hl)
 have rho:∀id cs p,OwnF val ρ w id cs→ρ' id=some p→ρ id=some p:=λid cs p ho hp=>by
  obtain⟨q,o,h1,_⟩:=ho.at
  have:=he id q h1
  rw[hp]at this;cases this;exact h1
 refine⟨λid cs hl=>(h.rf id cs hl).mono he hf.shape λp hp=>kp _ ((h.rf id cs hl).lt hp),λc id cs hl=>(h.rm c id cs hl).mono he hf.shape λp hp=>kp _ ((h.rm c id cs hl).lt hp),h.dm,λc c' id id' p p' hl hl' hp hp' e=>?_,λc id id' p p' hl hl' hp hp' e=>?_⟩
 ·obtain⟨cs,h1⟩:=Option.isSome_iff_exists.1 hl
  obtain⟨cs',h2⟩:=Option.isSome_iff_exists.1 hl'
  exact h.dj c c' id id' p p' hl hl' (rho id cs p (h.rm c id cs h1).f hp) (rho id' cs' p' (h.rm c' id' cs' h2).f hp') e
 ·obtain⟨cs,h1⟩:=Option.isSome_iff_exists.1 hl
  obtain⟨cs',h2⟩:=Option.isSome_iff_exists.1 hl'
  exact h.df c id id' p p' hl hl' (rho id cs p (h.rm c id cs h1).f hp) (rho id' cs' p' (h.rf id' cs' h2) hp') e
theorem CInv.like {w1:World} (hl:Like w w1) (h:CInv val ρ fz comp w):CInv val ρ fz comp w1:=
 ⟨fun id c hc=>(h.rf id c hc).mono (fun _ _ h=>h) (fun b=>Nat.le_of_eq (hl.bsize b).symm) fun p _=>by rw[hl.heap],
  λc id cs hc=>(h.rm c id cs hc).mono (λ_ _ h=>h) (λb=>Nat.le_of_eq (hl.bsize b).symm) λp _=>by rw[hl.heap],h.dm,h.dj,h.df⟩
end
end Go.Ev
namespace Go.Ev
structure Rec where
 w:Bool
 v:AV
 out:St
 n1:Nat
def sucs (l:List Nat):List Nat:=l.map (· +1)
def takes (o:AOper) (i:Nat):List Nat:=if o.mode=2 then sucs o.anc++[0]else if o.mode=0∨o.mode=1∨o.mode=3 then[]else(i+1)::sucs o.anc
def target (o:AOper) (i:Nat):Nat:=if o.mode=2 then 0 else i+1
def updC (o:AOper) (i:Nat) (r:Rec) (comp:Nat→St):Nat→St:=if r.w=true∧o.mode≠0 then newComp comp (takes o i) (target o i) r.out else comp
def fzv (fz:Fz) (o:AOper) (comp:Nat→St):Fz:=if o.mode=1 then with' (cat comp (sucs o.anc)) (with' (comp 0) fz)else if o.mode=2∨o.mode=4 then fz elseλ_=>none
def muv (o:AOper) (i:Nat) (comp:Nat→St):St:=cat comp (takes o i)
def GuardF (g:Option (Nat×Nat×Bool)) (tm:TM) (b:Bool):Prop:=
 match g with
 |none=>b=true
 |some (q,r,want)=>(∃x,get tm q r=.one (.bool x)∧b=(x==want))∨(get tm q r=.tp []∧b=false)
section
variable {R:Type} {T:R→Prop} {z:R} {P:Program} {val:Nat→Int} {fz:Fz} {orc:Orc R} {call:CallT R}
theorem guardF_elim (hz:¬T z) {g:Option (Nat×Nat×Bool)} {tm:TM} {yes no:R} (h:T (onWanted z g tm yes no)):(T yes∧GuardF g tm true)∨(T no∧GuardF g tm false):=by
 cases g with
 |none=>exact .inl ⟨h,rfl⟩
 |some p=>
  obtain⟨q,r,want⟩:=p
  have h':T (AV.rec (motive:=λ_=>R) (λs=>s.onBool z λb=>cond (b==want) yes no) (λ_=>z) (λl=>List.rec (motive:=λ_=>R) no (λ_ _ _=>z) l) (get tm q r)):=h
  cases e:get tm q r with
  |one s=>
   rw[e]at h'
   obtain⟨b,e2,h2⟩:=onBool_elim hz h'
   subst e2
   cases hb:(b==want)with
   |true=>rw[hb]at h2;exact .inl ⟨h2,.inl ⟨b,e,hb.symm⟩⟩
   |false=>rw[hb]at h2;exact .inr ⟨h2,.inl ⟨b,e,hb.symm⟩⟩
  |ag l=>rw[e]at h';exact(hz h').elim
  |tp l=>
   rw[e]at h'
   cases l with
   |cons _ _=>exact(hz h').elim
   |nil=>exact .inr ⟨h',.inr ⟨e,rfl⟩⟩
theorem get_inR {tm:TM} {q r:Nat} (hne:get tm q r≠.one .un):inR tm q r:=by
 unfold get at hne
 simp only[nth_eq]at hne
 cases e:tm[q]? with
 |none=>rw[e]at hne;simp at hne
 |some row=>
  rw[e]at hne
  simp only[Option.getD_some]at hne
  refine⟨row,e,?_⟩
  rcases Nat.lt_or_ge r row.length with h|h
  ·exact h
  ·rw[List.getElem?_eq_none h]at hne;exact(hne rfl).elim
theorem TmR.some {tm:TM} {ρ:Rho} {w:World} {a:Act} (hr:TmR val ρ w tm a) {t:Nat} (hne:get tm (t/16) (t%16)≠.one .un):a.tmps[t]?=some (a.tmps.getD t undef):=by
 have hlt:=hr.rng t (get_inR hne)
 simp[Array.getD_eq_getD_getElem?,Array.getElem?_eq_getElem hlt]
theorem guardF_wanted {ops:Array Oper} {o:Oper} {g':Option (Nat×Nat×Bool)} {tm:TM} {b:Bool} {ρ:Rho} {w:World} {a:Act} (hg:guardOf ops o.guard=some g') (h:GuardF g' tm b) (hr:TmR val ρ w tm a):Region.wanted o (yielded ops a.tmps)=b:=by
 cases hgd:o.guard with
 |none=>
  rw[hgd]at hg
  simp[guardOf]at hg;subst hg
  have:b=true:=h
  simp[Region.wanted,hgd,this]
 |some p=>
  obtain⟨j,want⟩:=p
  rw[hgd]at hg
  simp only[guardOf]at hg
  split at hg
  ·rename_i t ht
   cases hg
   have hv:=hr.vals t
   rcases h with⟨x,h1,h2⟩|⟨h1,h2⟩
   ·have hs:=hr.some (t:=t) (by rw[h1];intro h;cases h)
    rw[h1]at hv
    have hv':a.tmps.getD t undef=.bool x:=hv
    rw[hv']at hs
    have hy:yielded ops a.tmps j=some x:=by unfold yielded;rw[ht];simp[hs]
    simp only[Region.wanted,hgd,hy,h2]
    cases x<;>cases want<;>rfl
   ·have hs:=hr.some (t:=t) (by rw[h1];intro h;cases h)
    rw[h1]at hv
    obtain⟨vs,hx1,hx2⟩:=hv
    have hvs:vs=[]:=by cases vs with|nil=>rfl|cons _ _=>exact hx2.elim
    subst hvs
    rw[hx1]at hs
    have hy:yielded ops a.tmps j=none:=by unfold yielded;rw[ht];simp[hs]
    simp[Region.wanted,hgd,hy,h2]
  ·cases hg
def SemOp (P:Program) (val:Nat→Int) (fz:Fz) (o:Oper) (ao:AOper) (i:Nat) (r:Rec) (tm:TM) (comp:Nat→St) (n:Nat):Prop:=
 n≤r.n1∧GuardF ao.g tm r.w∧(r.w=true→Sound P val (fzv fz ao comp) tm (muv ao i comp) n o r.v r.out r.n1)∧(r.w=false→r.v=noVal)
def Chain (P:Program) (val:Nat→Int) (fz:Fz):Nat→List Oper→List AOper→List Rec→TM→(Nat→St)→Nat→TM→(Nat→St)→Nat→Prop
 |_,[],[],[],tm,comp,n,tm',comp',n'=>tm'=tm∧comp'=comp∧n'=n
 |i,o::l,ao::al,r::rs,tm,comp,n,tm',comp',n'=>SemOp P val fz o ao i r tm comp n∧Chain P val fz (i+1) l al rs (setDT tm ao.dst r.v) (updC ao i r comp) r.n1 tm' comp' n'
 |_,_,_,_,_,_,_,_,_,_=>False
def compOf (mu:St) (ad:List St):Nat→St
 |0=>mu
 |j+1=>(ad[j]?).getD []
theorem adsOf_eq (mu:St) (ad:List St) (l:List Nat):adsOf ad l=cat (compOf mu ad) (sucs l):=by
 induction l with
 |nil=>rfl
 |cons i r ih=>
  show nth [] ad i++adsOf ad r=_
  rw[ih,nth_eq]
  rfl
theorem cat_append (comp:Nat→St) (l m:List Nat):cat comp (l++m)=cat comp l++cat comp m:=by
 induction l with
 |nil=>rfl
 |cons c r ih=>simp[cat,ih]
def clearS (l:List Nat) (ad:List St):List St:=match l with|[]=>ad|i::r=>clearS r (ad.set i [])
theorem clearK_eq (l:List Nat) (ad:List St) (k:List St→R):clearK l ad k=k (clearS l ad):=by
 induction l generalizing ad with
 |nil=>rfl
 |cons i r ih=>
  show setK ad i [] (λad=>clearK r ad k)=_
  rw[setK_eq,ih]
  rfl
theorem clearS_get (l:List Nat) (ad:List St) (j:Nat):((clearS l ad)[j]?).getD []=if j∈l then[]else(ad[j]?).getD []:=by
 induction l generalizing ad with
 |nil=>simp[clearS]
 |cons i r ih=>
  simp only[clearS,ih,List.mem_cons]
  by_cases h1:j∈r
  ·simp[h1]
  ·by_cases h2:i=j
   ·subst h2
    simp[h1,List.getElem?_set]
    split<;>simp
   ·have h3:¬j=i:=λe=>h2 e.symm
    simp[h1,h3,List.getElem?_set_ne h2]
theorem clearS_length (l:List Nat) (ad:List St):(clearS l ad).length=ad.length:=by
 induction l generalizing ad with
 |nil=>rfl
 |cons i r ih=>simp[clearS,ih]
theorem mem_sucs {l:List Nat} {j:Nat}:j+1∈sucs l↔j∈l:=by simp[sucs]
theorem zero_sucs {l:List Nat}:0∉sucs l:=by simp[sucs]
theorem rstep_elim (hz:¬T z) (hc:CallSound T P val call) (hk:OrcOk T val orc) {o:Oper} {ao:AOper} {i:Nat} {tm:TM} {mu:St} {ad:List St} {n:Nat} {k:TM→St→List St→Nat→R} (hp:prepOp P o.op=some ao.op) (hi:i<ad.length) (hm:ao.mode≤4) (hanc:i∉ao.anc)
 (h:T (rstep orc z call fz i ao tm mu ad n k)):∃r mu' ad',T (k (setDT tm ao.dst r.v) mu' ad' r.n1)∧ad'.length=ad.length∧SemOp P val fz o ao i r tm (compOf mu ad) n∧compOf mu' ad'=updC ao i r (compOf mu ad):=by
 rcases guardF_elim hz h with⟨h1,hg⟩|⟨h1,hg⟩
 ·have setI:∀(ad0:List St) (new:St) (c:Nat),i<ad0.length→compOf mu (ad0.set i new) c=if c=i+1 then new else compOf mu ad0 c:=by
   intro ad0 new c hi0
   cases c with
   |zero=>simp[compOf]
   |succ j=>
    simp only[compOf,Nat.add_right_cancel_iff]
    by_cases e:j=i
    ·subst e;simp[hi0]
    ·have e':¬i=j:=λx=>e x.symm
     simp[e,List.getElem?_set_ne e']
  have hmode:ao.mode=0∨ao.mode=1∨ao.mode=2∨ao.mode=3∨ao.mode=4:=by omega
  rcases hmode with hm0|hm1|hm2|hm3|hm4
  ·simp only[hm0]at h1
   obtain⟨v,mu',n',h2,h3⟩:=aop_sound (P:=P) (val:=val) hz hc hk hp (show T (aop orc z call (λ_=>none) tm [] n false ao.op λv new n=>List.rec (motive:=λ_=>R) (setDst tm ao.dst v λtm=>k tm mu ad n) (λ_ _ _=>z) new)from h1)
   cases mu' with
   |cons _ _=>exact(hz h2).elim
   |nil=>
    have h4:T (setDst tm ao.dst v λtm=>k tm mu ad n'):=h2
    rw[setDst_eq]at h4
    refine⟨⟨true,v,[],n'⟩,mu,ad,h4,rfl,⟨h3.1,hg,λ_=>?_,λe=>by cases e⟩,?_⟩
    ·have e1:fzv fz ao (compOf mu ad)=λ_=>none:=by simp[fzv,hm0]
     have e2:muv ao i (compOf mu ad)=[]:=by simp[muv,takes,hm0,cat]
     rw[e1,e2];exact h3
    ·simp[updC,hm0]
  ·simp only[hm1]at h1
   obtain⟨v,new,n',h2,h3⟩:=aop_sound (P:=P) (val:=val) hz hc hk hp (show T (aop orc z call (with' (adsOf ad ao.anc) (with' mu fz)) tm [] n true ao.op λv new n=>setDst tm ao.dst v λtm=>setK ad i new λad=>k tm mu ad n)from h1)
   rw[setDst_eq,setK_eq]at h2
   refine⟨⟨true,v,new,n'⟩,mu,ad.set i new,h2,by simp,⟨h3.1,hg,λ_=>?_,λe=>by cases e⟩,?_⟩
   ·have e1:fzv fz ao (compOf mu ad)=with' (adsOf ad ao.anc) (with' mu fz):=by simp[fzv,hm1,adsOf_eq mu,compOf]
    have e2:muv ao i (compOf mu ad)=[]:=by simp[muv,takes,hm1,cat]
    rw[e1,e2];exact h3
   ·funext c
    rw[setI ad new c hi]
    simp[updC,hm1,newComp,target,takes]
  ·simp only[hm2]at h1
   have h1':T (joinK (adsOf ad ao.anc) mu λmu=>clearK ao.anc ad λad=>aop orc z call fz tm mu n false ao.op λv mu n=>setDst tm ao.dst v λtm=>k tm mu ad n):=h1
   rw[joinK_eq,clearK_eq]at h1'
   obtain⟨v,mu',n',h2,h3⟩:=aop_sound (P:=P) (val:=val) hz hc hk hp h1'
   rw[setDst_eq]at h2
   refine⟨⟨true,v,mu',n'⟩,mu',clearS ao.anc ad,h2,clearS_length _ _,⟨h3.1,hg,λ_=>?_,λe=>by cases e⟩,?_⟩
   ·have e1:fzv fz ao (compOf mu ad)=fz:=by simp[fzv,hm2]
    have e2:muv ao i (compOf mu ad)=adsOf ad ao.anc++mu:=by simp[muv,takes,hm2,cat_append,adsOf_eq mu,cat,compOf]
    rw[e1,e2];exact h3
   ·funext c
    cases c with
    |zero=>simp[compOf,updC,hm2,newComp,target]
    |succ j=>
     simp only[compOf,clearS_get,updC,hm2,target,takes]
     simp[newComp,mem_sucs,compOf]
  ·simp only[hm3]at h1
   obtain⟨v,new,n',h2,h3⟩:=aop_sound (P:=P) (val:=val) hz hc hk hp (show T (aop orc z call (λ_=>none) tm [] n false ao.op λv new n=>setDst tm ao.dst v λtm=>setK ad i new λad=>k tm mu ad n)from h1)
   rw[setDst_eq,setK_eq]at h2
   refine⟨⟨true,v,new,n'⟩,mu,ad.set i new,h2,by simp,⟨h3.1,hg,λ_=>?_,λe=>by cases e⟩,?_⟩
   ·have e1:fzv fz ao (compOf mu ad)=λ_=>none:=by simp[fzv,hm3]
    have e2:muv ao i (compOf mu ad)=[]:=by simp[muv,takes,hm3,cat]
    rw[e1,e2];exact h3
   ·funext c
    rw[setI ad new c hi]
    simp[updC,hm3,newComp,target,takes]
  ·simp only[hm4]at h1
   have h1':T (joinK (nth [] ad i) (adsOf ad ao.anc) λown=>aop orc z call fz tm own n false ao.op λv new n=>setDst tm ao.dst v λtm=>clearK ao.anc ad λad=>setK ad i new λad=>k tm mu ad n):=h1
   rw[joinK_eq]at h1'
   obtain⟨v,new,n',h2,h3⟩:=aop_sound (P:=P) (val:=val) hz hc hk hp h1'
   rw[setDst_eq,clearK_eq,setK_eq]at h2
   refine⟨⟨true,v,new,n'⟩,mu,(clearS ao.anc ad).set i new,h2,by simp[clearS_length],⟨h3.1,hg,λ_=>?_,λe=>by cases e⟩,?_⟩
   ·have e1:fzv fz ao (compOf mu ad)=fz:=by simp[fzv,hm4]
    have e2:muv ao i (compOf mu ad)=nth [] ad i++adsOf ad ao.anc:=by simp[muv,takes,hm4,adsOf_eq mu,cat,compOf,nth_eq]
    rw[e1,e2];exact h3
   ·funext c
    rw[setI _ new c (by rw[clearS_length];exact hi)]
    cases c with
    |zero=>simp[compOf,updC,hm4,newComp,target,takes,zero_sucs]
    |succ j=>
     simp only[compOf,clearS_get,updC,hm4,target,takes]
     by_cases e:j=i
     ·subst e;simp[newComp]
     ·simp[newComp,e,mem_sucs,compOf]
 ·rw[setDst_eq]at h1
  exact⟨⟨false,noVal,[],n⟩,mu,ad,h1,rfl,⟨Nat.le_refl _,hg,λe=>(by cases e),λ_=>rfl⟩,by simp[updC]⟩
theorem rrun_elim (hz:¬T z) (hc:CallSound T P val call) (hk:OrcOk T val orc) {ops:Array Oper}:∀{l:List Oper} {al:List AOper} {i:Nat} {tm:TM} {mu:St} {ad:List St} {n:Nat} {k:TM→St→List St→Nat→R},All2 (OpR P ops) l al→i+al.length≤ad.length→
 (∀(j:Nat) ao,al[j]?=some ao→ao.mode≤4∧(i+j)∉ao.anc)→T (rrun orc z call fz al i tm mu ad n k)→
 ∃rs tm' mu' ad' n',T (k tm' mu' ad' n')∧ad'.length=ad.length∧Chain P val fz i l al rs tm (compOf mu ad) n tm' (compOf mu' ad') n'
 |[],[],i,tm,mu,ad,n,k,_,_,_,h=>⟨[],tm,mu,ad,n,h,rfl,rfl,rfl,rfl⟩
 |[],_::_,_,_,_,_,_,_,hl,_,_,_=>hl.elim
 |_::_,[],_,_,_,_,_,_,hl,_,_,_=>hl.elim
 |o::l,ao::al,i,tm,mu,ad,n,k,hl,hi,hm,h=>by
  obtain⟨h0,h0'⟩:=hm 0 ao (by simp)
  obtain⟨r,mu1,ad1,h1,h2,h3,h4⟩:=rstep_elim (P:=P) (val:=val) (fz:=fz) hz hc hk hl.1.2.1 (by simp at hi;omega) h0 (by simpa using h0') (show T (rstep orc z call fz i ao tm mu ad n λtm mu ad n=>rrun orc z call fz al (Nat.succ i) tm mu ad n k)from h)
  obtain⟨rs,tm',mu',ad',n',h5,h6,h7⟩:=rrun_elim hz hc hk (i:=i+1) hl.2 (by rw[h2];simp at hi;omega) (λj ao' hj=>by
   have:=hm (j+1) ao' (by simpa using hj)
   rw[show i+(j+1)=i+1+j by omega]at this
   exact this) h1
  refine⟨r::rs,tm',mu',ad',n',h5,h6.trans h2,h3,?_⟩
  rw[h4]at h7
  exact h7
end
end Go.Ev
namespace Go.Ev
theorem inR_setT_iff {tm:TM} {q r:Nat} {v:AV} {q' r':Nat}:inR (setT tm q r v) q' r'↔inR tm q' r':=by
 refine⟨inR_setT,λ⟨row,h1,h2⟩=>?_⟩
 unfold setT
 by_cases hq:q=q'
 ·subst hq
  have hlt:=(List.getElem?_eq_some_iff.1 h1).1
  refine⟨(nth [] tm q).set r v,List.getElem?_set_self hlt,?_⟩
  rw[nth_eq,h1]
  simpa using h2
 ·exact⟨row,by rw[List.getElem?_set_ne hq];exact h1,h2⟩
theorem inR_setDT {tm:TM} {dst:Option (Nat×Nat)} {v:AV} {q r:Nat}:inR (setDT tm dst v) q r↔inR tm q r:=by
 cases dst with
 |none=>exact Iff.rfl
 |some p=>exact inR_setT_iff
def TMeq (tm tm':TM):Prop:=(∀q r,get tm q r=get tm' q r)∧∀q r,inR tm q r↔inR tm' q r
theorem TmR.congr {val:Nat→Int} {ρ:Rho} {w:World} {tm tm':TM} {a:Act} (h:TmR val ρ w tm a) (e:TMeq tm tm'):TmR val ρ w tm' a:=
 ⟨λt ht=>h.rng t ((e.2 _ _).2 ht),λt=>by rw[←e.1];exact h.vals t⟩
def foldTm (M:Nat→Bool):Nat→List AOper→List Rec→TM→TM
 |i,ao::al,r::rs,tm=>foldTm M (i+1) al rs (if M i then setDT tm ao.dst r.v else tm)
 |_,_,_,tm=>tm
def foldC (M:Nat→Bool):Nat→List AOper→List Rec→(Nat→St)→Nat→St
 |i,ao::al,r::rs,comp=>foldC M (i+1) al rs (if M i then updC ao i r comp else comp)
 |_,_,_,comp=>comp
def affC (ao:AOper) (i:Nat) (r:Rec) (c:Nat):Prop:=r.w=true∧ao.mode≠0∧(c=target ao i∨c∈takes ao i)
theorem updC_no {ao:AOper} {i:Nat} {r:Rec} {comp:Nat→St} {c:Nat} (h:¬affC ao i r c):updC ao i r comp c=comp c:=by
 unfold updC
 split
 ·rename_i hw
  have h1:c≠target ao i:=λe=>h ⟨hw.1,hw.2,.inl e⟩
  have h2:c∉takes ao i:=λe=>h ⟨hw.1,hw.2,.inr e⟩
  simp[newComp,h1,h2]
 ·rfl
theorem updC_yes {ao:AOper} {i:Nat} {r:Rec} {comp comp':Nat→St} {c:Nat} (h:affC ao i r c):updC ao i r comp c=updC ao i r comp' c:=by
 obtain⟨h1,h2,h3⟩:=h
 unfold updC
 simp only[h1,h2,ne_eq,not_false_iff,and_self,if_true,newComp]
 split
 ·rfl
 ·rename_i hne
  have:c∈takes ao i:=h3.resolve_left hne
  simp[this]
theorem foldC_agree {M M':Nat→Bool} {c:Nat}:∀{al:List AOper} {rs:List Rec} {i:Nat} {comp comp':Nat→St},comp c=comp' c→
 (∀(j:Nat) ao r,al[j]?=some ao→rs[j]?=some r→affC ao (i+j) r c→M (i+j)=M' (i+j))→foldC M i al rs comp c=foldC M' i al rs comp' c
 |[],_,_,_,_,h,_=>h
 |_::_,[],_,_,_,h,_=>h
 |ao::al,r::rs,i,comp,comp',h,hM=>by
  simp only[foldC]
  refine foldC_agree ?_ λj ao' r' h1 h2 h3=>?_
  ·by_cases ha:affC ao i r c
   ·have:=hM 0 ao r (by simp) (by simp) (by simpa using ha)
    simp only[Nat.add_zero]at this
    rw[this]
    split
    ·exact updC_yes ha
    ·exact h
   ·split<;>split<;>simp[updC_no ha,h]
  ·have:=hM (j+1) ao' r' (by simpa using h1) (by simpa using h2) (by rw[show i+(j+1)=i+1+j by omega];exact h3)
   rwa [show i+(j+1)=i+1+j by omega]at this
def also (M:Nat→Bool) (t:Nat):Nat→Bool:=λx=>if x=t then true else M x
theorem foldC_skip {M:Nat→Bool} {c:Nat}:∀{al:List AOper} {rs:List Rec} {i:Nat} {comp:Nat→St},
 (∀(j:Nat) ao r,al[j]?=some ao→rs[j]?=some r→affC ao (i+j) r c→M (i+j)=false)→foldC M i al rs comp c=comp c
 |[],_,_,_,_=>rfl
 |_::_,[],_,_,_=>rfl
 |ao::al,r::rs,i,comp,hM=>by
  simp only[foldC]
  rw[foldC_skip λj ao' r' h1 h2 h3=>by
   have:=hM (j+1) ao' r' (by simpa using h1) (by simpa using h2) (by rw[show i+(j+1)=i+1+j by omega];exact h3)
   rwa [show i+(j+1)=i+1+j by omega]at this]
  split
  ·rename_i hMi
   refine updC_no λha=>?_
   have:=hM 0 ao r (by simp) (by simp) (by simpa using ha)
   simp only[Nat.add_zero]at this
   rw[this]at hMi;cases hMi
  ·rfl
theorem foldC_add {M:Nat→Bool} {c:Nat}:∀{al:List AOper} {rs:List Rec} {i j0:Nat} {comp:Nat→St} {ao0:AOper} {r0:Rec},al[j0]?=some ao0→rs[j0]?=some r0→M (i+j0)=false→
 (affC ao0 (i+j0) r0 c→∀(j:Nat) ao r,al[j]?=some ao→rs[j]?=some r→j0<j→affC ao (i+j) r c→M (i+j)=false)→
 foldC (also M (i+j0)) i al rs comp c=updC ao0 (i+j0) r0 (foldC M i al rs comp) c
 |[],_,_,_,_,_,_,h,_,_,_=>by simp at h
 |_::_,[],_,_,_,_,_,_,h,_,_=>by simp at h
 |ao::al,r::rs,i,j0,comp,ao0,r0,ha,hr,hM,hH=>by
  by_cases haff:affC ao0 (i+j0) r0 c
  ·cases j0 with
   |zero=>
    simp at ha hr;subst ha;subst hr
    simp only[Nat.add_zero]at hM hH haff⊢
    simp only[foldC,also,if_true,hM,Bool.false_eq_true,if_false]
    rw[foldC_skip]
    ·exact updC_yes haff
    ·intro j ao' r' h1 h2 h3
     have hne:¬i+1+j=i:=by omega
     show(if i+1+j=i then true else M (i+1+j))=false
     rw[if_neg hne]
     have:=hH haff (j+1) ao' r' (by simpa using h1) (by simpa using h2) (by omega) (by rw[show i+(j+1)=i+1+j by omega];exact h3)
     rwa [show i+(j+1)=i+1+j by omega]at this
   |succ j1=>
    have e:i+(j1+1)=i+1+j1:=by omega
    simp only[foldC]
    rw[e]at hM hH⊢
    have hne:¬i=i+1+j1:=by omega
    have e2:also M (i+1+j1) i=M i:=by simp[also,hne]
    rw[e2]
    exact foldC_add (by simpa using ha) (by simpa using hr) hM λhf j ao' r' h1 h2 h3 h4=>by
     have:=hH hf (j+1) ao' r' (by simpa using h1) (by simpa using h2) (by omega) (by rw[show i+(j+1)=i+1+j by omega];exact h4)
     rwa [show i+(j+1)=i+1+j by omega]at this
  ·rw[updC_no haff]
   refine foldC_agree rfl λj ao' r' h1 h2 h3=>?_
   unfold also
   by_cases e:i+j=i+j0
   ·exfalso
    have:j=j0:=by omega
    subst this
    rw[ha]at h1;cases h1
    rw[hr]at h2;cases h2
    exact haff h3
   ·show(if i+j=i+j0 then true else M (i+j))=M (i+j)
    rw[if_neg e]
theorem foldC_dead {M:Nat→Bool} {c:Nat}:∀{al:List AOper} {rs:List Rec} {i:Nat} {comp:Nat→St},comp c=[]→
 (∀(j:Nat) ao r,al[j]?=some ao→rs[j]?=some r→affC ao (i+j) r c→c≠target ao (i+j))→foldC M i al rs comp c=[]
 |[],_,_,_,h,_=>h
 |_::_,[],_,_,h,_=>h
 |ao::al,r::rs,i,comp,h,hM=>by
  simp only[foldC]
  refine foldC_dead ?_ λj ao' r' h1 h2 h3=>by
   have:=hM (j+1) ao' r' (by simpa using h1) (by simpa using h2) (by rw[show i+(j+1)=i+1+j by omega];exact h3)
   rwa [show i+(j+1)=i+1+j by omega]at this
  split
  ·by_cases ha:affC ao i r c
   ·have hne:=hM 0 ao r (by simp) (by simp) (by simpa using ha)
    simp only[Nat.add_zero]at hne
    obtain⟨h1,h2,h3⟩:=ha
    have h4:c∈takes ao i:=h3.resolve_left hne
    unfold updC
    simp[h1,h2,newComp,hne,h4]
   ·rw[updC_no ha];exact h
  ·exact h
theorem get_setDT_no {tm:TM} {dst:Option (Nat×Nat)} {v:AV} {q r:Nat} (h:dst≠some (q,r)):get (setDT tm dst v) q r=get tm q r:=by
 cases dst with
 |none=>rfl
 |some p=>exact get_setT_other λe=>h (by rw[show p=(p.1,p.2)from rfl,e.1,e.2])
theorem get_setDT_yes {tm tm':TM} {v:AV} {q r:Nat} (h:inR tm q r↔inR tm' q r):get (setDT tm (some (q,r)) v) q r=get (setDT tm' (some (q,r)) v) q r:=by
 show get (setT tm q r v) q r=get (setT tm' q r v) q r
 rcases get_setT_same (tm:=tm) (q:=q) (r:=r) (v:=v)with⟨h1,h2⟩|⟨h1,h2⟩
 ·rcases get_setT_same (tm:=tm') (q:=q) (r:=r) (v:=v)with⟨h3,h4⟩|⟨h3,h4⟩
  ·rw[h2,h4]
  ·exact(h3 (h.1 h1)).elim
 ·rcases get_setT_same (tm:=tm') (q:=q) (r:=r) (v:=v)with⟨h3,h4⟩|⟨h3,h4⟩
  ·exact(h1 (h.2 h3)).elim
  ·rw[h2,h4]
theorem foldTm_inR {M:Nat→Bool} {q r:Nat}:∀{al:List AOper} {rs:List Rec} {i:Nat} {tm:TM},inR (foldTm M i al rs tm) q r↔inR tm q r
 |[],_,_,_=>Iff.rfl
 |_::_,[],_,_=>Iff.rfl
 |ao::al,r'::rs,i,tm=>by
  simp only[foldTm]
  rw[foldTm_inR]
  split
  ·exact inR_setDT
  ·exact Iff.rfl
theorem foldTm_agree {M M':Nat→Bool} {q r:Nat}:∀{al:List AOper} {rs:List Rec} {i:Nat} {tm tm':TM},get tm q r=get tm' q r→(inR tm q r↔inR tm' q r)→
 (∀(j:Nat) ao,al[j]?=some ao→ao.dst=some (q,r)→M (i+j)=M' (i+j))→get (foldTm M i al rs tm) q r=get (foldTm M' i al rs tm') q r
 |[],_,_,_,_,h,_,_=>h
 |_::_,[],_,_,_,h,_,_=>h
 |ao::al,r'::rs,i,tm,tm',h,hin,hM=>by
  simp only[foldTm]
  refine foldTm_agree ?_ ?_ λj ao' h1 h2=>?_
  ·by_cases hd:ao.dst=some (q,r)
   ·have:=hM 0 ao (by simp) hd
    simp only[Nat.add_zero]at this
    rw[this]
    split
    ·rw[hd];exact get_setDT_yes hin
    ·exact h
   ·split<;>split<;>simp[get_setDT_no hd,h]
  ·split<;>split<;>simp[inR_setDT,hin]
  ·have:=hM (j+1) ao' (by simpa using h1) h2
   rwa [show i+(j+1)=i+1+j by omega]at this
theorem foldTm_skip {M:Nat→Bool} {q r:Nat}:∀{al:List AOper} {rs:List Rec} {i:Nat} {tm:TM},(∀(j:Nat) ao,al[j]?=some ao→ao.dst=some (q,r)→M (i+j)=false)→get (foldTm M i al rs tm) q r=get tm q r
 |[],_,_,_,_=>rfl
 |_::_,[],_,_,_=>rfl
 |ao::al,r'::rs,i,tm,hM=>by
  simp only[foldTm]
  rw[foldTm_skip λj ao' h1 h2=>by
   have:=hM (j+1) ao' (by simpa using h1) h2
   rwa [show i+(j+1)=i+1+j by omega]at this]
  split
  ·rename_i hMi
   refine get_setDT_no λhd=>?_
   have:=hM 0 ao (by simp) hd
   simp only[Nat.add_zero]at this
   rw[this]at hMi;cases hMi
  ·rfl
theorem foldTm_add {M:Nat→Bool} {q r:Nat}:∀{al:List AOper} {rs:List Rec} {i j0:Nat} {tm:TM} {ao0:AOper} {r0:Rec},al[j0]?=some ao0→rs[j0]?=some r0→M (i+j0)=false→
 (ao0.dst=some (q,r)→∀(j:Nat) ao,al[j]?=some ao→j0<j→ao.dst=some (q,r)→M (i+j)=false)→
 get (foldTm (also M (i+j0)) i al rs tm) q r=get (setDT (foldTm M i al rs tm) ao0.dst r0.v) q r
 |[],_,_,_,_,_,_,h,_,_,_=>by simp at h
 |_::_,[],_,_,_,_,_,_,h,_,_=>by simp at h
 |ao::al,r'::rs,i,j0,tm,ao0,r0,ha,hr,hM,hH=>by
  by_cases haff:ao0.dst=some (q,r)
  ·cases j0 with
   |zero=>
    simp at ha hr;subst ha;subst hr
    simp only[Nat.add_zero]at hM hH⊢
    simp only[foldTm,also,if_true,hM,Bool.false_eq_true,if_false]
    rw[foldTm_skip]
    ·rw[haff];exact get_setDT_yes foldTm_inR.symm
    ·intro j ao' h1 h2
     have hne:¬i+1+j=i:=by omega
     show(if i+1+j=i then true else M (i+1+j))=false
     rw[if_neg hne]
     have:=hH haff (j+1) ao' (by simpa using h1) (by omega) h2
     rwa [show i+(j+1)=i+1+j by omega]at this
   |succ j1=>
    have e:i+(j1+1)=i+1+j1:=by omega
    simp only[foldTm]
    rw[e]at hM⊢
    have hne:¬i=i+1+j1:=by omega
    have e2:also M (i+1+j1) i=M i:=by simp[also,hne]
    rw[e2]
    exact foldTm_add (by simpa using ha) (by simpa using hr) hM λhf j ao' h1 h3 h4=>by
     have:=hH hf (j+1) ao' (by simpa using h1) (by omega) h4
     rwa [show i+(j+1)=i+1+j by omega]at this
  ·rw[get_setDT_no haff]
   refine foldTm_agree rfl Iff.rfl λj ao' h1 h2=>?_
   unfold also
   by_cases e:i+j=i+j0
   ·exfalso
    have:j=j0:=by omega
    subst this
    rw[ha]at h1;cases h1
    exact haff h2
   ·show(if i+j=i+j0 then true else M (i+j))=M (i+j)
    rw[if_neg e]
def nAt (n:Nat) (rs:List Rec):Nat→Nat
 |0=>n
 |j+1=>((rs[j]?).map (·.n1)).getD n
section
variable {P:Program} {val:Nat→Int} {fz:Fz}
theorem Chain.lengths:∀{l:List Oper} {al:List AOper} {rs:List Rec} {i:Nat} {tm:TM} {comp:Nat→St} {n:Nat} {tm':TM} {comp':Nat→St} {n':Nat},Chain P val fz i l al rs tm comp n tm' comp' n'→l.length=al.length∧rs.length=al.length
 |[],[],[],_,_,_,_,_,_,_,_=>⟨rfl,rfl⟩
 |o::l,ao::al,r::rs,_,_,_,_,_,_,_,h=>by obtain⟨a,b⟩:=Chain.lengths h.2;simp[a,b]
 |[],[],_::_,_,_,_,_,_,_,_,h=>h.elim
 |[],_::_,[],_,_,_,_,_,_,_,h=>h.elim
 |[],_::_,_::_,_,_,_,_,_,_,_,h=>h.elim
 |_::_,[],[],_,_,_,_,_,_,_,h=>h.elim
 |_::_,[],_::_,_,_,_,_,_,_,_,h=>h.elim
 |_::_,_::_,[],_,_,_,_,_,_,_,h=>h.elim
theorem Chain.get:∀{l:List Oper} {al:List AOper} {rs:List Rec} {i:Nat} {tm:TM} {comp:Nat→St} {n:Nat} {tm':TM} {comp':Nat→St} {n':Nat},Chain P val fz i l al rs tm comp n tm' comp' n'→
 ∀(j:Nat) o ao r,l[j]?=some o→al[j]?=some ao→rs[j]?=some r→SemOp P val fz o ao (i+j) r (foldTm (λx=>decide (x<i+j)) i al rs tm) (foldC (λx=>decide (x<i+j)) i al rs comp) (nAt n rs j)
 |[],_,_,_,_,_,_,_,_,_,_,j,o,ao,r,h1,_,_=>by simp at h1
 |_::_,[],_,_,_,_,_,_,_,_,h,_,_,_,_,_,h2,_=>by simp at h2
 |_::_,_::_,[],_,_,_,_,_,_,_,h,_,_,_,_,_,_,h3=>by simp at h3
 |o::l,ao::al,r::rs,i,tm,comp,n,tm',comp',n',h,j,o',ao',r',h1,h2,h3=>by
  cases j with
  |zero=>
   simp at h1 h2 h3;subst h1;subst h2;subst h3
   have e1:foldTm (λx=>decide (x<i+0)) i (ao::al) (r::rs) tm=tm:=by
    have:∀(al:List AOper) (rs:List Rec) (k:Nat) (tm:TM),i≤k→foldTm (λx=>decide (x<i+0)) k al rs tm=tm:=by
     intro al
     induction al with
     |nil=>intro rs k tm _;rfl
     |cons a al ih=>
      intro rs k tm hk
      cases rs with
      |nil=>rfl
      |cons b rs=>simp only[foldTm,show¬k<i+0 by omega,decide_false,Bool.false_eq_true,if_false];exact ih rs (k+1) tm (by omega)
    exact this _ _ i tm (Nat.le_refl _)
   have e2:foldC (λx=>decide (x<i+0)) i (ao::al) (r::rs) comp=comp:=by
    funext c
    exact foldC_skip λj ao r _ _ _=>by simp
   rw[e1,e2]
   exact h.1
  |succ j=>
   have:=Chain.get h.2 j o' ao' r' (by simpa using h1) (by simpa using h2) (by simpa using h3)
   simp only[foldTm,foldC,show i<i+(j+1) by omega,decide_true,if_true]
   rw[show i+1+j=i+(j+1) by omega]at this
   have en:nAt r.n1 rs j=nAt n (r::rs) (j+1):=by
    cases j with
    |zero=>simp[nAt]
    |succ j=>
     simp only[nAt,List.getElem?_cons_succ]
     simp only[List.getElem?_cons_succ]at h3
     have:j<rs.length:=by have:=(List.getElem?_eq_some_iff.1 h3).1;omega
     simp[List.getElem?_eq_getElem this]
   rw[←en]
   exact this
theorem Chain.final:∀{l:List Oper} {al:List AOper} {rs:List Rec} {i:Nat} {tm:TM} {comp:Nat→St} {n:Nat} {tm':TM} {comp':Nat→St} {n':Nat},Chain P val fz i l al rs tm comp n tm' comp' n'→
 tm'=foldTm (λ_=>true) i al rs tm∧comp'=foldC (λ_=>true) i al rs comp∧n'=nAt n rs rs.length∧(∀j,j<rs.length→nAt n rs j≤nAt n rs (j+1))
 |[],[],[],_,_,_,_,_,_,_,h=>⟨h.1,h.2.1,h.2.2,λj hj=>by simp at hj⟩
 |o::l,ao::al,r::rs,i,tm,comp,n,tm',comp',n',h=>by
  obtain⟨a,b,c,d⟩:=Chain.final h.2
  have en:∀j,j≤rs.length→nAt r.n1 rs j=nAt n (r::rs) (j+1):=by
   intro j hj
   cases j with
   |zero=>simp[nAt]
   |succ j=>simp[nAt,List.getElem?_eq_getElem (show j<rs.length by omega)]
  refine⟨by simpa[foldTm]using a,by simpa[foldC]using b,?_,λj hj=>?_⟩
  ·rw[c,en _ (Nat.le_refl _)];rfl
  ·cases j with
   |zero=>simpa[nAt]using h.1.1
   |succ j=>
    have:=d j (by simpa using hj)
    rw[en j (by simp at hj;omega),en (j+1) (by simp at hj;omega)]at this
    exact this
 |[],[],_::_,_,_,_,_,_,_,_,h=>h.elim
 |[],_::_,[],_,_,_,_,_,_,_,h=>h.elim
 |[],_::_,_::_,_,_,_,_,_,_,_,h=>h.elim
 |_::_,[],[],_,_,_,_,_,_,_,h=>h.elim
 |_::_,[],_::_,_,_,_,_,_,_,_,h=>h.elim
 |_::_,_::_,[],_,_,_,_,_,_,_,h=>h.elim
end
end Go.Ev
namespace Go.Ev
structure ROK (ops:List Oper) (al:List AOper):Prop where
 back:∀(i:Nat) oc o,ops[i]?=some oc→al[i]?=some o→∀e∈oc.after.toList,Region.binds .any e=true→e.on<i
 anc:∀(i:Nat) oc o,ops[i]?=some oc→al[i]?=some o→∀j∈o.anc,∃e∈oc.after.toList,Region.binds .any e=true∧(e.on=j∨∃p,al[e.on]?=some p∧j∈p.anc)
 mode:∀(i:Nat) oc o,ops[i]?=some oc→al[i]?=some o→o.mode≤4
 pair:∀(i j:Nat) oc o p,ops[i]?=some oc→al[i]?=some o→al[j]?=some p→i≠j→
  (j<i∧j∈o.anc∨i<j∧i∈p.anc)∨((∀t,o.dst=some t→p.dst≠some t)∧(∀t,p.dst=some t→t∉looksC oc o.g)∧∀c∈aff al j p,c∉rds al i o∧c∉aff al i o)
theorem rok_of {ops:List Oper} {al:List AOper} (h:regOk ops al=true):ROK ops al:=by
 have key:∀(i:Nat) oc o,ops[i]?=some oc→al[i]?=some o→oneOk al i oc o=true∧∀(j:Nat) p,al[j]?=some p→pairOk al i oc o j p=true:=by
  intro i oc o h1 h2
  unfold regOk at h
  rw[List.all_eq_true]at h
  have hz:(ops.zip al)[i]?=some (oc,o):=by rw[List.getElem?_zip_eq_some];exact⟨h1,h2⟩
  have hm:((oc,o),i)∈(ops.zip al).zipIdx:=List.mem_zipIdx_iff_getElem?.2 hz
  have:=h _ hm
  simp only[Bool.and_eq_true]at this
  refine⟨this.1,λj p hp=>?_⟩
  have h3:=this.2
  rw[List.all_eq_true]at h3
  exact h3 (p,j) (List.mem_zipIdx_iff_getElem?.2 hp)
 refine⟨λi oc o h1 h2 e he hb=>?_,λi oc o h1 h2 j hj=>?_,λi oc o h1 h2=>?_,λi j oc o p h1 h2 h3 hne=>?_⟩
 ·have:=(key i oc o h1 h2).1
  simp only[oneOk,Bool.and_eq_true,List.all_eq_true]at this
  have h4:=this.1.1.2 e he
  rw[hb]at h4
  simpa[Nat.blt_eq]using h4
 ·have:=(key i oc o h1 h2).1
  simp only[oneOk,Bool.and_eq_true,List.all_eq_true]at this
  have h4:=this.1.2 j hj
  rw[List.any_eq_true]at h4
  obtain⟨e,he,h5⟩:=h4
  simp only[Bool.and_eq_true,Bool.or_eq_true,beq_iff_eq]at h5
  refine⟨e,he,h5.1,h5.2.imp id λh6=>?_⟩
  split at h6
  ·rename_i p hp;exact⟨p,hp,by simpa using h6⟩
  ·cases h6
 ·have:=(key i oc o h1 h2).1
  simp only[oneOk,Bool.and_eq_true,Nat.ble_eq]at this
  exact this.1.1.1
 ·have:=(key i oc o h1 h2).2 j p h3
  simp only[pairOk,Bool.or_eq_true,Bool.and_eq_true,beq_iff_eq,hne,false_or,ordered,Nat.blt_eq,List.contains_iff_mem]at this
  rcases this with h4|⟨⟨h5,h6⟩,h7⟩
  ·exact .inl h4
  ·refine .inr ⟨λt ht hp=>?_,λt ht hm=>?_,λc hc=>?_⟩
   ·rw[ht,hp]at h5;simp at h5
   ·rw[ht]at h6;simp[hm]at h6
   ·simp only[Bool.not_eq_true',List.any_eq_false,Bool.or_eq_true,List.contains_iff_mem,not_or]at h7
    exact h7 c hc
theorem ROK.lt {ops:List Oper} {al:List AOper} (h:ROK ops al) (hl:ops.length=al.length):∀(i:Nat) o,al[i]?=some o→∀j∈o.anc,j<i:=by
 intro i
 induction i using Nat.strongRecOn with
 |ind i ih=>
  intro o ho j hj
  have hi:=(List.getElem?_eq_some_iff.1 ho).1
  obtain⟨oc,hoc⟩:∃oc,ops[i]?=some oc:=⟨ops[i],List.getElem?_eq_getElem (by omega)⟩
  obtain⟨e,he,hb,h1⟩:=h.anc i oc o hoc ho j hj
  have h2:=h.back i oc o hoc ho e he hb
  rcases h1 with rfl|⟨p,hp,h3⟩
  ·exact h2
  ·exact Nat.lt_trans (ih e.on h2 p hp j h3) h2
def live (al:List AOper) (c:Nat):Prop:=c=0∨∃(k:Nat) (p:AOper),c=k+1∧al[k]?=some p∧p.mode≠0∧p.mode≠2
theorem mem_ancMem {al:List AOper} {o:AOper} {k:Nat} {p:AOper} (hk:k∈o.anc) (hp:al[k]?=some p) (h0:p.mode≠0) (h2:p.mode≠2):k∈ancMem al o:=by
 unfold ancMem
 rw[List.mem_filter]
 exact⟨hk,by simp[hp,h0,h2]⟩
theorem target_live {al:List AOper} {i:Nat} {o:AOper} (ho:al[i]?=some o) (h0:o.mode≠0):live al (target o i):=by
 unfold target
 split
 ·exact .inl rfl
 ·rename_i h2;exact .inr ⟨i,o,rfl,ho,h0,h2⟩
theorem takes_aff {al:List AOper} {i:Nat} {o:AOper} {c:Nat} (hm:o.mode≤4) (hl:live al c) (hc:c∈takes o i):c∈aff al i o:=by
 have hmode:o.mode=0∨o.mode=1∨o.mode=2∨o.mode=3∨o.mode=4:=by omega
 have anc:∀c,live al c→c∈sucs o.anc→c∈(ancMem al o).map (· +1):=by
  intro c hl hc
  rcases hl with rfl|⟨k,p,rfl,h1,h2,h3⟩
  ·exact(zero_sucs hc).elim
  ·exact List.mem_map.2 ⟨k,mem_ancMem (mem_sucs.1 hc) h1 h2 h3,rfl⟩
 rcases hmode with h|h|h|h|h<;>simp[takes,h]at hc
 ·rcases hc with hc|hc
  ·simp only[aff,h,List.mem_cons];exact .inr (anc c hl hc)
  ·simp[aff,h,hc]
 ·rcases hc with hc|hc
  ·simp[aff,h,hc]
  ·simp only[aff,h,List.mem_cons];exact .inr (anc c hl hc)
theorem affC_aff {al:List AOper} {i:Nat} {o:AOper} {r:Rec} {c:Nat} (hm:o.mode≤4) (hl:live al c) (h:affC o i r c):c∈aff al i o:=by
 obtain⟨_,h0,h1|h1⟩:=h
 ·have hmode:o.mode=1∨o.mode=2∨o.mode=3∨o.mode=4:=by omega
  rcases hmode with h|h|h|h<;>simp[target,h]at h1<;>simp[aff,h,h1]
 ·exact takes_aff hm hl h1
def reads (o:AOper) (i:Nat):List Nat:=if o.mode=1 then 0::sucs o.anc else takes o i
theorem reads_rds {al:List AOper} {i:Nat} {o:AOper} {c:Nat} (hm:o.mode≤4) (hl:live al c) (hc:c∈reads o i):c∈rds al i o:=by
 unfold reads at hc
 split at hc
 ·rename_i h
  simp only[List.mem_cons]at hc
  simp only[rds,h,List.mem_cons]
  refine hc.imp id λhc=>?_
  rcases hl with rfl|⟨k,p,rfl,h1,h2,h3⟩
  ·exact(zero_sucs hc).elim
  ·exact List.mem_map.2 ⟨k,mem_ancMem (mem_sucs.1 hc) h1 h2 h3,rfl⟩
 ·rename_i h
  have:=takes_aff hm hl hc
  unfold rds
  split
  ·rename_i h';exact(h h').elim
  ·exact this
theorem cat_congr {comp comp':Nat→St} {l:List Nat} (h:∀c∈l,comp c=comp' c):cat comp l=cat comp' l:=by
 induction l with
 |nil=>rfl
 |cons c r ih=>simp only[cat];rw[h c (by simp),ih λc hc=>h c (by simp[hc])]
theorem muv_congr {o:AOper} {i:Nat} {comp comp':Nat→St} (h:∀c∈reads o i,comp c=comp' c):muv o i comp=muv o i comp':=by
 unfold muv
 by_cases h1:o.mode=1
 ·simp[takes,h1,cat]
 ·exact cat_congr λc hc=>h c (by simp[reads,h1,hc])
theorem fzv_congr {fz:Fz} {o:AOper} {i:Nat} {comp comp':Nat→St} (h:∀c∈reads o i,comp c=comp' c):fzv fz o comp=fzv fz o comp':=by
 unfold fzv
 split
 ·rename_i h1
  rw[h 0 (by simp[reads,h1]),cat_congr (comp:=comp) (comp':=comp') λc hc=>h c (by simp[reads,h1,hc])]
 ·rfl
section
variable {P:Program} {val:Nat→Int} {fz:Fz}
theorem CInv.rel {ρ:Rho} {comp:Nat→St} {w:World} (h:CInv val ρ fz comp w) (o:AOper) (i:Nat):Rel val ρ (fzv fz o comp) (muv o i comp) w:=by
 unfold fzv muv
 split
 ·rename_i h1
  have:takes o i=[]:=by simp[takes,h1]
  rw[this]
  exact h.ro _ _
 ·split
  ·exact h.take _
  ·exact(h.take _).noFz
theorem GuardF.congr {g:Option (Nat×Nat×Bool)} {tm tm':TM} {b:Bool} (h:∀q r x,g=some (q,r,x)→get tm q r=get tm' q r) (hg:GuardF g tm b):GuardF g tm' b:=by
 cases g with
 |none=>exact hg
 |some p=>
  obtain⟨q,r,want⟩:=p
  have:=h q r want rfl
  simp only[GuardF]at*
  rw[←this];exact hg
theorem OperR.of {ρ:Rho} {w:World} {tm tm':TM} {a:Act} {oc:Oper} {g:Option (Nat×Nat×Bool)} (ht:TmR val ρ w tm a) (h:∀q r,(q,r)∈looksC oc g→get tm q r=get tm' q r):OperR P val ρ w tm' a oc.op:=by
 intro x y hx hy
 have h0:=ht.oper (P:=P) oc.op x y hx hy
 cases x with
 |tmp t=>
  simp[od]at hy;subst hy
  have e:get tm (t/16) (t%16)=get tm' (t/16) (t%16):=h _ _ (by
   unfold looksC
   refine List.mem_append_left _ (List.mem_filterMap.2 ⟨.tmp t,by simpa using hx,rfl⟩))
  show AVR val ρ w (get tm' (t/16) (t%16)) _
  rw[←e]
  exact h0
 |const v=>
  obtain⟨v',hv',rfl⟩:=Option.map_eq_some_iff.1 hy
  exact h0
 |global g=>cases hy
 |func f=>
  simp only[od]at hy
  split at hy
  ·cases hy;exact h0
  ·cases hy
end
end Go.Ev
namespace Go.Ev
section
variable {P:Program} {val:Nat→Int} {fz:Fz}
structure Reg (P:Program) (val:Nat→Int) (fz:Fz) (ops:Array Oper) (al:List AOper) (rs:List Rec) (tm0:TM) (comp0:Nat→St) (n0:Nat) (tmE:TM) (compE:Nat→St) (nE:Nat):Prop where
 ok:ROK ops.toList al
 opr:All2 (OpR P ops) ops.toList al
 ch:Chain P val fz 0 ops.toList al rs tm0 comp0 n0 tmE compE nE
 dead:∀c,¬live al c→comp0 c=[]
structure Part (val:Nat→Int) (fz:Fz) (al:List AOper) (rs:List Rec) (tm0:TM) (comp0:Nat→St) (n0 nE:Nat) (ρ0:Rho) (mu0:St) (w0:World) (M:Nat→Bool) (ρ:Rho) (a:Act) (w:World):Prop where
 cl:∀(i:Nat) o,M i=true→al[i]?=some o→∀j∈o.anc,M j=true
 ext:Ext ρ0 ρ n0 nE
 inv:CInv val ρ fz (foldC M 0 al rs comp0) w
 tmr:TmR val ρ w (foldTm M 0 al rs tm0) a
 fr:Fr ρ0 mu0 w0 w
 nb:∀c id p,(look (foldC M 0 al rs comp0 c) id).isSome→ρ id=some p→w0.heap.size≤p.1∨∃id0 p0,(look mu0 id0).isSome∧ρ0 id0=some p0∧p0.1=p.1
 ni:∀c id,(look (foldC M 0 al rs comp0 c) id).isSome→(look mu0 id).isSome∨n0≤id∧id<nE
 fresh:∀j,j<rs.length→M j=false→FreshN ρ (nAt n0 rs j) (nAt n0 rs (j+1))
variable {ops:Array Oper} {al:List AOper} {rs:List Rec} {tm0 tmE:TM} {comp0 compE:Nat→St} {n0 nE:Nat} {ρ0:Rho} {mu0:St} {w0:World}
theorem nAt_mono {n:Nat} {rs:List Rec} (h:∀j,j<rs.length→nAt n rs j≤nAt n rs (j+1)):∀i j,i≤j→j≤rs.length→nAt n rs i≤nAt n rs j:=by
 intro i j hij hj
 induction j with
 |zero=>have:i=0:=by omega
        subst this;exact Nat.le_refl _
 |succ j ih=>
  by_cases e:i=j+1
  ·subst e;exact Nat.le_refl _
  ·exact Nat.le_trans (ih (by omega) (by omega)) (h j (by omega))
theorem Part.step (R:Reg P val fz ops al rs tm0 comp0 n0 tmE compE nE) {M:Nat→Bool} {ρ:Rho} {a:Act} {w:World} (S:Part val fz al rs tm0 comp0 n0 nE ρ0 mu0 w0 M ρ a w)
 {i:Nat} {oc:Oper} (hi:ops[i]?=some oc) (hMi:M i=false) (hready:∀e∈oc.after.toList,Region.binds .any e=true→M e.on=true) {K:Act→World→Prop} {Q:Exit→Act→World→Prop}
 (hK:∀a' w',a'.defers=a.defers→(∃ρ',Part val fz al rs tm0 comp0 n0 nE ρ0 mu0 w0 (also M i) ρ' a' w')→K a' w'):wpOp P ops Q i K a w:=by
 have hlen:=Chain.lengths R.ch
 have hi':ops.toList[i]?=some oc:=by simpa using hi
 obtain⟨o,ho,hor⟩:=R.opr.get hi'
 have hil:=(List.getElem?_eq_some_iff.1 ho).1
 obtain⟨r,hr⟩:∃r,rs[i]?=some r:=⟨rs[i],List.getElem?_eq_getElem (by omega)⟩
 have hmode:∀(j:Nat) p,al[j]?=some p→p.mode≤4:=λj p hp=>by
  have:=(List.getElem?_eq_some_iff.1 hp).1
  exact R.ok.mode j _ p (List.getElem?_eq_getElem (by omega)) hp
 obtain⟨_,_,hnE,hnm⟩:=Chain.final R.ch
 have hmono:=nAt_mono hnm
 -- all that it waits for is done
 have hanc:∀j∈o.anc,M j=true:=λj hj=>by
  obtain⟨e,he,hb,h1⟩:=R.ok.anc i oc o hi' ho j hj
  have h2:=hready e he hb
  rcases h1 with rfl|⟨p,hp,h3⟩
  ·exact h2
  ·exact S.cl e.on p h2 hp j h3
 have hdec:∀(j:Nat) p,al[j]?=some p→(j<i∧j∈o.anc∨i<j∧i∈p.anc)→M j=decide (j<i):=λj p hp hj=>by
  rcases hj with⟨h1,h2⟩|⟨h1,h2⟩
  ·rw[hanc j h2];simp[h1]
  ·have:M j=false:=by
    cases e:M j with
    |false=>rfl
    |true=>have:=S.cl j p e hp i h2;rw[hMi]at this;cases this
   rw[this];simp;omega
 -- the temporaries that it looks at
 have htm:∀q r',(q,r')∈looksC oc o.g→get (foldTm M 0 al rs tm0) q r'=get (foldTm (λx=>decide (x<0+i)) 0 al rs tm0) q r':=λq r' hl=>by
  refine foldTm_agree rfl Iff.rfl λj p hp hd=>?_
  simp only[Nat.zero_add]
  by_cases e:i=j
  ·subst e;rw[hMi];simp
  ·rcases R.ok.pair i j oc o p hi' ho hp e with h1|⟨_,h2,_⟩
   ·exact hdec j p hp h1
   ·exact(h2 _ hd hl).elim
 have hdead:∀(M:Nat→Bool) c,¬live al c→foldC M 0 al rs comp0 c=[]:=λM c hc=>by
  refine foldC_dead (R.dead c hc) λj p r' hp _ ha e=>?_
  simp only[Nat.zero_add]at ha e
  rw[e]at hc
  exact hc (target_live hp ha.2.1)
 have hmem:∀c∈reads o i,foldC M 0 al rs comp0 c=foldC (λx=>decide (x<0+i)) 0 al rs comp0 c:=λc hc=>by
  by_cases hlv:live al c
  ·refine foldC_agree rfl λj p r' hp _ ha=>?_
   simp only[Nat.zero_add]at ha⊢
   by_cases e:i=j
   ·subst e;rw[hMi];simp
   ·rcases R.ok.pair i j oc o p hi' ho hp e with h1|⟨_,_,h3⟩
    ·exact hdec j p hp h1
    ·exact((h3 c (affC_aff (hmode j p hp) hlv ha)).1 (reads_rds (hmode i o ho) hlv hc)).elim
  ·rw[hdead _ c hlv,hdead _ c hlv]
 -- the parts behind it
 have hnew:foldC (also M i) 0 al rs comp0=updC o i r (foldC M 0 al rs comp0):=by
  funext c
  by_cases hlv:live al c
  ·have:=foldC_add (M:=M) (c:=c) (al:=al) (rs:=rs) (i:=0) (j0:=i) (comp:=comp0) ho hr (by simpa using hMi) λha j p r' hp hr' hj ha'=>by
    simp only[Nat.zero_add]at ha ha'⊢
    rcases R.ok.pair i j oc o p hi' ho hp (by omega)with h1|⟨_,_,h3⟩
    ·rw[hdec j p hp h1];simp;omega
    ·exact((h3 c (affC_aff (hmode j p hp) hlv ha')).2 (affC_aff (hmode i o ho) hlv ha)).elim
   simpa using this
  ·rw[hdead _ c hlv]
   unfold updC
   split
   ·rename_i hw
    have:c≠target o i:=λe=>hlv (e▸target_live ho hw.2)
    simp only[newComp,this,if_false]
    split
    ·rfl
    ·exact(hdead M c hlv).symm
   ·exact(hdead M c hlv).symm
 have htnew:TMeq (setDT (foldTm M 0 al rs tm0) o.dst r.v) (foldTm (also M i) 0 al rs tm0):=by
  refine⟨λq r'=>?_,λq r'=>?_⟩
  ·have:=foldTm_add (M:=M) (q:=q) (r:=r') (al:=al) (rs:=rs) (i:=0) (j0:=i) (tm:=tm0) ho hr (by simpa using hMi) λhd j p hp hj hd'=>by
    simp only[Nat.zero_add]
    rcases R.ok.pair i j oc o p hi' ho hp (by omega)with h1|⟨h1,_,_⟩
    ·rw[hdec j p hp h1];simp;omega
    ·exact(h1 _ hd hd').elim
   simpa using this.symm
  ·rw[inR_setDT,foldTm_inR,foldTm_inR]
 have hcl:∀(k:Nat) p,also M i k=true→al[k]?=some p→∀j∈p.anc,also M i j=true:=by
  intro k p hk hp j hj
  have up:∀j,M j=true→also M i j=true:=λj h=>by unfold also;split<;>simp[h]
  unfold also at hk
  split at hk
  ·subst_vars;rw[ho]at hp;cases hp;exact up j (hanc j hj)
  ·exact up j (S.cl k p hk hp j hj)
 have hsem:=Chain.get R.ch i oc o r hi' ho hr
 obtain⟨s1,s2,s3,s4⟩:=hsem
 simp only[Nat.zero_add]at s2 s3 htm hmem
 have hn1:r.n1=nAt n0 rs (i+1):=by simp[nAt,hr]
 have hg:Region.wanted oc (yielded ops a.tmps)=r.w:=by
  refine guardF_wanted hor.2.2 (GuardF.congr (λq r' x hx=>(htm q r' ?_).symm) s2) S.tmr
  unfold looksC
  refine List.mem_append_right _ ?_
  rw[hx];simp
 unfold wpOp
 simp only[hi,hg]
 cases hw:r.w with
 |true=>
  simp only[if_true]
  left
  have hs:=s3 hw
  rw[←muv_congr hmem,←fzv_congr hmem]at hs
  refine hs.2 ρ w a (S.inv.rel o i) (OperR.of S.tmr htm) (by rw[hn1];exact S.fresh i (by omega) hMi) K Q λx w' hp=>?_
  obtain⟨ρ',p1,p2,p3,p4,p5,p6⟩:=hp
  refine hK _ _ (put_defers _ _ _) ⟨ρ',?_⟩
  have hupd:foldC (also M i) 0 al rs comp0=if o.mode≠0 then newComp (foldC M 0 al rs comp0) (takes o i) (target o i) r.out else foldC M 0 al rs comp0:=by
   rw[hnew];unfold updC;simp[hw]
  have hfr1:FreshN ρ (nAt n0 rs i) r.n1:=by rw[hn1];exact S.fresh i (by omega) hMi
  have hle1:n0≤nAt n0 rs i:=hmono 0 i (by omega) (by omega)
  have hle2:r.n1≤nE:=by rw[hn1,hnE];exact hmono (i+1) rs.length (by omega) (Nat.le_refl _)
  have oldRho:∀c id p,(look (foldC M 0 al rs comp0 c) id).isSome→ρ' id=some p→ρ id=some p:=λc id p hl hp=>by
   obtain⟨cs,hcs⟩:=Option.isSome_iff_exists.1 hl
   obtain⟨q,o',h1,_⟩:=(S.inv.rm c id cs hcs).at
   have:=p1.old id q h1
   rw[hp]at this;cases this;exact h1
  have hnbm:NewB ρ0 ρ mu0 (muv o i (foldC M 0 al rs comp0)) w0:=λid p hl hp=>by
   obtain⟨c,_,h2⟩:=look_catI hl
   exact S.nb c id p h2 hp
  refine⟨hcl,⟨λid p h=>p1.old id p (S.ext.old id p h),λid p h=>?_⟩,?_,?_,S.fr.trans hnbm p4,?_,?_,?_⟩
  ·rcases p1.new id p h with h1|h1
   ·exact S.ext.new id p h1
   ·exact .inr ⟨by omega,by omega⟩
  ·rw[hupd]
   split
   ·exact S.inv.update (λid hl=>look_catI hl) p1 hfr1 p2 p4 p5 p6
   ·rename_i h0
    have h0':o.mode=0:=Classical.not_not.1 h0
    have:muv o i (foldC M 0 al rs comp0)=[]:=by simp[muv,takes,h0',cat]
    rw[this]at p4
    exact S.inv.mono0 p1.old p4
  ·have:=(S.tmr.mono p1.old p4.shape).put oc.dst p3
   rw[←hor.1]at this
   exact this.congr htnew
  ·intro c id p hl hp
   rw[hupd]at hl
   split at hl
   ·unfold newComp at hl
    split at hl
    ·rcases p5 id p hl hp with h1|⟨id0,q0,h1,h2,h3⟩
     ·exact .inl (Nat.le_trans S.fr.size h1)
     ·obtain⟨c',_,h4⟩:=look_catI h1
      rcases S.nb c' id0 q0 h4 h2 with h5|⟨id1,q1,h5,h6,h7⟩
      ·exact .inl (h3▸h5)
      ·exact .inr ⟨id1,q1,h5,h6,h7.trans h3⟩
    ·split at hl
     ·cases hl
     ·exact S.nb c id p hl (oldRho c id p hl hp)
   ·exact S.nb c id p hl (oldRho c id p hl hp)
  ·intro c id hl
   rw[hupd]at hl
   split at hl
   ·unfold newComp at hl
    split at hl
    ·rcases p6 id hl with h1|h1
     ·obtain⟨c',_,h4⟩:=look_catI h1
      exact S.ni c' id h4
     ·exact .inr ⟨by omega,by omega⟩
    ·split at hl
     ·cases hl
     ·exact S.ni c id hl
   ·exact S.ni c id hl
  ·intro j hj hMj id h1 h2
   have hji:j≠i:=λe=>by subst e;simp[also]at hMj
   have hMj':M j=false:=by unfold also at hMj;simpa[hji]using hMj
   cases e:ρ' id with
   |none=>rfl
   |some p=>
    rcases p1.new id p e with h3|⟨h3,h4⟩
    ·rw[S.fresh j hj hMj' id h1 h2]at h3;cases h3
    ·rw[hn1]at h4
     rcases Nat.lt_or_gt_of_ne hji with hlt|hlt
     ·have:=hmono (j+1) i (by omega) (by omega);omega
     ·have:=hmono (i+1) j (by omega) (by omega);omega
 |false=>
  simp only[Bool.false_eq_true,if_false]
  have hupd:foldC (also M i) 0 al rs comp0=foldC M 0 al rs comp0:=by rw[hnew];unfold updC;simp[hw]
  refine hK _ _ (put_defers _ _ _) ⟨ρ,hcl,S.ext,by rw[hupd];exact S.inv,?_,S.fr,by rw[hupd];exact S.nb,by rw[hupd];exact S.ni,λj hj hMj=>S.fresh j hj ?_⟩
  ·have:=S.tmr.put (x:=undef) (v:=r.v) oc.dst (by rw[s4 hw];exact⟨[],rfl,trivial⟩)
   rw[←hor.1]at this
   exact this.congr htnew
  ·unfold also at hMj
   split at hMj
   ·cases hMj
   ·exact hMj
theorem Part.any (R:Reg P val fz ops al rs tm0 comp0 n0 tmE compE nE) {Q:Exit→Act→World→Prop} {d:Act}
 (hQ:∀ρ a w,a.defers=d.defers→Part val fz al rs tm0 comp0 n0 nE ρ0 mu0 w0 (λ_=>true) ρ a w→Q .normal a w):
 ∀(fuel:Nat) (listed:Array Bool) (a:Act) (w:World),listed.size=ops.size→listed.toList.count false≤fuel→a.defers=d.defers→
  (∃ρ,Part val fz al rs tm0 comp0 n0 nE ρ0 mu0 w0 (λx=>listed.getD x false) ρ a w)→wpAny P .any ops Q fuel listed a w:=by
 have hlen:=Chain.lengths R.ch
 have full:∀listed:Array Bool,listed.size=ops.size→Region.ready .any ops listed=[]→∀i,i<ops.size→listed.getD i false=true:=by
  intro listed hs hr i
  induction i using Nat.strongRecOn with
  |ind i ih=>
   intro hi
   cases e:listed.getD i false with
   |true=>rfl
   |false=>
    exfalso
    have hm:i∈Region.ready .any ops listed:=by
     unfold Region.ready
     rw[List.mem_filter]
     refine⟨List.mem_range.2 hi,?_⟩
     have h1:listed.getD i true=false:=by
      simp only[Array.getD_eq_getD_getElem?,Array.getElem?_eq_getElem (show i<listed.size by omega),Option.getD_some]at e⊢
      exact e
     rw[h1,Array.getElem?_eq_getElem hi]
     simp only[Bool.not_false,Bool.true_and,Option.map_some,Option.getD_some,Array.all_eq_true']
     intro ed hed
     cases hb:Region.binds .any ed with
     |false=>rfl
     |true=>
      obtain⟨o,ho,_⟩:=R.opr.get (show ops.toList[i]?=some ops[i] by simp[hi])
      have:=R.ok.back i ops[i] o (by simp[hi]) ho ed (by simpa using hed) hb
      simp[ih ed.on this (by omega)]
    rw[hr]at hm;cases hm
 have fin:∀(listed:Array Bool) a w,listed.size=ops.size→a.defers=d.defers→(∀i,i<ops.size→listed.getD i false=true)→(∃ρ,Part val fz al rs tm0 comp0 n0 nE ρ0 mu0 w0 (λx=>listed.getD x false) ρ a w)→Q .normal a w:=by
  intro listed a w hs hd hf ⟨ρ,S⟩
  refine hQ ρ a w hd ?_
  have hlt:∀(j:Nat) p,al[j]?=some p→listed.getD (0+j) false=true:=λj p hp=>by
   have:=(List.getElem?_eq_some_iff.1 hp).1
   rw[Nat.zero_add]
   exact hf j (by simp at hlen;omega)
  have e1:foldC (λx=>listed.getD x false) 0 al rs comp0=foldC (λ_=>true) 0 al rs comp0:=by
   funext c;exact foldC_agree rfl λj p _ hp _ _=>hlt j p hp
  have e2:TMeq (foldTm (λx=>listed.getD x false) 0 al rs tm0) (foldTm (λ_=>true) 0 al rs tm0):=
   ⟨λq r=>foldTm_agree rfl Iff.rfl λj p hp _=>hlt j p hp,λq r=>by rw[foldTm_inR,foldTm_inR]⟩
  refine⟨λ_ _ _ _ _ _=>rfl,S.ext,by rw[←e1];exact S.inv,S.tmr.congr e2,S.fr,by rw[←e1];exact S.nb,by rw[←e1];exact S.ni,λj _ h=>by cases h⟩
 intro fuel
 induction fuel with
 |zero=>
  intro listed a w hs hc hd hS
  have hall:∀i,i<ops.size→listed.getD i false=true:=λi hi=>by
   have hn:false∉listed.toList:=List.count_eq_zero.1 (by omega)
   cases e:listed.getD i false with
   |true=>rfl
   |false=>
    simp only[Array.getD_eq_getD_getElem?,Array.getElem?_eq_getElem (show i<listed.size by omega),Option.getD_some]at e
    exact(hn (by rw[←e];simp)).elim
  refine⟨?_,fin listed a w hs hd hall hS⟩
  unfold Region.ready
  rw[List.filter_eq_nil_iff]
  intro i hi
  have hi':=List.mem_range.1 hi
  have:=hall i hi'
  simp only[Array.getD_eq_getD_getElem?,Array.getElem?_eq_getElem (show i<listed.size by omega),Option.getD_some]at this⊢
  simp[this]
 |succ fuel ih=>
  intro listed a w hs hc hd hS
  refine⟨λhr=>fin listed a w hs hd (full listed hs hr) hS,λi hi=>?_⟩
  unfold Region.ready at hi
  rw[List.mem_filter]at hi
  obtain⟨h1,h2⟩:=hi
  have hlt:=List.mem_range.1 h1
  rw[Array.getElem?_eq_getElem hlt]at h2
  simp only[Bool.and_eq_true,Bool.not_eq_true',Option.map_some,Option.getD_some,Array.all_eq_true',Bool.or_eq_true]at h2
  obtain⟨h2,h3⟩:=h2
  have hMi:listed.getD i false=false:=by
   simp only[Array.getD_eq_getD_getElem?,Array.getElem?_eq_getElem (show i<listed.size by omega),Option.getD_some]at h2⊢
   exact h2
  obtain⟨ρ,S⟩:=hS
  refine Part.step R S (Array.getElem?_eq_getElem hlt) hMi (λe he hb=>?_) λa' w' hd' hS'=>?_
  ·have:=h3 e (by simpa using he)
   simpa[hb]using this
  ·have eM:also (λx=>listed.getD x false) i=λx=>(listed.setIfInBounds i true).getD x false:=by
    funext x
    unfold also
    simp only[Array.getD_eq_getD_getElem?,Array.getElem?_setIfInBounds]
    by_cases e:x=i
    ·subst e;simp[show x<listed.size by omega]
    ·have e':¬i=x:=λh=>e h.symm
     simp[e,e']
   rw[eM]at hS'
   refine ih _ a' w' (by simpa using hs) ?_ (hd'.trans hd) hS'
   have hl:i<listed.toList.length:=by simp;omega
   have hv:listed.toList[i]=false:=by
    simp only[Array.getD_eq_getD_getElem?,Array.getElem?_eq_getElem (show i<listed.size by omega),Option.getD_some]at hMi
    simpa using hMi
   rw[Array.toList_setIfInBounds,List.count_set hl,hv]
   have:0<listed.toList.count false:=List.count_pos_iff.2 (by rw[←hv];exact List.getElem_mem hl)
   rw[if_pos (by rfl),if_neg (by decide)]
   omega
end
end Go.Ev
namespace Go.Ev
section
variable {R:Type} {T:R→Prop} {z:R} {P:Program} {val:Nat→Int} {fz:Fz} {orc:Orc R} {call:CallT R}
structure Split (mu0:St) (comp:Nat→St):Prop where
 sub:∀c id cs,look (comp c) id=some cs→look mu0 id=some cs
 one:∀c c' id,(look (comp c) id).isSome→(look (comp c') id).isSome→c=c'
theorem Split.inv {mu0:St} {comp:Nat→St} {ρ:Rho} {w:World} (h:Split mu0 comp) (hr:Rel val ρ fz mu0 w):CInv val ρ fz comp w:=by
 have sub':∀c id,(look (comp c) id).isSome→(look mu0 id).isSome:=λc id hs=>by
  obtain⟨cs,hcs⟩:=Option.isSome_iff_exists.1 hs
  simp[h.sub c id cs hcs]
 refine⟨hr.rf,λc id cs hl=>hr.rm id cs (h.sub c id cs hl),λc id cs hl=>hr.dm id cs (h.sub c id cs hl),λc c' id id' p p' hl hl' hp hp' e=>?_,λc id id' p p' hl hl' hp hp' e=>?_⟩
 ·have:=hr.dj id id' p p' (sub' c id hl) (.inl (sub' c' id' hl')) hp hp' e
  subst this
  exact⟨h.one c c' id hl hl',rfl⟩
 ·have:=hr.dj id id' p p' (sub' c id hl) (.inr hl') hp hp' e
  subst this
  obtain⟨cs,hcs⟩:=Option.isSome_iff_exists.1 hl
  rw[hr.dm id cs (h.sub c id cs hcs)]at hl'
  cases hl'
theorem Split.move {mu0 mu:St} {ad:List St} {i id:Nat} {cs:List SV} (hs:Split mu0 (compOf mu ad)) (hi:i<ad.length) (e2:look mu id=some cs):Split mu0 (compOf (killS mu id) (ad.set i ((id,cs)::(ad[i]?).getD []))):=by
 have hget:∀j,((ad.set i ((id,cs)::(ad[i]?).getD []))[j]?).getD []=if j=i then(id,cs)::(ad[i]?).getD []else(ad[j]?).getD []:=λj=>by
  rw[List.getElem?_set]
  by_cases e:i=j
  ·subst e;simp[hi]
  ·have e':¬j=i:=λx=>e x.symm
   simp[e,e']
 refine⟨λc id' cs' hc=>?_,λc c' id' hc hc'=>?_⟩
 ·cases c with
  |zero=>
   simp only[compOf,look_killS]at hc
   split at hc
   ·cases hc
   ·exact hs.sub 0 id' cs' hc
  |succ j=>
   simp only[compOf,hget]at hc
   split at hc
   ·rename_i hj;subst hj
    rw[look_cons]at hc
    split at hc
    ·subst_vars;cases hc;exact hs.sub 0 _ _ e2
    ·exact hs.sub (j+1) id' cs' hc
   ·exact hs.sub (j+1) id' cs' hc
 ·have key:∀c,(look (compOf (killS mu id) (ad.set i ((id,cs)::(ad[i]?).getD [])) c) id').isSome→(c=i+1∧id'=id)∨(id'≠id∧(look (compOf mu ad c) id').isSome):=by
   intro c hx
   cases c with
   |zero=>
    simp only[compOf,look_killS]at hx
    split at hx
    ·cases hx
    ·rename_i hne;exact .inr ⟨λe=>hne e.symm,hx⟩
   |succ j=>
    simp only[compOf,hget]at hx
    have other:(look ((ad[j]?).getD []) id').isSome→(id'≠id∧(look (compOf mu ad (j+1)) id').isSome):=λhy=>by
     by_cases e:id'=id
     ·subst e
      have:=hs.one (j+1) 0 id' hy (by simp[compOf,e2])
      cases this
     ·exact⟨e,hy⟩
    split at hx
    ·rename_i hj;subst hj
     rw[look_cons]at hx
     split at hx
     ·subst_vars;exact .inl ⟨rfl,rfl⟩
     ·exact .inr (other hx)
    ·exact .inr (other hx)
  rcases key c hc with⟨h1,h2⟩|⟨h1,h2⟩
  ·rcases key c' hc' with⟨h3,h4⟩|⟨h3,h4⟩
   ·rw[h1,h3]
   ·exact(h3 h2).elim
  ·rcases key c' hc' with⟨h3,h4⟩|⟨h3,h4⟩
   ·exact(h1 h4).elim
   ·exact hs.one c c' id' h2 h4
theorem moveK_elim {mu0 mu:St} {ad:List St} {i id:Nat} {J:St→List St→R} (hs:Split mu0 (compOf mu ad)) (hi:i<ad.length) (h:T (moveK i id mu ad J)):
 ∃mu1 ad1,T (J mu1 ad1)∧ad1.length=ad.length∧Split mu0 (compOf mu1 ad1)∧∀j,j≠i→(ad1[j]?).getD []=(ad[j]?).getD []:=by
 unfold moveK at h
 cases e2:look mu id with
 |none=>rw[e2]at h;exact⟨mu,ad,h,rfl,hs,λ_ _=>rfl⟩
 |some cs=>
  rw[e2]at h
  have h3:T (killK mu id λmu=>setK ad i ((id,cs)::nth [] ad i) λad=>J mu ad):=h
  rw[killK_eq,setK_eq,nth_eq]at h3
  refine⟨_,_,h3,by simp,hs.move hi e2,λj hj=>?_⟩
  rw[List.getElem?_set,if_neg (λx=>hj x.symm)]
theorem bufK_elim {cs:List SV} {no:R} {k:Nat→R} (h:T (bufK cs no k)):T no∨∃g,T (k g):=by
 unfold bufK at h
 cases cs with
 |nil=>exact .inl h
 |cons a l=>
  have h1:T (a.onMk no λm=>cond (Nat.beq m 3) ((nth .un (a::l) 3).onBlk no k) no):=h
  cases a with
  |mk t=>
   have h2:T (cond (Nat.beq t 3) ((nth .un (SV.mk t::l) 3).onBlk no k) no):=h1
   cases e:Nat.beq t 3 with
   |false=>rw[e]at h2;exact .inl h2
   |true=>
    rw[e]at h2
    have h3:T ((nth .un (SV.mk t::l) 3).onBlk no k):=h2
    generalize nth .un (SV.mk t::l) 3=s at h3
    cases s with
    |optr id off=>exact .inr ⟨id,h3⟩
    |osl id off len cap s=>exact .inr ⟨id,h3⟩
    |_=>exact .inl h3
  |_=>exact .inl h1
theorem setApart_elim {mu0 mu:St} {ad:List St} {i:Nat} {v:AV} {J:St→List St→R} (hs:Split mu0 (compOf mu ad)) (hi:i<ad.length) (h:T (setApart v i mu ad J)):
 ∃mu1 ad1,T (J mu1 ad1)∧ad1.length=ad.length∧Split mu0 (compOf mu1 ad1)∧∀j,j≠i→(ad1[j]?).getD []=(ad[j]?).getD []:=by
 have skip:T (J mu ad)→∃mu1 ad1,T (J mu1 ad1)∧ad1.length=ad.length∧Split mu0 (compOf mu1 ad1)∧∀j,j≠i→(ad1[j]?).getD []=(ad[j]?).getD []:=λh=>⟨mu,ad,h,rfl,hs,λ_ _=>rfl⟩
 have main:∀id,T (Option.rec (motive:=λ_=>R) (J mu ad) (λcs=>moveK i id mu ad λmu ad=>bufK cs (J mu ad) λg=>moveK i g mu ad J) (look mu id))→
  ∃mu1 ad1,T (J mu1 ad1)∧ad1.length=ad.length∧Split mu0 (compOf mu1 ad1)∧∀j,j≠i→(ad1[j]?).getD []=(ad[j]?).getD []:=by
  intro id h
  cases e2:look mu id with
  |none=>rw[e2]at h;exact skip h
  |some cs=>
   rw[e2]at h
   obtain⟨mu1,ad1,h1,h2,h3,h4⟩:=moveK_elim hs hi (show T (moveK i id mu ad λmu ad=>bufK cs (J mu ad) λg=>moveK i g mu ad J)from h)
   rcases bufK_elim h1 with h5|⟨g,h5⟩
   ·exact⟨mu1,ad1,h5,h2,h3,h4⟩
   ·obtain⟨mu2,ad2,g1,g2,g3,g4⟩:=moveK_elim h3 (by rw[h2];exact hi) h5
    exact⟨mu2,ad2,g1,g2.trans h2,g3,λj hj=>(g4 j hj).trans (h4 j hj)⟩
 cases v with
 |ag l=>exact skip h
 |tp l=>exact skip h
 |one s=>
  cases s with
  |optr id off=>exact main id h
  |osl id off len cap s=>exact main id h
  |_=>exact skip h
theorem apart_elim (hz:¬T z) {mu0:St}:∀{al:List AOper} {i:Nat} {tm:TM} {mu:St} {ad:List St} {k:St→List St→R},i+al.length≤ad.length→Split mu0 (compOf mu ad)→T (apart al i tm mu ad k)→
 ∃mu' ad',T (k mu' ad')∧ad'.length=ad.length∧Split mu0 (compOf mu' ad')∧∀j,(ad'[j]?).getD []=(ad[j]?).getD []∨∃(m:Nat) (p:AOper),j=i+m∧al[m]?=some p∧p.mode=4
 |[],i,tm,mu,ad,k,_,hs,h=>⟨mu,ad,h,rfl,hs,λj=>.inl rfl⟩
 |o::al,i,tm,mu,ad,k,hl,hs,h=>by
  have go:∀mu1 ad1,ad1.length=ad.length→Split mu0 (compOf mu1 ad1)→(∀j,(ad1[j]?).getD []=(ad[j]?).getD []∨(j=i∧o.mode=4))→T (apart al (i+1) tm mu1 ad1 k)→
   ∃mu' ad',T (k mu' ad')∧ad'.length=ad.length∧Split mu0 (compOf mu' ad')∧∀j,(ad'[j]?).getD []=(ad[j]?).getD []∨∃(m:Nat) (p:AOper),j=i+m∧(o::al)[m]?=some p∧p.mode=4:=by
   intro mu1 ad1 h1 h2 h4 h5
   obtain⟨mu',ad',g1,g2,g3,g4⟩:=apart_elim hz (by simp at hl;omega) h2 h5
   refine⟨mu',ad',g1,g2.trans h1,g3,λj=>?_⟩
   rcases g4 j with g|⟨m,p,e1,e2,e3⟩
   ·rcases h4 j with g'|⟨e1,e2⟩
    ·exact .inl (g.trans g')
    ·exact .inr ⟨0,o,by omega,by simp,e2⟩
   ·exact .inr ⟨m+1,p,by omega,by simpa using e2,e3⟩
  have skip:T (apart al (i+1) tm mu ad k)→∃mu' ad',T (k mu' ad')∧ad'.length=ad.length∧Split mu0 (compOf mu' ad')∧∀j,(ad'[j]?).getD []=(ad[j]?).getD []∨∃(m:Nat) (p:AOper),j=i+m∧(o::al)[m]?=some p∧p.mode=4:=
   λh=>go mu ad rfl hs (λj=>.inl rfl) h
  by_cases hm:o.mode=4
  ·have hb4:Nat.beq o.mode 4=true:=by rw[hm];rfl
   have h0:T (Option.rec (motive:=λ_=>R) (apart al (i+1) tm mu ad k) (λx=>setApart (ev tm x) i mu ad λmu ad=>apart al (i+1) tm mu ad k) o.op.storeX):=by
    have h1:T (cond (Nat.beq o.mode 4) (Option.rec (motive:=λ_=>R) (apart al (i+1) tm mu ad k) (λx=>setApart (ev tm x) i mu ad λmu ad=>apart al (i+1) tm mu ad k) o.op.storeX) (apart al (i+1) tm mu ad k)):=h
    rw[hb4]at h1;exact h1
   cases hx:o.op.storeX with
   |none=>rw[hx]at h0;exact skip h0
   |some x=>
    rw[hx]at h0
    obtain⟨mu1,ad1,h1,h2,h3,h4⟩:=setApart_elim hs (by simp at hl;omega) (show T (setApart (ev tm x) i mu ad λmu ad=>apart al (i+1) tm mu ad k)from h0)
    refine go mu1 ad1 h2 h3 (λj=>?_) h1
    by_cases e:j=i
    ·exact .inr ⟨e,hm⟩
    ·exact .inl (h4 j e)
  ·have hb:Nat.beq o.mode 4=false:=by
    cases e:Nat.beq o.mode 4 with
    |false=>rfl
    |true=>exact(hm (Nat.eq_of_beq_eq_true e)).elim
   unfold apart at h
   simp only[hb,cond_false]at h
   exact skip h
def joined:List St→St→St
 |[],mu=>mu
 |s::r,mu=>joined r (s++mu)
theorem joinAll_eq (l:List St) (mu:St) (k:St→R):joinAll l mu k=k (joined l mu):=by
 induction l generalizing mu with
 |nil=>rfl
 |cons s r ih=>
  show joinK s mu (λmu=>joinAll r mu k)=_
  rw[joinK_eq,ih]
  rfl
theorem look_joined {id:Nat} {cs:List SV}:∀{l:List St} {mu:St},look (joined l mu) id=some cs→look mu id=some cs∨∃j:Nat,look ((l[j]?).getD []) id=some cs
 |[],mu,h=>.inl h
 |s::r,mu,h=>by
  rcases look_joined (l:=r) h with h1|⟨j,h1⟩
  ·rw[look_append]at h1
   cases e:look s id with
   |some c=>rw[e]at h1;cases h1;exact .inr ⟨0,by simpa using e⟩
   |none=>rw[e]at h1;exact .inl h1
  ·exact .inr ⟨j+1,by simpa using h1⟩
theorem look_joined' {id:Nat} {cs:List SV} {ad:List St} {mu:St} (h:look (joined ad mu) id=some cs):∃c,look (compOf mu ad c) id=some cs:=by
 rcases look_joined h with h|⟨j,h⟩
 ·exact⟨0,h⟩
 ·exact⟨j+1,h⟩
theorem preBack_mem:∀{l:List AOper} {need:List (Nat×Nat)} {r:List AOper},preBack l need=some r→∀o∈r,o∈l
 |[],need,r,h,o,ho=>by cases h;cases ho
 |a::l,need,r,h,o,ho=>by
  unfold preBack at h
  split at h
  ·exact List.mem_cons_of_mem _ (preBack_mem h o ho)
  ·split at h
   ·split at h
    ·obtain⟨r',h1,rfl⟩:=Option.map_eq_some_iff.1 h
     simp only[List.mem_cons]at ho⊢
     rcases ho with rfl|ho
     ·exact .inl rfl
     ·exact .inr (preBack_mem h1 o ho)
    ·cases h
   ·exact List.mem_cons_of_mem _ (preBack_mem h o ho)
theorem preOf_mem {al:List AOper} {o:AOper} (h:o∈preOf al):o∈al:=by
 unfold preOf at h
 rw[List.mem_flatMap]at h
 obtain⟨p,_,h2⟩:=h
 split at h2
 ·cases e:preBack (al.take p.2).reverse [_]with
  |none=>rw[e]at h2;simp at h2
  |some r=>
   rw[e]at h2
   have:=preBack_mem e o (by simpa using h2)
   exact List.mem_of_mem_take (by simpa using this)
 ·cases h2
theorem markOf_length (al:List AOper):(markOf al).length=al.length:=by simp[markOf]
theorem markOf_get {al:List AOper} {i:Nat} {p:AOper} (h:(markOf al)[i]?=some p):∃o,al[i]?=some o∧p.op=o.op∧p.dst=o.dst∧p.g=o.g∧p.anc=o.anc∧(p.mode=o.mode∨p.mode=0):=by
 unfold markOf at h
 rw[List.getElem?_map,List.getElem?_zipIdx]at h
 cases e:al[i]? with
 |none=>rw[e]at h;cases h
 |some o=>
  rw[e]at h
  simp only[Option.map_some,Option.some.injEq]at h
  refine⟨o,rfl,?_⟩
  split at h
  ·split at h
   ·subst h;exact⟨rfl,rfl,rfl,rfl,.inl rfl⟩
   ·subst h;exact⟨rfl,rfl,rfl,rfl,.inr rfl⟩
  ·subst h;exact⟨rfl,rfl,rfl,rfl,.inl rfl⟩
theorem preK_elim (hz:¬T z) (hc:CallSound T P val call) (hk:OrcOk T val orc) {ops:Array Oper}:∀{l:List AOper} {tm:TM} {mu:St} {n:Nat} {k:TM→R},(∀ao∈l,∃o,OpR P ops o ao)→T (preK orc z call fz l tm mu n k)→∃tm',T (k tm')
 |[],tm,mu,n,k,_,h=>⟨tm,h⟩
 |ao::l,tm,mu,n,k,hr,h=>by
  obtain⟨o,ho⟩:=hr ao (by simp)
  obtain⟨tm1,mu1,n1,h1,_⟩:=stepK_sound (P:=P) (val:=val) hz hc hk ho (show T (stepK orc z call fz ao tm mu n λtm _ _=>preK orc z call fz l tm mu n k)from h)
  exact preK_elim hz hc hk (λao h=>hr ao (by simp[h])) h1
theorem draw_sound (hz:¬T z) (hc:CallSound T P val call) (hk:OrcOk T val orc) (hmx:P.follows .mixedOrders=true) {id:Nat} {ops:Array Oper} {al:List AOper} {tm:TM} {mu:St} {n:Nat} {k:TM→St→Nat→R} (hok:regOk ops.toList al=true) (hopr:All2 (OpR P ops) ops.toList al)
 (h:T (drawK orc z call fz al tm mu n k)):
 ∃tm' mu' n',T (k tm' mu' n')∧n≤n'∧∀ρ w a,Rel val ρ fz mu w→TmR val ρ w tm a→FreshN ρ n n'→∀(Q:Exit→Act→World→Prop),(∀a' w',PostS val ρ fz mu n w a tm' mu' n' a' w'→Q .normal a' w')→(Code.region id ops true).wp P Q a w:=by
 have rok:=rok_of hok
 have hlen:=hopr.length
 have hd0:∀j,(((al.map λ_=>([]:St)))[j]?).getD []=[]:=λj=>by
  rw[List.getElem?_map];cases al[j]?<;>rfl
 have hs0:Split mu (compOf mu (al.map λ_=>[])):=by
  refine⟨λc id cs hl=>?_,λc c' id hl hl'=>?_⟩
  ·cases c with
   |zero=>exact hl
   |succ j=>simp only[compOf,hd0]at hl;cases hl
  ·cases c with
   |succ j=>simp only[compOf,hd0]at hl;cases hl
   |zero=>cases c' with
    |zero=>rfl
    |succ j=>simp only[compOf,hd0]at hl';cases hl'
 unfold drawK at h
 obtain⟨tm0,h⟩:=preK_elim (P:=P) (val:=val) hz hc hk (ops:=ops) (λao hao=>by
  obtain⟨i,hi⟩:=List.getElem?_of_mem (preOf_mem hao)
  have hlt:i<ops.toList.length:=by rw[hlen];exact(List.getElem?_eq_some_iff.1 hi).1
  obtain⟨b,hb,hR⟩:=hopr.get (List.getElem?_eq_getElem hlt)
  rw[hi]at hb;cases hb
  exact⟨_,hR⟩) h
 obtain⟨mu1,ad1,h1,h2,h3,h4⟩:=apart_elim hz (by simp[markOf_length]) hs0 h
 obtain⟨rs,tm',mu2,ad2,n',h5,h6,h7⟩:=rrun_elim (P:=P) (val:=val) hz hc hk hopr (by simp at h2;omega) (λj ao hj=>by
  have hj':=(List.getElem?_eq_some_iff.1 hj).1
  refine⟨rok.mode j _ ao (List.getElem?_eq_getElem (by omega)) hj,λhm=>?_⟩
  have:=rok.lt hlen j ao hj (0+j) hm
  omega) h1
 rw[joinAll_eq]at h5
 obtain⟨f1,f2,f3,f4⟩:=Chain.final h7
 have hmono:=nAt_mono f4
 have hdead:∀c,¬live al c→compOf mu1 ad1 c=[]:=λc hc=>by
  cases c with
  |zero=>exact(hc (.inl rfl)).elim
  |succ j=>
   rcases h4 j with e|⟨m,p',e1,e2,e3⟩
   ·simp only[compOf,e,hd0]
   ·rw[Nat.zero_add]at e1;subst e1
    obtain⟨p,e2,_,_,_,_,e4⟩:=markOf_get e2
    have e3:p.mode=4:=by rcases e4 with e4|e4<;>omega
    exact(hc (.inr ⟨j,p,rfl,e2,by omega,by omega⟩)).elim
 have RG:Reg P val fz ops al rs tm (compOf mu1 ad1) n tm' (compOf mu2 ad2) n':=⟨rok,hopr,h7,hdead⟩
 have hn:n≤n':=by rw[f3];exact hmono 0 _ (by omega) (Nat.le_refl _)
 refine⟨tm',joined ad2 mu2,n',h5,hn,λρ w a hr ht hf Q hQ=>?_⟩
 have e0:foldC (λ_=>false) 0 al rs (compOf mu1 ad1)=compOf mu1 ad1:=by funext c;exact foldC_skip λ_ _ _ _ _ _=>rfl
 have t0:TMeq tm (foldTm (λ_=>false) 0 al rs tm):=⟨λq r=>(foldTm_skip λ_ _ _ _=>rfl).symm,λq r=>by rw[foldTm_inR]⟩
 have hS:Part val fz al rs tm (compOf mu1 ad1) n n' ρ mu w.drew (λ_=>false) ρ a w.drew:=by
  refine⟨λ_ _ h=>(by cases h),Ext.refl _ _ _,?_,?_,Fr.refl _ _ _,λc id p hl hp=>?_,λc id hl=>?_,λj hj _=>?_⟩
  ·rw[e0];exact(h3.inv hr).like (Like.drew w)
  ·exact(ht.mono (λ_ _ h=>h) (λb=>Nat.le_of_eq ((Like.drew w).bsize b).symm)).congr t0
  ·rw[e0]at hl
   obtain⟨cs,hcs⟩:=Option.isSome_iff_exists.1 hl
   exact .inr ⟨id,p,by simp[h3.sub c id cs hcs],hp,rfl⟩
  ·rw[e0]at hl
   obtain⟨cs,hcs⟩:=Option.isSome_iff_exists.1 hl
   exact .inl (by simp[h3.sub c id cs hcs])
  ·refine hf.sub (hmono 0 j (by omega) (by omega)) ?_
   rw[f3];exact hmono (j+1) _ (by omega) (Nat.le_refl _)
 refine wp_region_any hmx (Part.any RG (ρ0:=ρ) (mu0:=mu) (w0:=w.drew) (d:=a) (λρ' a' w' hd S=>hQ a' w' ⟨hd,ρ',S.ext,?_,?_,⟨S.fr.os,S.fr.tape,S.fr.output,S.fr.size,S.fr.keep,S.fr.shape⟩,λid p hl hp=>?_,λid hl=>?_⟩) _ _ a _ (by simp) (by simp[List.count_le_length]) rfl ⟨ρ,?_⟩)
 ·have:=S.inv
  rw[←f2]at this
  refine⟨this.rf,λid cs hl=>?_,λid cs hl=>?_,λid id' p p' hl hl' hp hp' e=>?_⟩
  ·obtain⟨c,hc⟩:=look_joined' hl;exact this.rm c id cs hc
  ·obtain⟨c,hc⟩:=look_joined' hl;exact this.dm c id cs hc
  ·obtain⟨cs,hcs⟩:=Option.isSome_iff_exists.1 hl
   obtain⟨c,hc⟩:=look_joined' hcs
   rcases hl' with hl'|hl'
   ·obtain⟨cs',hcs'⟩:=Option.isSome_iff_exists.1 hl'
    obtain⟨c',hc'⟩:=look_joined' hcs'
    exact(this.dj c c' id id' p p' (by simp[hc]) (by simp[hc']) hp hp' e).2
   ·exact(this.df c id id' p p' (by simp[hc]) hl' hp hp' e).elim
 ·rw[f1];exact S.tmr
 ·obtain⟨cs,hcs⟩:=Option.isSome_iff_exists.1 hl
  obtain⟨c,hc⟩:=look_joined' hcs
  have:=S.nb c id p
  rw[←f2]at this
  exact this (by simp[hc]) hp
 ·obtain⟨cs,hcs⟩:=Option.isSome_iff_exists.1 hl
  obtain⟨c,hc⟩:=look_joined' hcs
  have:=S.ni c id
  rw[←f2]at this
  exact this (by simp[hc])
 ·have eM:(λx=>(Array.replicate ops.size false).getD x false)=λ_=>false:=by
   funext x
   simp only[Array.getD_eq_getD_getElem?,Array.getElem?_replicate]
   split<;>rfl
  rw[eM]
  exact hS
end
end Go.Ev
