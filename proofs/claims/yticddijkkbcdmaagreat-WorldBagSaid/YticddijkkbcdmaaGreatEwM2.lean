/-
  The evaluator: each operation.
-/
import Derived.Test.YticddijkkbcdmaaGreatEwM1
import Derived.Laws.Small
import Derived.Laws.Entries
import Derived.Laws.Strings
import Derived.Laws.StructEq
set_option linter.unusedVariables false
set_option linter.unusedSimpArgs false
noncomputable section
namespace Go.Ev
def OperR (P:Program) (val:Nat→Int) (ρ:Rho) (w:World) (tm:TM) (a:Act) (op:Op):Prop:=
 ∀x y,x∈op.operands→od P x=some y→AVR val ρ w (ev tm y) (a.eval x)
def Sound (P:Program) (val:Nat→Int) (fz:Fz) (tm:TM) (mu:St) (n:Nat) (o:Oper) (v:AV) (mu':St) (n':Nat):Prop:=
 n≤n'∧∀ρ w (a:Act),Rel val ρ fz mu w→OperR P val ρ w tm a o.op→FreshN ρ n n'→∀(K:Act→World→Prop) (Q:Exit→Act→World→Prop),
  (∀x w',Post val ρ fz mu n w v mu' n' x w'→K (a.put o.dst x) w')→o.wp P a w K Q
section
variable {P:Program} {val:Nat→Int} {fz:Fz} {tm:TM} {mu:St} {n:Nat} {o:Oper}
theorem sound_of_run {v:AV} {mu':St} {n':Nat} (hn:n≤n')
 (h:∀ρ w (a:Act),Rel val ρ fz mu w→OperR P val ρ w tm a o.op→FreshN ρ n n'→∃x w',((execOp a.eval o).run P w=.ok (.value x) w'∨(execOp a.eval o).run P w=.ok .skip w'∧x=undef)∧Post val ρ fz mu n w v mu' n' x w'):
 Sound P val fz tm mu n o v mu' n':=by
 refine⟨hn,λρ w a hr ho hf K Q hK=>?_⟩
 obtain⟨x,w',hx,hp⟩:=h ρ w a hr ho hf
 unfold Oper.wp
 rcases hx with hx|⟨hx,rfl⟩
 ·rw[hx];exact hK x w' hp
 ·rw[hx];exact hK undef w' hp
theorem sound_pure {v:AV} (h:∀ρ w (a:Act),Rel val ρ fz mu w→OperR P val ρ w tm a o.op→∃x,(execOp a.eval o).run P w=.ok (.value x) w∧AVR val ρ w v x):Sound P val fz tm mu n o v mu n:=
 sound_of_run (Nat.le_refl _) λρ w a hr ho _=>let⟨x,hx,hv⟩:=h ρ w a hr ho;⟨x,w,.inl hx,post_same hr hv⟩
theorem sound_mv {x:Operand} {y:Od} (ho:o.op=.move x∨o.op=.assign x) (hx:od P x=some y):Sound P val fz tm mu n o (ev tm y) mu n:=by
 rcases ho with ho|ho
 all_goals
  refine sound_pure λρ w a _ hop=>⟨a.eval x,by simp[execOp,ho],hop x y (by simp[ho,Op.operands]) hx⟩
theorem sound_pick {c a b:Operand} {c' a' b':Od} {t:Bool} (ho:o.op=.pick c a b) (hc:od P c=some c') (ha:od P a=some a') (hb:od P b=some b') (ht:ev tm c'=.one (.bool t)):
 Sound P val fz tm mu n o (cond t (ev tm a') (ev tm b')) mu n:=by
 refine sound_pure λρ w act _ hop=>?_
 have h1:=hop c c' (by simp[ho,Op.operands]) hc
 have h2:=hop a a' (by simp[ho,Op.operands]) ha
 have h3:=hop b b' (by simp[ho,Op.operands]) hb
 rw[ht]at h1
 have h1':act.eval c=.bool t:=h1
 cases t
 ·exact⟨act.eval b,by simp[execOp,ho,h1',asBool],h3⟩
 ·exact⟨act.eval a,by simp[execOp,ho,h1',asBool],h2⟩
theorem toSV_VR {ρ:Rho} {w:World} {v:Value} {s:SV} (h:toSV v=some s):VR val ρ w s v∧s.known=true:=by
 unfold toSV at h
 split at h<;>first|(cases h;done)|(cases h;exact⟨⟨nOf_lt _,by rw[sOf_nOf]⟩,rfl⟩)|(cases h;exact⟨rfl,rfl⟩)
theorem toSVs_VR {ρ:Rho} {w:World} {vs:List Value} {l:List SV} (h:toSVs vs=some l):All2 (VR val ρ w) l vs∧knownAll l=true:=by
 induction vs generalizing l with
 |nil=>simp[toSVs]at h;subst h;exact⟨trivial,rfl⟩
 |cons v r ih=>
  simp only[toSVs]at h
  split at h
  ·rename_i a b ha hb
   cases h
   obtain⟨h1,h2⟩:=toSV_VR (val:=val) (ρ:=ρ) (w:=w) ha
   obtain⟨h3,h4⟩:=ih hb
   refine⟨⟨h1,h3⟩,?_⟩
   show cond a.known (knownAll b) false=true
   rw[h2,h4];rfl
  ·cases h
theorem toAV_AVR {ρ:Rho} {w:World} {v:Value} {a:AV} (h:toAV v=some a):AVR val ρ w a v:=by
 unfold toAV at h
 split at h
 ·rename_i cs
  cases e:toSVs cs.toList with
  |none=>rw[e]at h;cases h
  |some l=>
   rw[e]at h
   simp only[Option.map_some,Option.some.injEq]at h
   subst h
   exact⟨cs.toList,by simp,(toSVs_VR e).1⟩
 ·cases e:toSV v with
  |none=>rw[e]at h;cases h
  |some s=>
   rw[e]at h
   simp only[Option.map_some,Option.some.injEq]at h
   subst h
   exact(toSV_VR e).1
theorem zeroOf_run {t:TypeId} {z:List SV} (h:zeroOf P t=some z):∃v i,P.info? t=some i∧i.zero=some v∧toSVs v.cells.toList=some z∧z.length=i.size∧∀w,(zeroValue t).run P w=.ok v w:=by
 unfold zeroOf at h
 cases hi:P.info? t with
 |none=>rw[hi]at h;cases h
 |some i=>
  rw[hi]at h
  simp only at h
  cases hz:i.zero with
  |none=>rw[hz]at h;cases h
  |some v=>
   rw[hz]at h
   simp only at h
   cases hs:toSVs v.cells.toList with
   |none=>rw[hs]at h;cases h
   |some l=>
    rw[hs]at h
    simp only at h
    split at h
    ·rename_i e
     cases h
     exact⟨v,i,rfl,hz,hs,by simpa using e,λw=>by simp[zeroValue,typeInfo,hi,hz]⟩
    ·cases h
theorem new_from {ρ:Rho} {w:World} {l:List SV} {vs:List Value} (h:All2 (VR val ρ w) l vs):∀(i:Nat) s,l[i]?=some s→∃v,vs.toArray[i]?=some v∧VR val ρ w s v:=by
 intro i s hi
 obtain⟨v,e,r⟩:=h.get hi
 exact⟨v,by simpa using e,r⟩
theorem sound_new {cs:List SV} (h:∀ρ w (a:Act),Rel val ρ fz mu w→OperR P val ρ w tm a o.op→∃(C:List Value) (ty:TypeId),(execOp a.eval o).run P w=.ok (.value (.pointer (some ⟨w.heap.size,0,none⟩))) (w.alloc (.cells C.toArray ty))∧All2 (VR val ρ w) cs C):
 Sound P val fz tm mu n o (.one (.optr n 0)) ((n,cs)::mu) (n+1):=by
 refine sound_of_run (Nat.le_succ _) λρ w a hr ho hf=>?_
 obtain⟨C,ty,hrun,hv⟩:=h ρ w a hr ho
 obtain⟨h1,h2,h3,h4,h5,h6⟩:=new_block (ty:=ty) (Like.refl w) hr (hf n (Nat.le_refl _) (Nat.lt_succ_self _)) (C:=C.toArray) (by simp[hv.length]) (new_from hv)
 exact⟨_,_,.inl hrun,_,h1,h2,⟨_,upd_same _ _ _,rfl⟩,h3,h4,h5⟩
theorem sound_alloc {t:TypeId} {z:List SV} (ho:o.op=.alloc t) (hz:zeroOf P t=some z):Sound P val fz tm mu n o (.one (.optr n 0)) ((n,z)::mu) (n+1):=by
 obtain⟨v,i,h1,h2,h3,h4,h5⟩:=zeroOf_run hz
 refine sound_new λρ w a _ _=>⟨v.cells.toList,t,?_,(toSVs_VR h3).1⟩
 simp[execOp,ho,Instr.alloc,h5,newVar,newRow]
theorem sound_box {t:TypeId} {x:Operand} {y:Od} {l:List SV} (ho:o.op=.box t x) (hx:od P x=some y) (hl:(ev tm y).cells?=some l) (hk:knownAll l=true):
 Sound P val fz tm mu n o (.one (.optr n 0)) ((n,l)::mu) (n+1):=by
 refine sound_new λρ w a _ hop=>?_
 obtain⟨vs,h1,h2,_⟩:=cells_of (hop x y (by simp[ho,Op.operands]) hx) hl hk
 exact⟨vs,t,by simp[execOp,ho,Instr.box,newVar,newRow,h1],h2⟩
theorem aggOf_run {t:TypeId} {b:Bool} (h:aggOf P t=some b):∀w,(isAgg t).run P w=.ok b w:=by
 intro w
 unfold aggOf at h
 cases hu:P.underlying t with
 |none=>rw[hu]at h;cases h
 |some d=>
  rw[hu]at h
  cases d<;>simp at h<;>subst h<;>simp[isAgg,underlying,hu]
theorem szOf_run {t:TypeId} {m:Nat} (h:szOf P t=some m):∀w,(sizeOf t).run P w=.ok m w:=by
 intro w
 unfold szOf at h
 cases hi:P.info? t with
 |none=>rw[hi]at h;cases h
 |some i=>rw[hi]at h;simp at h;subst h;simp[sizeOf,typeInfo,hi]
def resOf:Bool→List SV→Option AV
 |true,r=>some (.ag r)
 |false,[s]=>some (.one s)
 |false,_=>none
theorem asRes_elim {R:Type} {T:R→Prop} {z:R} (hz:¬T z) {agg:Bool} {r:List SV} {k:AV→R} (h:T (asRes agg r z k)):∃v,resOf agg r=some v∧T (k v):=by
 cases agg with
 |true=>exact⟨_,rfl,h⟩
 |false=>
  cases r with
  |nil=>exact(hz h).elim
  |cons a t=>cases t with
   |nil=>exact⟨_,rfl,h⟩
   |cons b u=>exact(hz h).elim
theorem load_run {ρ:Rho} {w:World} {t:TypeId} {agg:Bool} {m:Nat} {p:Nat×Nat} {off:Nat} {vs:List Value} {l:List SV} {v:AV} (ha:aggOf P t=some agg) (hs:szOf P t=some m)
 (hlen:vs.length=m) (hv:All2 (VR val ρ w) l vs) (hc:∀(j:Nat) x,vs[j]?=some x→w.cell? ⟨p.1,p.2+off+j,none⟩=some x)
 (hrun:(loadCells ⟨p.1,p.2+off,none⟩ m).run P w=.ok vs.toArray w) (hres:resOf agg l=some v):
 ∃x,(loadVar t ⟨p.1,p.2+off,none⟩).run P w=.ok x w∧AVR val ρ w v x:=by
 have h1:=aggOf_run ha w
 have h2:=szOf_run hs w
 cases agg with
 |true=>
  simp[resOf]at hres;subst hres
  exact⟨.agg vs.toArray,by simp[loadVar,h1,h2,hrun],vs,rfl,hv⟩
 |false=>
  cases l with
  |nil=>cases hres
  |cons s t'=>cases t' with
   |cons b u=>cases hres
   |nil=>
    simp[resOf]at hres;subst hres
    cases vs with
    |nil=>exact hv.elim
    |cons x r=>cases r with
     |cons _ _=>exact hv.2.elim
     |nil=>
      have:=hc 0 x (by simp)
      exact⟨x,by simp only[Nat.add_zero]at this;simp[loadVar,h1,this],hv.1⟩
theorem seen {ρ:Rho} {w:World} {id:Nat} {cs:List SV} (hr:Rel val ρ fz mu w) (h:(look mu id=some cs∨look mu id=none∧fz id=some cs)∧mkd cs=false):OwnR val ρ w id cs:=by
 obtain⟨h|⟨_,h⟩,hm⟩:=h
 ·exact((hr.rm _ _ h).plain hm).r
 ·exact(hr.rf _ _ h).plain hm
theorem seenG {ρ:Rho} {w:World} {id:Nat} {cs:List SV} (hr:Rel val ρ fz mu w) (h:look mu id=some cs∨look mu id=none∧fz id=some cs):OwnF val ρ w id cs:=by
 rcases h with h|⟨_,h⟩
 ·exact(hr.rm _ _ h).f
 ·exact hr.rf _ _ h
theorem sound_load {t:TypeId} {x:Operand} {y:Od} {agg:Bool} {m id off:Nat} {cs:List SV} {v:AV} (ho:o.op=.load t x) (ha:aggOf P t=some agg) (hs:szOf P t=some m) (hx:od P x=some y)
 (he:ev tm y=.one (.optr id off)) (hl:(look mu id=some cs∨look mu id=none∧fz id=some cs)∧mkd cs=false) (hb:off+m≤cs.length) (hres:resOf agg ((cs.drop off).take m)=some v):
 Sound P val fz tm mu n o v mu n:=by
 refine sound_pure λρ w a hr hop=>?_
 have h1:=hop x y (by simp[ho,Op.operands]) hx
 rw[he]at h1
 obtain⟨p,hp,hx'⟩:=h1
 obtain⟨vs,g1,g2,g3,g4⟩:=(seen hr hl).read (P:=P) hp hb
 obtain⟨r,g5,g6⟩:=load_run ha hs g1 g2 g3 g4 hres
 exact⟨r,by simp[execOp,ho,Instr.loadAt,Instr.sureAddr,hx',g5],g6⟩
theorem sound_store {t:TypeId} {x v:Operand} {y u:Od} {m id off:Nat} {cs l:List SV} (ho:o.op=.store t x v) (hs:szOf P t=some m) (hx:od P x=some y) (hv:od P v=some u)
 (he:ev tm y=.one (.optr id off)) (hc:(ev tm u).cells?=some l) (hlen:l.length=m) (hk:knownAll l=true) (hl:look mu id=some cs) (hm:mkd cs=false) (hb:off+l.length≤cs.length):
 Sound P val fz tm mu n o (.tp []) (putS mu id (over cs off l)) n:=by
 refine sound_of_run (Nat.le_refl _) λρ w a hr hop _=>?_
 have h1:=hop x y (by simp[ho,Op.operands]) hx
 rw[he]at h1
 obtain⟨p,hp,hx'⟩:=h1
 obtain⟨vs,g1,g2,g3⟩:=cells_of (hop v u (by simp[ho,Op.operands]) hv) hc hk
 obtain⟨q,w',e1,e2,e3,e4,e5,e6,e7⟩:=put_block (P:=P) (n:=n) (n':=n) hr hl hm hb g2 g3
 rw[hp]at e1;cases e1
 have hsz:=szOf_run hs w
 refine⟨undef,w',.inr ⟨?_,rfl⟩,ρ,Ext.refl _ _ _,e3,⟨[],rfl,trivial⟩,e4,e5,e6⟩
 have hlen':vs.length=m:=by rw[←g2.length,hlen]
 simp[execOp,ho,Instr.storeAt,Instr.sureAddr,hx',storeVar,g1,hsz,hlen',e2]
theorem sound_nilc {x:Operand} {y:Od} {s:SV} (ho:o.op=.nilCheck x) (hx:od P x=some y) (he:ev tm y=.one s) (hs:(∃a b,s=.optr a b)∨∃a b,s=.fn a b):Sound P val fz tm mu n o (.one s) mu n:=by
 refine sound_pure λρ w a _ hop=>?_
 have h1:=hop x y (by simp[ho,Op.operands]) hx
 rw[he]at h1
 refine⟨a.eval x,?_,h1⟩
 rcases hs with⟨id,off,rfl⟩|⟨f,cs,rfl⟩
 ·obtain⟨p,_,e⟩:=h1
  simp[execOp,ho,e]
 ·obtain⟨vs,e,_⟩:=h1
  simp[execOp,ho,e]
theorem sound_faddr {t:TypeId} {x:Operand} {y:Od} {i m id off:Nat} {fs:Array Field} {f:Field} (ho:o.op=.fieldAddr t x i) (hu:P.underlying t=some (.struct fs)) (hf:fs[i]?=some f)
 (hs:szOf P f.type=some m) (hm:m≠0) (hx:od P x=some y) (he:ev tm y=.one (.optr id off)):Sound P val fz tm mu n o (.one (.optr id (off+f.offset))) mu n:=by
 refine sound_pure λρ w a _ hop=>?_
 have h1:=hop x y (by simp[ho,Op.operands]) hx
 rw[he]at h1
 obtain⟨p,hp,e⟩:=h1
 refine⟨.pointer (some ⟨p.1,p.2+(off+f.offset),none⟩),?_,p,hp,rfl⟩
 have:=szOf_run hs w
 simp[execOp,ho,Instr.fieldAt,underlying,hu,hf,Instr.sureAddr,e,fieldPlace,this,hm,addr_add,Nat.add_assoc]
theorem part_run {ρ:Rho} {w:World} {t:TypeId} {agg:Bool} {m off:Nat} {cs:List SV} {vs:List Value} {v:AV} (ha:aggOf P t=some agg) (hs:szOf P t=some m) (hv:All2 (VR val ρ w) cs vs)
 (hb:off+m≤cs.length) (hres:resOf agg ((cs.drop off).take m)=some v) (h1:agg=false→m=1):∃x,(part t vs.toArray off).run P w=.ok x w∧AVR val ρ w v x:=by
 have g1:=aggOf_run ha w
 have g2:=szOf_run hs w
 have hd:=(hv.drop off).take m
 cases agg with
 |true=>
  simp[resOf]at hres;subst hres
  exact⟨.agg (vs.toArray.extract off (off+m)),by simp[part,g1,g2],(vs.drop off).take m,by simp,hd⟩
 |false=>
  have hm:=h1 rfl
  subst hm
  have hlt:off<vs.length:=by rw[←hv.length];omega
  have e1:(vs.drop off).take 1=[vs[off]]:=by rw[List.drop_eq_getElem_cons hlt];rfl
  have hlt':off<cs.length:=by omega
  have e2:(cs.drop off).take 1=[cs[off]]:=by rw[List.drop_eq_getElem_cons hlt'];rfl
  rw[e2]at hres hd
  rw[e1]at hd
  simp[resOf]at hres;subst hres
  exact⟨vs[off],by simp[part,g1,hlt],hd.1⟩
theorem sound_fld {t:TypeId} {x:Operand} {y:Od} {i m:Nat} {agg:Bool} {fs:Array Field} {f:Field} {cs:List SV} {v:AV} (ho:o.op=.field t x i) (hu:P.underlying t=some (.struct fs)) (hf:fs[i]?=some f)
 (ha:aggOf P f.type=some agg) (hs:szOf P f.type=some m) (h1:agg=false→m=1) (hx:od P x=some y) (he:ev tm y=.ag cs) (hb:f.offset+m≤cs.length)
 (hres:resOf agg ((cs.drop f.offset).take m)=some v):Sound P val fz tm mu n o v mu n:=by
 refine sound_pure λρ w a _ hop=>?_
 have g:=hop x y (by simp[ho,Op.operands]) hx
 rw[he]at g
 obtain⟨vs,e,hv⟩:=g
 obtain⟨r,g1,g2⟩:=part_run ha hs hv hb hres h1
 exact⟨r,by simp[execOp,ho,Instr.field,underlying,hu,hf,asAgg,e,g1],g2⟩
def cvAV:CV→AV
 |.one s=>.one s
 |.ag l=>.ag l
theorem cvAV_AVR {ρ:Rho} {w:World} {c:CV} {x:Value} (h:CVR val ρ w c x):AVR val ρ w (cvAV c) x:=by cases c<;>exact h
theorem sound_extr {x:Operand} {y:Od} {i:Nat} {l:List CV} {c:CV} (ho:o.op=.extract x i) (hx:od P x=some y) (he:ev tm y=.tp l) (hc:l[i]?=some c):Sound P val fz tm mu n o (cvAV c) mu n:=by
 refine sound_pure λρ w a _ hop=>?_
 have g:=hop x y (by simp[ho,Op.operands]) hx
 rw[he]at g
 obtain⟨vs,e,hv⟩:=g
 obtain⟨r,e2,hr⟩:=hv.get hc
 refine⟨r,?_,cvAV_AVR hr⟩
 have e3:vs.toArray[i]?=some r:=by simpa using e2
 simp only[execOp,ho,Instr.extract,e,e3]
 simp
theorem sound_not {t:TypeId} {x:Operand} {y:Od} {b:Bool} (ho:o.op=.unOp .not t x) (hx:od P x=some y) (he:ev tm y=.one (.bool b)):Sound P val fz tm mu n o (.one (.bool (not b))) mu n:=by
 refine sound_pure λρ w a _ hop=>?_
 have g:=hop x y (by simp[ho,Op.operands]) hx
 rw[he]at g
 have g':a.eval x=.bool b:=g
 exact⟨.bool (not b),by simp[execOp,ho,Op.unary,g'],rfl⟩
theorem sound_neg {t:TypeId} {x:Operand} {y:Od} {k:IntKind} {b:Int} (ho:o.op=.unOp .neg t x) (hx:od P x=some y) (he:ev tm y=.one (.int k b)):Sound P val fz tm mu n o (.one (.int k (k.wrap (0-b)))) mu n:=by
 refine sound_pure λρ w a _ hop=>?_
 have g:=hop x y (by simp[ho,Op.operands]) hx
 rw[he]at g
 have g':a.eval x=.int k b:=g
 exact⟨.int k (k.wrap (0-b)),by simp[execOp,ho,Op.unary,g',Op.intArith],rfl⟩
def numOp (op:BinOp) (kd:IntKind) (a b:Int):Option SV:=
 match op with
 |.add=>some (.int kd (kd.wrap (a+b)))
 |.sub=>some (.int kd (kd.wrap (a-b)))
 |.mul=>some (.int kd (kd.wrap (a*b)))
 |.quo=>if b=0 then none else some (.int kd (kd.wrap (a.tdiv b)))
 |.rem=>if b=0 then none else some (.int kd (a.tmod b))
 |.and=>some (.int kd (kd.wrap (BitVec.ofInt kd.bits a&&&BitVec.ofInt kd.bits b).toNat))
 |.or=>some (.int kd (kd.wrap (BitVec.ofInt kd.bits a|||BitVec.ofInt kd.bits b).toNat))
 |.xor=>some (.int kd (kd.wrap (BitVec.ofInt kd.bits a^^^BitVec.ofInt kd.bits b).toNat))
 |.andNot=>some (.int kd (kd.wrap (BitVec.ofInt kd.bits a&&&~~~(BitVec.ofInt kd.bits b)).toNat))
 |.eql=>some (.bool (a==b))
 |.neq=>some (.bool (a !=b))
 |.lss=>some (.bool (a<b))
 |.leq=>some (.bool (a≤b))
 |.gtr=>some (.bool (a>b))
 |.geq=>some (.bool (a≥b))
 |.shl=>none
 |.shr=>none
theorem binI_elim {R:Type} {T:R→Prop} {z:R} (hz:¬T z) {op:BinOp} {kd:IntKind} {a b:Int} {k:SV→R} (h:T (binI op kd a b z k)):∃s,numOp op kd a b=some s∧T (k s):=by
 cases op with
 |add=>exact⟨_,rfl,by simpa[binI,wrapK_eq,show Int.add a b=a+b from rfl]using h⟩
 |sub=>exact⟨_,rfl,by simpa[binI,wrapK_eq,show Int.sub a b=a-b from rfl]using h⟩
 |mul=>exact⟨_,rfl,by simpa[binI,wrapK_eq,show Int.mul a b=a*b from rfl]using h⟩
 |quo=>
  obtain⟨h1,h2⟩:=cond_elim' hz (show T (cond (eqI b 0) z (fI (kd.wrap (a.tdiv b)) λn=>k (.int kd n)))from h)
  rw[eqI_eq]at h1
  exact⟨.int kd (kd.wrap (a.tdiv b)),by simp[numOp,(by simpa using h1:¬b=0)],by simpa[fI_eq]using h2⟩
 |rem=>
  obtain⟨h1,h2⟩:=cond_elim' hz (show T (cond (eqI b 0) z (fI (a.tmod b) λn=>k (.int kd n)))from h)
  rw[eqI_eq]at h1
  exact⟨.int kd (a.tmod b),by simp[numOp,(by simpa using h1:¬b=0)],by simpa[fI_eq]using h2⟩
 |and=>exact⟨_,rfl,by simpa[binI,fI_eq]using h⟩
 |or=>exact⟨_,rfl,by simpa[binI,fI_eq]using h⟩
 |xor=>exact⟨_,rfl,by simpa[binI,fI_eq]using h⟩
 |shl=>exact(hz h).elim
 |shr=>exact(hz h).elim
 |andNot=>exact⟨_,rfl,by simpa[binI,fI_eq]using h⟩
 |eql=>refine⟨_,rfl,?_⟩;have h':T (k (.bool (eqI a b))):=by simpa[binI,fB_eq]using h
       rw[eqI_eq]at h';rwa [show decide (a=b)=(a==b) by rw[Bool.eq_iff_iff];simp]at h'
 |neq=>refine⟨_,rfl,?_⟩;have h':T (k (.bool (!(eqI a b)))):=by simpa[binI,fB_eq]using h
       rw[eqI_eq]at h';rwa [show(!decide (a=b))=(a !=b) by rw[Bool.eq_iff_iff];simp]at h'
 |lss=>refine⟨_,rfl,?_⟩;have h':T (k (.bool (ltI a b))):=by simpa[binI,fB_eq]using h
       rw[ltI_eq]at h';exact h'
 |leq=>refine⟨_,rfl,?_⟩;have h':T (k (.bool (!(ltI b a)))):=by simpa[binI,fB_eq]using h
       rw[ltI_eq]at h'
       rwa [show(!decide (b<a))=decide (a≤b) by rw[Bool.eq_iff_iff];simp]at h'
 |gtr=>refine⟨_,rfl,?_⟩;have h':T (k (.bool (ltI b a))):=by simpa[binI,fB_eq]using h
       rw[ltI_eq]at h';exact h'
 |geq=>refine⟨_,rfl,?_⟩;have h':T (k (.bool (!(ltI a b)))):=by simpa[binI,fB_eq]using h
       rw[ltI_eq]at h'
       rwa [show(!decide (a<b))=decide (a≥b) by rw[Bool.eq_iff_iff];simp]at h'
def svVal:SV→Value
 |.int k n=>.int k n
 |.bool b=>.bool b
 |.str l n=>.string (sOf l n)
 |_=>undef
theorem numOp_run {op:BinOp} {kd:IntKind} {a b:Int} {s:SV} (h:numOp op kd a b=some s) (t:TypeId) (x y:Operand) (w:World):
 (do eqGuard op t x y (.int kd a) (.int kd b);binOp op t (.int kd a) (.int kd b):Sem Value).run P w=.ok (svVal s) w∧∀(ρ:Rho),VR val ρ w s (svVal s):=by
 have hg:(eqGuard op t x y (.int kd a) (.int kd b)).run P w=.ok () w:=by
  rw[eqGuard_at_int];rfl
 cases op<;>simp[numOp]at h
 case quo=>obtain⟨h0,h⟩:=h;subst h;simp[hg,binOp,Op.intDiv,h0,svVal,VR]
 case rem=>obtain⟨h0,h⟩:=h;subst h;simp[hg,binOp,Op.intDiv,h0,svVal,VR]
 all_goals (subst h;simp[hg,binOp,Op.intArith,Op.intBits,Op.intCmp,svVal,VR])
theorem sound_bin {t u:TypeId} {op:BinOp} {x y:Operand} {x' y':Od} {kd:IntKind} {a b:Int} {s:SV} (ho:o.op=.binOp op t x y u) (hx:od P x=some x') (hy:od P y=some y')
 (ex:ev tm x'=.one (.int kd a)) (ey:ev tm y'=.one (.int kd b)) (hs:numOp op kd a b=some s):Sound P val fz tm mu n o (.one s) mu n:=by
 refine sound_pure λρ w act _ hop=>?_
 have g1:=hop x x' (by simp[ho,Op.operands]) hx
 have g2:=hop y y' (by simp[ho,Op.operands]) hy
 rw[ex]at g1;rw[ey]at g2
 have g1':act.eval x=.int kd a:=g1
 have g2':act.eval y=.int kd b:=g2
 obtain⟨r1,r2⟩:=numOp_run (P:=P) (val:=val) hs t x y w
 refine⟨svVal s,?_,r2 ρ⟩
 simp only[execOp,ho,g1',g2',Sem.run_bind]at r1⊢
 rw[r1]
 rfl
end
end Go.Ev
namespace Go.Ev
def inR (tm:TM) (q r:Nat):Prop:=∃row,tm[q]?=some row∧r<row.length
def setT (tm:TM) (q r:Nat) (v:AV):TM:=tm.set q ((nth [] tm q).set r v)
theorem setTm_eq {R:Type} (tm:TM) (q r:Nat) (v:AV) (k:TM→R):setTm tm q r v k=k (setT tm q r v):=by
 unfold setTm;rw[setK_eq,setK_eq];rfl
theorem inR_setT {tm:TM} {q r:Nat} {v:AV} {q' r':Nat} (h:inR (setT tm q r v) q' r'):inR tm q' r':=by
 obtain⟨row,h1,h2⟩:=h
 unfold setT at h1
 rw[List.getElem?_set]at h1
 by_cases hq:q=q'
 ·subst hq
  simp only[if_true]at h1
  split at h1
  ·rename_i hlt
   cases h1
   have e:tm[q]?=some tm[q]:=List.getElem?_eq_getElem hlt
   rw[nth_eq,e]at h2
   simp at h2
   exact⟨_,e,h2⟩
  ·cases h1
 ·simp only[hq,if_false]at h1
  exact⟨row,h1,h2⟩
theorem get_setT_other {tm:TM} {q r q' r':Nat} {v:AV} (h:¬(q'=q∧r'=r)):get (setT tm q r v) q' r'=get tm q' r':=by
 unfold get setT
 simp only[nth_eq]
 rw[List.getElem?_set]
 by_cases hq:q=q'
 ·subst hq
  simp only[if_true]
  split
  ·simp only[Option.getD_some]
   rw[List.getElem?_set_ne (by intro e;exact h ⟨rfl,e.symm⟩)]
  ·rename_i hge
   rw[List.getElem?_eq_none (Nat.le_of_not_lt hge)]
 ·simp only[hq,if_false]
theorem get_setT_same {tm:TM} {q r:Nat} {v:AV}:inR tm q r∧get (setT tm q r v) q r=v∨¬inR tm q r∧get (setT tm q r v) q r=.one .un:=by
 by_cases h:inR tm q r
 ·left
  obtain⟨row,h1,h2⟩:=h
  refine⟨⟨row,h1,h2⟩,?_⟩
  have hlt:=(List.getElem?_eq_some_iff.1 h1).1
  unfold get setT
  simp only[nth_eq,h1,Option.getD_some]
  rw[List.getElem?_set_self hlt]
  simp[h2]
 ·right
  refine⟨h,?_⟩
  unfold get setT
  simp only[nth_eq]
  rw[List.getElem?_set]
  simp only[if_true]
  split
  ·rename_i hlt
   have e:tm[q]?=some tm[q]:=List.getElem?_eq_getElem hlt
   have hr:¬r<tm[q].length:=λhr=>h ⟨_,e,hr⟩
   simp only[e,Option.getD_some]
   rw[List.getElem?_eq_none (by simp;omega)]
   rfl
  ·simp
section
variable {R:Type} {T:R→Prop} {P:Program} {val:Nat→Int} {fz:Fz} {tm:TM} {mu:St} {n:Nat} {o:Oper}
def SvEq (val:Nat→Int) (s s':SV):Prop:=s=s'∨∃kd i,s=.sym kd i∧s'=.int kd (val i)
theorem SvEq.vr {s s':SV} (h:SvEq val s s') {ρ:Rho} {w:World} {v:Value} (hv:VR val ρ w s' v):VR val ρ w s v:=by
 rcases h with rfl|⟨kd,i,rfl,rfl⟩
 ·exact hv
 ·exact hv
structure OrcOk (T:R→Prop) (val:Nat→Int) (orc:Orc R):Prop where
 bin:∀op kd i b k,T (orc.bin op kd i b k)→∃s s',numOp op kd (val i) b=some s'∧SvEq val s s'∧T (k s)
 nib:∀op kd a i k,T (orc.nib op kd a i k)→∃s s',numOp op kd a (val i)=some s'∧SvEq val s s'∧T (k s)
 conv:∀kd i k,T (orc.conv kd i k)→∃s,SvEq val s (.int kd (kd.wrap (val i)))∧T (k s)
 force:∀i k,T (orc.force i k)→T (k (val i))
def IsI (val:Nat→Int) (v:AV) (kd:IntKind) (a:Int):Prop:=v=.one (.int kd a)∨∃i,v=.one (.sym kd i)∧a=val i
theorem IsI.eval {v:AV} {kd:IntKind} {a:Int} (h:IsI val v kd a) {ρ:Rho} {w:World} {x:Value} (hx:AVR val ρ w v x):x=.int kd a:=by
 rcases h with rfl|⟨i,rfl,rfl⟩
 ·exact hx
 ·exact hx
def Fwd (val:Nat→Int) (tm tm':TM):Prop:=∀ρ w y v,AVR val ρ w (ev tm y) v→AVR val ρ w (ev tm' y) v
theorem Fwd.refl:Fwd val tm tm:=λ_ _ _ _ h=>h
theorem Fwd.trans {tm1 tm2:TM} (h:Fwd val tm tm1) (h':Fwd val tm1 tm2):Fwd val tm tm2:=λρ w y v hv=>h' ρ w y v (h ρ w y v hv)
theorem sound_fwd {tm':TM} (h:Fwd val tm tm') {v:AV} {mu':St} {n':Nat} (hs:Sound P val fz tm' mu n o v mu' n'):Sound P val fz tm mu n o v mu' n':=
 ⟨hs.1,λρ w a hr ho=>hs.2 ρ w a hr λx y hx hy=>h ρ w y _ (ho x y hx hy)⟩
theorem forceK_elim {orc:Orc R} (hk:OrcOk T val orc) {x:Od} {k:TM→R} (h:T (forceK orc tm x k)):∃tm',T (k tm')∧Fwd val tm tm':=by
 cases x with
 |c v=>exact⟨tm,h,Fwd.refl⟩
 |t q r=>
  have h':T (AV.rec (motive:=λ_=>R) (λs=>s.onSym (k tm) λkd i=>orc.force i λv=>fI v λv=>setTm tm q r (.one (.int kd v)) k) (λ_=>k tm) (λ_=>k tm) (get tm q r)):=h
  cases e:get tm q r with
  |ag l=>rw[e]at h';exact⟨tm,h',Fwd.refl⟩
  |tp l=>rw[e]at h';exact⟨tm,h',Fwd.refl⟩
  |one s=>
   rw[e]at h'
   cases s with
   |sym kd i=>
    have h2:=hk.force i _ h'
    rw[fI_eq,setTm_eq]at h2
    refine⟨_,h2,λρ w y v hv=>?_⟩
    cases y with
    |c u=>exact hv
    |t q' r'=>
     have hv':AVR val ρ w (get tm q' r') v:=hv
     show AVR val ρ w (get (setT tm q r (.one (.int kd (val i)))) q' r') v
     by_cases hq:q'=q∧r'=r
     ·obtain⟨rfl,rfl⟩:=hq
      rw[e]at hv'
      rcases get_setT_same (tm:=tm) (q:=q') (r:=r') (v:=.one (.int kd (val i)))with⟨_,hg⟩|⟨_,hg⟩
      ·rw[hg];exact hv'
      ·rw[hg];trivial
     ·rw[get_setT_other hq];exact hv'
   |_=>exact⟨tm,h',Fwd.refl⟩
theorem forceO_elim {orc:Orc R} (hk:OrcOk T val orc) {x:Option Od} {k:TM→R} (h:T (forceO orc tm x k)):∃tm',T (k tm')∧Fwd val tm tm':=by
 cases x with
 |none=>exact⟨tm,h,Fwd.refl⟩
 |some x=>exact forceK_elim hk h
theorem numOp_lss {kd:IntKind} {a b:Int} {s:SV} (h:numOp .lss kd a b=some s):s=.bool (decide (a<b)):=by
 simp[numOp]at h;exact h.symm
theorem SvEq.bool {s:SV} {b:Bool} (h:SvEq val s (.bool b)):s=.bool b:=by
 rcases h with h|⟨_,_,_,h⟩
 ·exact h
 ·cases h
theorem ltS_elim {z:R} (hz:¬T z) {orc:Orc R} (hk:OrcOk T val orc) {a b:SV} {k:Bool→R} (h:T (ltS orc z a b k)):∃kd x y,IsI val (.one a) kd x∧IsI val (.one b) kd y∧T (k (decide (x<y))):=by
 have bin:∀{kd i v},T (orc.bin .lss kd i v λs=>s.onBool z k)→T (k (decide (val i<v))):=by
  intro kd i v h
  obtain⟨s,s',h1,h2,h3⟩:=hk.bin _ _ _ _ _ h
  rw[numOp_lss h1]at h2
  rw[h2.bool]at h3
  exact h3
 have nib:∀{kd i v},T (orc.nib .lss kd v i λs=>s.onBool z k)→T (k (decide (v<val i))):=by
  intro kd i v h
  obtain⟨s,s',h1,h2,h3⟩:=hk.nib _ _ _ _ _ h
  rw[numOp_lss h1]at h2
  rw[h2.bool]at h3
  exact h3
 cases a with
 |int kd u=>
  cases b with
  |int kd' v=>
   obtain⟨he,h1⟩:=cond_elim hz (show T (cond (IntKind.eqb kd kd') (k (ltI u v)) z)from h)
   have:=eqb_eq he
   subst this
   rw[ltI_eq]at h1
   exact⟨kd,u,v,.inl rfl,.inl rfl,h1⟩
  |sym kd' j=>
   obtain⟨he,h1⟩:=cond_elim hz (show T (cond (IntKind.eqb kd kd') (orc.nib .lss kd u j λs=>s.onBool z k) z)from h)
   have:=eqb_eq he
   subst this
   exact⟨kd,u,val j,.inl rfl,.inr ⟨j,rfl,rfl⟩,nib h1⟩
  |_=>exact(hz h).elim
 |sym kd i=>
  cases b with
  |int kd' v=>
   obtain⟨he,h1⟩:=cond_elim hz (show T (cond (IntKind.eqb kd kd') (orc.bin .lss kd i v λs=>s.onBool z k) z)from h)
   have:=eqb_eq he
   subst this
   exact⟨kd,val i,v,.inr ⟨i,rfl,rfl⟩,.inl rfl,bin h1⟩
  |sym kd' j=>
   obtain⟨he,h1⟩:=cond_elim hz (show T (cond (IntKind.eqb kd kd') (orc.force j λv=>orc.bin .lss kd i v λs=>s.onBool z k) z)from h)
   have:=eqb_eq he
   subst this
   exact⟨kd,val i,val j,.inr ⟨i,rfl,rfl⟩,.inr ⟨j,rfl,rfl⟩,bin (hk.force _ _ h1)⟩
  |_=>exact(hz h).elim
 |_=>exact(hz h).elim
end
end Go.Ev
namespace Go.Ev
section
variable {P:Program} {val:Nat→Int} {fz:Fz} {tm:TM} {mu:St} {n:Nat} {o:Oper}
theorem sound_binS {t u:TypeId} {op:BinOp} {x y:Operand} {x' y':Od} {kd:IntKind} {a b:Int} {s s':SV} (ho:o.op=.binOp op t x y u) (hx:od P x=some x') (hy:od P y=some y')
 (ex:IsI val (ev tm x') kd a) (ey:IsI val (ev tm y') kd b) (hs:numOp op kd a b=some s') (he:SvEq val s s'):Sound P val fz tm mu n o (.one s) mu n:=by
 refine sound_pure λρ w act _ hop=>?_
 have g1':=ex.eval (hop x x' (by simp[ho,Op.operands]) hx)
 have g2':=ey.eval (hop y y' (by simp[ho,Op.operands]) hy)
 obtain⟨r1,r2⟩:=numOp_run (P:=P) (val:=val) hs t x y w
 refine⟨svVal s',?_,he.vr (r2 ρ)⟩
 simp only[execOp,ho,g1',g2',Sem.run_bind]at r1⊢
 rw[r1]
 rfl
theorem sound_shift {t u:TypeId} {left:Bool} {x y:Operand} {x' y':Od} {kd kd':IntKind} {a b:Int} (ho:o.op=.binOp (if left then .shl else .shr) t x y u) (hx:od P x=some x') (hy:od P y=some y')
 (ex:ev tm x'=.one (.int kd a)) (ey:ev tm y'=.one (.int kd' b)) (hb:¬b<0):
 Sound P val fz tm mu n o (.one (.int kd (if left then kd.wrap (a*2^min b.toNat kd.bits)else a.fdiv (2^min b.toNat kd.bits)))) mu n:=by
 refine sound_pure λρ w act _ hop=>?_
 have g1:=hop x x' (by simp[ho,Op.operands]) hx
 have g2:=hop y y' (by simp[ho,Op.operands]) hy
 rw[ex]at g1;rw[ey]at g2
 have g1':act.eval x=.int kd a:=g1
 have g2':act.eval y=.int kd' b:=g2
 cases left
 ·exact⟨_,by simp[execOp,ho,g1',g2',eqGuard_shr,binOp,Op.shift,hb],rfl⟩
 ·exact⟨_,by simp[execOp,ho,g1',g2',eqGuard_shl,binOp,Op.shift,hb],rfl⟩
def strBin (op:BinOp) (l a l' b:Nat):Option SV:=
 match op with
 |.add=>if l+l'≤1099511627776 then some (.str (l+l') (a*256^l'+b))else none
 |.eql=>some (.bool (strEq l a l' b))
 |.neq=>some (.bool (!(strEq l a l' b)))
 |.lss=>some (.bool (strLt l a l' b))
 |.leq=>some (.bool (!(strLt l' b l a)))
 |.gtr=>some (.bool (strLt l' b l a))
 |.geq=>some (.bool (!strLt l a l' b))
 |_=>none
theorem strBinK_elim {R:Type} {T:R→Prop} {z:R} (hz:¬T z) {op:BinOp} {l a l' b:Nat} {k:SV→R} (h:T (strBinK op l a l' b z k)):∃s,strBin op l a l' b=some s∧T (k s):=by
 cases op
 case add=>
  obtain⟨h1,h2⟩:=cond_elim hz (show T (cond (Nat.ble (Nat.add l l') 1099511627776) (fN (Nat.add l l') λm=>fN (Nat.add (Nat.mul a (Nat.pow 256 l')) b) λr=>k (.str m r)) z)from h)
  rw[fN_eq,fN_eq]at h2
  exact⟨_,if_pos (Nat.le_of_ble_eq_true h1),h2⟩
 case eql=>exact⟨_,rfl,by have h':T (fB (strEq l a l' b) λr=>k (.bool r)):=h;rwa [fB_eq]at h'⟩
 case neq=>exact⟨_,rfl,by have h':T (fB (strEq l a l' b) λr=>k (.bool (not r))):=h;rwa [fB_eq]at h'⟩
 case lss=>exact⟨_,rfl,by have h':T (fB (strLt l a l' b) λr=>k (.bool r)):=h;rwa [fB_eq]at h'⟩
 case leq=>exact⟨_,rfl,by have h':T (fB (strLt l' b l a) λr=>k (.bool (not r))):=h;rwa [fB_eq]at h'⟩
 case gtr=>exact⟨_,rfl,by have h':T (fB (strLt l' b l a) λr=>k (.bool r)):=h;rwa [fB_eq]at h'⟩
 case geq=>exact⟨_,rfl,by have h':T (fB (strLt l a l' b) λr=>k (.bool (not r))):=h;rwa [fB_eq]at h'⟩
 all_goals exact(hz h).elim
theorem toList_sOf (l n:Nat):(sOf l n).toList=sB l n:=by
 rw[ByteArray.toList_eq];rfl
theorem strEq_list {l a l' b:Nat} (ha:a<256^l) (hb:b<256^l'):((sB l a)==(sB l' b))=strEq l a l' b:=by
 rw[Bool.eq_iff_iff,strEq_iff,beq_iff_eq,←sOf_eq ha hb]
 constructor
 ·intro h;unfold sOf;rw[h]
 ·intro h;have:=congrArg (λs:ByteArray=>s.data.toList) h;simpa[sOf]using this
theorem less_total:∀a b:List UInt8,(Op.bytesLess a b||a==b)=!Op.bytesLess b a
 |[],[]=>rfl
 |[],_::_=>by simp[Op.bytesLess]
 |_::_,[]=>by simp[Op.bytesLess]
 |u::a,v::b=>by
  have ih:=less_total a b
  rcases Nat.lt_trichotomy u.toNat v.toNat with h|h|h
  ·have h1:u<v:=UInt8.lt_iff_toNat_lt.2 h
   have h2:¬v<u:=λx=>by have:=UInt8.lt_iff_toNat_lt.1 x;omega
   have h3:¬v=u:=λx=>by subst x;omega
   simp[Op.bytesLess,h1,h2,h3]
  ·have h1:u=v:=UInt8.toNat_inj.1 h
   subst h1
   have h2:¬u<u:=λx=>by have:=UInt8.lt_iff_toNat_lt.1 x;omega
   have e:((u::a)==(u::b))=(a==b):=by simp
   simp only[Op.bytesLess,e,h2,decide_false,Bool.false_or,beq_self_eq_true,Bool.true_and,ih]
  ·have h1:v<u:=UInt8.lt_iff_toNat_lt.2 h
   have h2:¬u<v:=λx=>by have:=UInt8.lt_iff_toNat_lt.1 x;omega
   have h3:¬u=v:=λx=>by subst x;omega
   simp[Op.bytesLess,h1,h2,h3]
theorem strBin_run {op:BinOp} {l a l' b:Nat} {s:SV} (ha:a<256^l) (hb:b<256^l') (h:strBin op l a l' b=some s) (t:TypeId) (x y:Operand) (w:World):
 (do eqGuard op t x y (.string (sOf l a)) (.string (sOf l' b));binOp op t (.string (sOf l a)) (.string (sOf l' b)):Sem Value).run P w=.ok (svVal s) w∧∀(ρ:Rho),VR val ρ w s (svVal s):=by
 have hg:(eqGuard op t x y (.string (sOf l a)) (.string (sOf l' b))).run P w=.ok () w:=by cases op<;>rfl
 have e1:=strEq_list ha hb
 have e2:=strLt_iff ha hb
 have e3:=strLt_iff hb ha
 have e4:=less_total (sB l a) (sB l' b)
 cases op<;>simp[strBin]at h
 case add=>
  obtain⟨h0,h⟩:=h;subst h
  have hs:(sOf l a).size+(sOf l' b).size=l+l':=by rw[sOf_size,sOf_size]
  have:¬(((sOf l a).size+(sOf l' b).size:Nat):Int)>IntKind.i64.max:=by rw[hs];simp;omega
  have hap:sOf (l+l') (a*256^l'+b)=sOf l a++sOf l' b:=by
   apply ByteArray.ext
   apply Array.ext'
   rw[ByteArray.data_append,Array.toList_append]
   exact sB_append l a l' b hb
  refine⟨?_,λρ=>⟨?_,rfl⟩⟩
  ·simp[hg,binOp,Op.stringOp,svVal,hap]
   rw[sOf_size,sOf_size]
   omega
  ·rw[Nat.pow_add]
   have:a*256^l'+256^l'≤256^l*256^l':=by rw[←Nat.succ_mul];exact Nat.mul_le_mul_right _ ha
   omega
 all_goals (subst h;simp[hg,binOp,Op.stringOp,svVal,VR,toList_sOf,e1,e2,e3])
 all_goals (first|rfl|(rw[e1]at e4;first|exact e4|(rw[←Bool.not_or,e4,Bool.not_not])))
theorem sound_sbin {t u:TypeId} {op:BinOp} {x y:Operand} {x' y':Od} {la a lb b:Nat} {s:SV} (ho:o.op=.binOp op t x y u) (hx:od P x=some x') (hy:od P y=some y')
 (ex:ev tm x'=.one (.str la a)) (ey:ev tm y'=.one (.str lb b)) (hs:strBin op la a lb b=some s):Sound P val fz tm mu n o (.one s) mu n:=by
 refine sound_pure λρ w act _ hop=>?_
 have g1:=hop x x' (by simp[ho,Op.operands]) hx
 have g2:=hop y y' (by simp[ho,Op.operands]) hy
 rw[ex]at g1;rw[ey]at g2
 have g1':act.eval x=.string (sOf la a):=g1.2
 have g2':act.eval y=.string (sOf lb b):=g2.2
 obtain⟨r1,r2⟩:=strBin_run (P:=P) (val:=val) g1.1 g2.1 hs t x y w
 refine⟨svVal s,?_,r2 ρ⟩
 simp only[execOp,ho,g1',g2',Sem.run_bind]at r1⊢
 rw[r1]
 rfl
theorem run_equal {w:World} {t:TypeId} {x y:Value} {b:Bool} (h:∀d,(Op.equalIn (d+1) t x y).run P w=.ok b w):(Op.equal t x y).run P w=.ok b w:=h 9999
theorem run_eq_ne {w:World} {neg:Bool} {t:TypeId} {x y:Value} {b:Bool} (h:(Op.equal t x y).run P w=.ok b w) (hb:(∃p q,x=.bool p∧y=.bool q)∨(∃p l c q m d,x=.slice p l c∧y=.slice q m d)∨∃p q,x=.pointer p∧y=.pointer q):
 (binOp (if neg then .neq else .eql) t x y).run P w=.ok (.bool (neg !=b)) w:=by
 rcases hb with⟨p,q,rfl,rfl⟩|⟨p,l,c,q,m,d,rfl,rfl⟩|⟨p,q,rfl,rfl⟩
 all_goals
  cases neg
  ·simp only[binOp,Bool.false_eq_true,if_false,Sem.run_bind,h,Result.andThen_ok,Sem.run_pure];simp
  ·simp only[binOp,if_true,Sem.run_bind,h,Result.andThen_ok,Sem.run_pure];simp
theorem sound_eqb {t u:TypeId} {neg:Bool} {x y:Operand} {x' y':Od} {a b:Bool} (ho:o.op=.binOp (if neg then .neq else .eql) t x y u) (hu:P.underlying t=some .bool) (hx:od P x=some x') (hy:od P y=some y')
 (ex:ev tm x'=.one (.bool a)) (ey:ev tm y'=.one (.bool b)):Sound P val fz tm mu n o (.one (.bool (neg !=(a==b)))) mu n:=by
 refine sound_pure λρ w act _ hop=>?_
 have g1:=hop x x' (by simp[ho,Op.operands]) hx
 have g2:=hop y y' (by simp[ho,Op.operands]) hy
 rw[ex]at g1;rw[ey]at g2
 have g1':act.eval x=.bool a:=g1
 have g2':act.eval y=.bool b:=g2
 refine⟨.bool (neg !=(a==b)),?_,rfl⟩
 have h1:=run_eq_ne (P:=P) (w:=w) (neg:=neg) (t:=t) (b:=a==b) (run_equal λd=>by simp[Op.equalIn,underlying,hu]) (.inl ⟨a,b,rfl,rfl⟩)
 simp only[execOp,ho,g1',g2',eqGuard_at_bool,Sem.run_bind,Sem.run_pure,Result.andThen_ok,h1]
theorem eqCell_run {ρ:Rho} {w:World} {c:Nat} {a b:SV} {u v:Value} {r:Bool} {t:TypeId} (h:eqCell c a b=some r) (ha:VR val ρ w a u) (hb:VR val ρ w b v)
 (ht:(c=0∧∃k,P.underlying t=some (.int k))∨(c=1∧P.underlying t=some .bool)∨(c=2∧P.underlying t=some .string)) (d:Nat):(Op.equalIn (d+1) t u v).run P w=.ok r w:=by
 rcases ht with⟨rfl,k,ht⟩|⟨rfl,ht⟩|⟨rfl,ht⟩
 ·cases a<;>cases b<;>simp only[eqCell,reduceCtorEq]at h
  rename_i k1 a k2 b
  cases hk:IntKind.eqb k1 k2 with
  |false=>rw[hk]at h;cases h
  |true=>
   rw[hk]at h
   have hk:=eqb_eq hk
   subst hk
   cases h
   cases ha;cases hb
   rw[run_equalIn_int w d t k1 k a b ht,eqI_eq]
   congr 1
 ·cases a<;>cases b<;>simp only[eqCell,reduceCtorEq,Option.some.injEq]at h
  subst h
  cases ha;cases hb
  exact run_equalIn_bool w d t _ _ ht
 ·cases a<;>cases b<;>simp only[eqCell,reduceCtorEq,Option.some.injEq]at h
  subst h
  obtain⟨h1,rfl⟩:=ha
  obtain⟨h2,rfl⟩:=hb
  rw[run_equalIn_string w d t _ _ ht,toList_sOf,toList_sOf,strEq_list h1 h2]
theorem eqFields_run {ρ:Rho} {w:World} (d:Nat) (xs ys:List Value):∀(fs:List Field) (i:Nat) (ks:List Nat) (l l':List SV) (e:Bool),eqKs P i fs=some ks→All2 (VR val ρ w) l (xs.drop i)→All2 (VR val ρ w) l' (ys.drop i)→
 eqCells ks l l'=some e→(Op.eqFields (d+1) xs.toArray ys.toArray fs).run P w=.ok e w
 |[],i,ks,l,l',e,hk,_,_,he=>by
  cases hk
  cases l<;>cases l'<;>simp[eqCells]at he
  subst he
  rfl
 |f::fs,i,ks,l,l',e,hk,hx,hy,he=>by
  unfold eqKs at hk
  split at hk
  ·rename_i hn
   simp only[Bool.and_eq_true,bne_iff_ne,ne_eq,beq_iff_eq]at hn
   have hc:∃c ks',ks=c::ks'∧eqKs P (i+1) fs=some ks'∧((c=0∧∃k,P.underlying f.type=some (.int k))∨(c=1∧P.underlying f.type=some .bool)∨(c=2∧P.underlying f.type=some .string)):=by
    split at hk<;>cases hk
    ·rename_i k ks' h1 h2;exact⟨0,ks',rfl,h2,.inl ⟨rfl,k,h1⟩⟩
    ·rename_i ks' h1 h2;exact⟨1,ks',rfl,h2,.inr (.inl ⟨rfl,h1⟩)⟩
    ·rename_i ks' h1 h2;exact⟨2,ks',rfl,h2,.inr (.inr ⟨rfl,h1⟩)⟩
   obtain⟨c,ks',rfl,hk',ht⟩:=hc
   cases l with
   |nil=>simp[eqCells]at he
   |cons a l1=>cases l' with
    |nil=>simp[eqCells]at he
    |cons b l2=>
     have px:∀(zs:List Value) (m:List SV) (s:SV),All2 (VR val ρ w) (s::m) (zs.drop i)→∃v,(part f.type zs.toArray f.offset).run P w=.ok v w∧VR val ρ w s v∧All2 (VR val ρ w) m (zs.drop (i+1)):=by
      intro zs m s h
      have hl:=h.length
      have hlt:i<zs.length:=by rw[List.length_drop,List.length_cons]at hl;omega
      rw[List.drop_eq_getElem_cons hlt]at h
      refine⟨zs[i],?_,h.1,h.2⟩
      have g1:(isAgg f.type).run P w=.ok false w:=by
       rcases ht with⟨_,k,ht⟩|⟨_,ht⟩|⟨_,ht⟩<;>simp[isAgg,underlying,ht]
      simp[part,g1,hn.2,hlt]
     obtain⟨u,pu,vu,hx'⟩:=px xs l1 a hx
     obtain⟨v,pv,vv,hy'⟩:=px ys l2 b hy
     simp only[eqCells]at he
     have hne:f.name≠ "_" :=hn.1
     cases hr:eqCell c a b with
     |none=>rw[hr]at he;cases he
     |some r=>
      have hq:=eqCell_run (P:=P) hr vu vv ht d
      rw[hr]at he
      simp only[Op.eqFields,hne,ne_eq,not_false_eq_true,if_true,Sem.run_bind,pu,pv,hq,Result.andThen_ok]
      cases r with
      |true=>simpa using eqFields_run d xs ys fs (i+1) ks' l1 l2 e hk' hx' hy' he
      |false=>
       cases hz:eqCells ks' l1 l2 with
       |none=>rw[hz]at he;cases he
       |some q=>
        rw[hz]at he
        cases he
        simp
  ·cases hk
theorem sound_eqs {t u:TypeId} {neg:Bool} {x y:Operand} {x' y':Od} {a b:List SV} {fs:Array Field} {ks:List Nat} {e:Bool} (ho:o.op=.binOp (if neg then .neq else .eql) t x y u) (hu:P.underlying t=some (.struct fs))
 (hg:(P.stoodInHeld t||P.eqGuardType P.depth t)=false) (hk:eqKs P 0 fs.toList=some ks) (hx:od P x=some x') (hy:od P y=some y')
 (ex:ev tm x'=.ag a) (ey:ev tm y'=.ag b) (he:eqCells ks a b=some e):Sound P val fz tm mu n o (.one (.bool (neg !=e))) mu n:=by
 refine sound_pure λρ w act _ hop=>?_
 have g1:=hop x x' (by simp[ho,Op.operands]) hx
 have g2:=hop y y' (by simp[ho,Op.operands]) hy
 rw[ex]at g1;rw[ey]at g2
 obtain⟨xs,e1,h1⟩:=g1
 obtain⟨ys,e2,h2⟩:=g2
 refine⟨.bool (neg !=e),?_,rfl⟩
 simp only[Bool.or_eq_false_iff]at hg
 have hf:P.fieldsOf t=fs:=by simp[Program.fieldsOf,hu]
 have hq:(Op.equalIn 10000 t (.agg xs.toArray) (.agg ys.toArray)).run P w=.ok e w:=by
  rw[show(10000:Nat)=9999+1 from rfl,run_equalIn_agg w 9999 t _ _ (by rw[hf];exact hu) hg.1,hf]
  exact eqFields_run 9998 xs ys fs.toList 0 ks a b e hk h1 h2 he
 have hgd:∀op,(eqGuard op t x y (.agg xs.toArray) (.agg ys.toArray)).run P w=.ok () w:=λop=>run_eqGuard_agg w op t x y _ _ hg.2
 cases neg
 ·simp only[execOp,ho,e1,e2,Bool.false_eq_true,if_false,Sem.run_bind,hgd,Result.andThen_ok,run_eql_struct,hq]
  cases e<;>rfl
 ·simp only[execOp,ho,e1,e2,if_true,Sem.run_bind,hgd,Result.andThen_ok,run_neq_struct,hq]
  cases e<;>rfl
theorem nilness_val {ρ:Rho} {w:World} {sl:Bool} {s:SV} {x:Value} {b:Bool} (h:nilness sl s=some b) (hv:VR val ρ w s x):
 (sl=true∧∃a l c,x=.slice a l c∧a.isNone=b)∨(sl=false∧∃a,x=.pointer a∧a.isNone=b):=by
 cases sl with
 |true=>
  left;refine⟨rfl,?_⟩
  cases s<;>simp[nilness]at h<;>subst h
  ·cases hv;exact⟨none,0,0,rfl,rfl⟩
  ·obtain⟨p,c,_,rfl,_⟩:=hv;exact⟨_,_,_,rfl,rfl⟩
  ·obtain⟨p,rfl⟩:=hv;exact⟨_,_,_,rfl,rfl⟩
  ·obtain⟨p,c,rfl⟩:=hv;exact⟨_,_,_,rfl,rfl⟩
 |false=>
  right;refine⟨rfl,?_⟩
  cases s<;>simp[nilness]at h<;>subst h
  ·cases hv;exact⟨none,rfl,rfl⟩
  ·obtain⟨p,_,rfl⟩:=hv;exact⟨_,rfl,rfl⟩
theorem equal_slices {w:World} {t e:TypeId} (hu:P.underlying t=some (.slice e)) (a b:Option Addr) (l c m d:Nat) (h:(a.isNone||b.isNone)=true):(Op.equal t (.slice a l c) (.slice b m d)).run P w=.ok (a.isNone&&b.isNone) w:=
 run_equal λk=>by
  cases a with
  |none=>simp[Op.equalIn,underlying,hu]
  |some x=>cases b with
   |none=>simp[Op.equalIn,underlying,hu]
   |some y=>cases h
theorem equal_pointers {w:World} {t e:TypeId} (hu:P.underlying t=some (.pointer e)) (a b:Option Addr) (h:(a.isNone||b.isNone)=true):(Op.equal t (.pointer a) (.pointer b)).run P w=.ok (a.isNone&&b.isNone) w:=
 run_equal λk=>by
  cases a with
  |none=>simp[Op.equalIn,underlying,hu]
  |some x=>cases b with
   |none=>simp[Op.equalIn,underlying,hu]
   |some y=>cases h
theorem sound_eqn {t u:TypeId} {sl neg:Bool} {x y:Operand} {x' y':Od} {s1 s2:SV} {a b:Bool} (ho:o.op=.binOp (if neg then .neq else .eql) t x y u)
 (hu:(sl=true∧∃e,P.underlying t=some (.slice e))∨(sl=false∧∃e,P.underlying t=some (.pointer e))) (hx:od P x=some x') (hy:od P y=some y')
 (ex:ev tm x'=.one s1) (ey:ev tm y'=.one s2) (ha:nilness sl s1=some a) (hb:nilness sl s2=some b) (hab:(a||b)=true):Sound P val fz tm mu n o (.one (.bool (neg !=(a&&b)))) mu n:=by
 refine sound_pure λρ w act _ hop=>?_
 have g1:=hop x x' (by simp[ho,Op.operands]) hx
 have g2:=hop y y' (by simp[ho,Op.operands]) hy
 rw[ex]at g1;rw[ey]at g2
 refine⟨.bool (neg !=(a&&b)),?_,rfl⟩
 rcases nilness_val ha g1 with⟨e1,a1,l1,c1,e2,e3⟩|⟨e1,a1,e2,e3⟩
 ·rcases nilness_val hb g2 with⟨f1,a2,l2,c2,f2,f3⟩|⟨f1,_⟩
  ·rcases hu with⟨_,e,hu⟩|⟨h,_⟩
   ·have hg:∀op,(eqGuard op t x y (.slice a1 l1 c1) (.slice a2 l2 c2)).run P w=.ok () w:=λop=>by cases op<;>rfl
    subst e3;subst f3
    have he:=equal_slices (P:=P) (w:=w) hu a1 a2 l1 c1 l2 c2 hab
    have h1:=run_eq_ne (P:=P) (w:=w) (neg:=neg) (t:=t) he (.inr (.inl ⟨_,_,_,_,_,_,rfl,rfl⟩))
    simp only[execOp,ho,e2,f2,hg,Sem.run_bind,Sem.run_pure,Result.andThen_ok,h1]
   ·rw[e1]at h;cases h
  ·rw[e1]at f1;cases f1
 ·rcases nilness_val hb g2 with⟨f1,_⟩|⟨f1,a2,f2,f3⟩
  ·rw[e1]at f1;cases f1
  ·rcases hu with⟨h,_⟩|⟨_,e,hu⟩
   ·rw[e1]at h;cases h
   ·have hg:∀op,(eqGuard op t x y (.pointer a1) (.pointer a2)).run P w=.ok () w:=λop=>by cases op<;>rfl
    subst e3;subst f3
    have he:=equal_pointers (P:=P) (w:=w) hu a1 a2 hab
    have h1:=run_eq_ne (P:=P) (w:=w) (neg:=neg) (t:=t) he (.inr (.inr ⟨_,_,rfl,rfl⟩))
    simp only[execOp,ho,e2,f2,hg,Sem.run_bind,Sem.run_pure,Result.andThen_ok,h1]
theorem sound_conv {t u:TypeId} {x:Operand} {y:Od} {k k' kd:IntKind} {a:Int} (ho:o.op=.convert t u x) (ht:P.underlying t=some (.int k')) (hu:P.underlying u=some (.int kd)) (hx:od P x=some y)
 (ex:ev tm y=.one (.int k a)):Sound P val fz tm mu n o (.one (.int kd (kd.wrap a))) mu n:=by
 refine sound_pure λρ w act _ hop=>?_
 have g:=hop x y (by simp[ho,Op.operands]) hx
 rw[ex]at g
 have g':act.eval x=.int k a:=g
 exact⟨.int kd (kd.wrap a),by simp[execOp,ho,convert,underlying,ht,hu,g',Conv.intToInt],rfl⟩
theorem sound_convSym {t u:TypeId} {x:Operand} {y:Od} {k k' kd:IntKind} {i:Nat} {s:SV} (ho:o.op=.convert t u x) (ht:P.underlying t=some (.int k')) (hu:P.underlying u=some (.int kd)) (hx:od P x=some y)
 (ex:ev tm y=.one (.sym k i)) (hs:SvEq val s (.int kd (kd.wrap (val i)))):Sound P val fz tm mu n o (.one s) mu n:=by
 refine sound_pure λρ w act _ hop=>?_
 have g:=hop x y (by simp[ho,Op.operands]) hx
 rw[ex]at g
 have g':act.eval x=.int k (val i):=g
 exact⟨.int kd (kd.wrap (val i)),by simp[execOp,ho,convert,underlying,ht,hu,g',Conv.intToInt],hs.vr rfl⟩
theorem caps_R {ρ:Rho} {w:World} {a:Act} {caps:List Operand} {ys:List Od} {cs:List (Nat×Nat)} (ho:ods P caps=some ys) (hop:∀x y,x∈caps→od P x=some y→AVR val ρ w (ev tm y) (a.eval x))
 (hc:All2 (λy c=>ev tm y=.one (.optr c.1 c.2)) ys cs):All2 (CapR ρ) cs (caps.map a.eval):=by
 induction caps generalizing ys cs with
 |nil=>
  simp[ods]at ho;subst ho
  cases cs with
  |nil=>trivial
  |cons _ _=>exact hc.elim
 |cons x r ih=>
  simp only[ods]at ho
  split at ho
  ·rename_i y l h1 h2
   cases ho
   cases cs with
   |nil=>exact hc.elim
   |cons c cs=>
    refine⟨?_,ih h2 (λx y hx hy=>hop x y (by simp[hx]) hy) hc.2⟩
    have g:=hop x y (by simp) h1
    rw[hc.1]at g
    obtain⟨p,hp,e⟩:=g
    exact⟨p,hp,e⟩
  ·cases ho
theorem capsK_elim {R:Type} {T:R→Prop} {z:R} (hz:¬T z) {l:List Od} {k:List (Nat×Nat)→R} (h:T (capsK z tm l k)):∃cs,All2 (λy c=>ev tm y=.one (.optr c.1 c.2)) l cs∧T (k cs):=by
 induction l generalizing k with
 |nil=>exact⟨[],trivial,h⟩
 |cons x r ih=>
  obtain⟨s,e1,h1⟩:=onOne_elim hz h
  obtain⟨id,off,e2,h2⟩:=onPtr_elim hz h1
  subst e2
  obtain⟨cs,h3,h4⟩:=ih h2
  exact⟨(id,off)::cs,⟨e1,h3⟩,h4⟩
theorem sound_mkfn {f:Nat} {first caps:Array Operand} {ys:List Od} {cs:List (Nat×Nat)} (ho:o.op=.makeFunc (.func f) first caps) (hf:first.isEmpty=true) (hc:ods P caps.toList=some ys)
 (hcs:All2 (λy c=>ev tm y=.one (.optr c.1 c.2)) ys cs):Sound P val fz tm mu n o (.one (.fn f cs)) mu n:=by
 have hf':first=#[]:=by simpa using hf
 subst hf'
 refine sound_pure λρ w act _ hop=>⟨.func (.func f) #[] (caps.map act.eval),by simp[execOp,ho,Instr.makeFunc],caps.toList.map act.eval,?_,?_⟩
 ·rw[←Array.toList_map]
 ·exact caps_R hc (λx y hx hy=>hop x y (by simp[ho,Op.operands];exact Array.mem_toList_iff.1 hx) hy) hcs
theorem sound_iaddr {t e:TypeId} {x i:Operand} {x' i':Od} {s id off len cap:Nat} {kd:IntKind} {j:Int} (ho:o.op=.indexAddr t x i) (hu:P.underlying t=some (.slice e)) (hs:szOf P e=some s)
 (hx:od P x=some x') (hi:od P i=some i') (ex:ev tm x'=.one (.osl id off len cap s)) (ei:ev tm i'=.one (.int kd j)) (h0:¬j<0) (h1:j.toNat<len):
 Sound P val fz tm mu n o (.one (.optr id (off+j.toNat*s))) mu n:=by
 refine sound_pure λρ w act _ hop=>?_
 have g1:=hop x x' (by simp[ho,Op.operands]) hx
 have g2:=hop i i' (by simp[ho,Op.operands]) hi
 rw[ex]at g1;rw[ei]at g2
 obtain⟨p,c,hp,g1',_⟩:=g1
 have g2':act.eval i=.int kd j:=g2
 have hs':=szOf_run hs w
 refine⟨.pointer (some ⟨p.1,p.2+(off+j.toNat*s),none⟩),?_,p,hp,rfl⟩
 have hj:0≤j∧j<(len:Int):=by omega
 simp[execOp,ho,Instr.indexAt,asIntOf,g1',g2',underlying,hu,hs',hj,addr_add,Nat.add_assoc]
theorem sound_iaddrA {t e:TypeId} {x i:Operand} {x' i':Od} {s id off len:Nat} {kd:IntKind} {j:Int} (ho:o.op=.indexAddr t x i) (hu:P.underlying t=some (.array len e)) (hs:szOf P e=some s)
 (hx:od P x=some x') (hi:od P i=some i') (ex:ev tm x'=.one (.optr id off)) (ei:ev tm i'=.one (.int kd j)) (h0:¬j<0) (h1:j.toNat<len):
 Sound P val fz tm mu n o (.one (.optr id (off+j.toNat*s))) mu n:=by
 refine sound_pure λρ w act _ hop=>?_
 have g1:=hop x x' (by simp[ho,Op.operands]) hx
 have g2:=hop i i' (by simp[ho,Op.operands]) hi
 rw[ex]at g1;rw[ei]at g2
 obtain⟨p,hp,g1'⟩:=g1
 have g2':act.eval i=.int kd j:=g2
 have hs':=szOf_run hs w
 refine⟨.pointer (some ⟨p.1,p.2+(off+j.toNat*s),none⟩),?_,p,hp,rfl⟩
 have hj:0≤j∧j<(len:Int):=by omega
 simp[execOp,ho,Instr.indexAt,asIntOf,g1',g2',underlying,hu,hs',hj,addr_add,Nat.add_assoc,Instr.sureAddr]
theorem sound_idx {t:TypeId} {x i:Operand} {x' i':Od} {l b:Nat} {kd:IntKind} {j:Int} (ho:o.op=.index t x i) (hu:P.underlying t=some .string)
 (hx:od P x=some x') (hi:od P i=some i') (ex:ev tm x'=.one (.str l b)) (ei:ev tm i'=.one (.int kd j)) (h0:¬j<0) (h1:j.toNat<l):
 Sound P val fz tm mu n o (.one (.int .u8 (Int.ofNat (b/256^(l-1-j.toNat)%256)))) mu n:=by
 refine sound_pure λρ w act _ hop=>?_
 have g1:=hop x x' (by simp[ho,Op.operands]) hx
 have g2:=hop i i' (by simp[ho,Op.operands]) hi
 rw[ex]at g1;rw[ei]at g2
 have g1':act.eval x=.string (sOf l b):=g1.2
 have g2':act.eval i=.int kd j:=g2
 refine⟨_,?_,rfl⟩
 have hj:0≤j:=by omega
 have h2:(sOf l b)[j.toNat]?=some (UInt8.ofNat (b/256^(l-1-j.toNat))):=by
  have h3:=sB_get h1 b
  have h4:(sOf l b).data[j.toNat]?=(sB l b)[j.toNat]?:=by simp[sOf]
  have h5:j.toNat<(sOf l b).size:=by rw[sOf_size];exact h1
  rw[getElem?_pos (sOf l b) j.toNat h5]
  have h6:(sOf l b).data[j.toNat]?=some (sOf l b)[j.toNat]:=by
   rw[getElem?_pos (sOf l b).data j.toNat h5];rfl
  rw[←h6,h4,h3]
 have h7:((UInt8.ofNat (b/256^(l-1-j.toNat))).toNat:Int)=Int.ofNat (b/256^(l-1-j.toNat)%256):=by
  rw[UInt8.toNat_ofNat'];rfl
 simp[execOp,ho,Instr.index,asIntOf,g1',g2',underlying,hu,hj,h2,←h7]
def lenOf:SV→Option Nat
 |.str l _=>some l
 |.nsl=>some 0
 |.osl _ _ len _ _=>some len
 |.esl=>some 0
 |.zsl=>some 0
 |_=>none
theorem sound_len {c:Call} {t:TypeId} {x:Operand} {y:Od} {s:SV} {m:Nat} (ho:o.op=.call c) (hc:c.callee=.builtin .len) (ht:c.argTypes=#[t]) (ha:c.args=#[x])
 (hu:(∃e,P.underlying t=some (.slice e)∧∀l b,s≠.str l b)∨P.underlying t=some .string∧∃l b,s=.str l b) (hx:od P x=some y) (ex:ev tm y=.one s) (hm:lenOf s=some m):
 Sound P val fz tm mu n o (.one (.int .i64 (Int.ofNat m))) mu n:=by
 refine sound_pure λρ w act _ hop=>?_
 have g:=hop x y (by simp[ho,Op.operands,Call.operands,hc,ha]) hx
 rw[ex]at g
 refine⟨.int .i64 (Int.ofNat m),?_,rfl⟩
 have key:(Builtin.len_ #[t] o.type #[act.eval x]).run P w=.ok (.int .i64 (Int.ofNat m)) w:=by
  rcases hu with⟨e,hu,hns⟩|⟨hu,l,b,rfl⟩
  ·cases s<;>simp[lenOf]at hm
   case str l b=>exact(hns l b rfl).elim
   case nsl=>
    have g':act.eval x=.slice none 0 0:=g
    subst hm;simp[Builtin.len_,underlying,hu,g',goInt]
   case osl=>obtain⟨p,c,_,g',_⟩:=g;subst hm;simp[Builtin.len_,underlying,hu,g',goInt]
   case esl=>obtain⟨p,g'⟩:=g;subst hm;simp[Builtin.len_,underlying,hu,g',goInt]
   case zsl=>obtain⟨p,c,g'⟩:=g;subst hm;simp[Builtin.len_,underlying,hu,g',goInt]
  ·simp[lenOf]at hm;subst hm
   have g':act.eval x=.string (sOf l b):=g.2
   simp[Builtin.len_,underlying,hu,g',goInt,sOf_size]
 simp[execOp,ho,resolve,hc,invoke,builtin,ht,ha,key]
theorem sound_cap {c:Call} {t e:TypeId} {x:Operand} {y:Od} {s:SV} (ho:o.op=.call c) (hc:c.callee=.builtin .cap) (ht:c.argTypes=#[t]) (ha:c.args=#[x])
 (hu:P.underlying t=some (.slice e)) (hx:od P x=some y) (ex:ev tm y=.one s) (hm:s=.nsl∨s=.esl):
 Sound P val fz tm mu n o (.one (.int .i64 0)) mu n:=by
 refine sound_pure λρ w act _ hop=>?_
 have g:=hop x y (by simp[ho,Op.operands,Call.operands,hc,ha]) hx
 rw[ex]at g
 refine⟨.int .i64 0,?_,rfl⟩
 have key:(Builtin.cap_ #[t] o.type #[act.eval x]).run P w=.ok (.int .i64 0) w:=by
  rcases hm with rfl|rfl
  ·have g':act.eval x=.slice none 0 0:=g
   simp[Builtin.cap_,underlying,hu,g',goInt]
  ·obtain⟨p,g'⟩:=g;simp[Builtin.cap_,underlying,hu,g',goInt]
 simp[execOp,ho,resolve,hc,invoke,builtin,ht,ha,key]
end
end Go.Ev
namespace Go.Ev
section
variable {P:Program} {val:Nat→Int} {fz:Fz} {tm:TM} {mu:St} {n:Nat} {o:Oper}
theorem setFold (off:Nat):∀(vs:List Value) (j:Nat) (C:Array Value),off+j+vs.length≤C.size→
 ((vs.zipIdx j).foldl (λcs p=>cs.setIfInBounds (off+p.2) p.1) C).toList=C.toList.take (off+j)++vs++C.toList.drop (off+j+vs.length)
 |[],j,C,_=>by simp
 |v::r,j,C,h=>by
  simp only[List.zipIdx_cons,List.foldl_cons]
  rw[setFold off r (j+1) (C.setIfInBounds (off+j) v) (by simp at h⊢;omega)]
  simp only[Array.toList_setIfInBounds,List.length_cons]
  have hlt:off+j<C.toList.length:=by simp at h⊢;omega
  have h1:(C.toList.set (off+j) v).take (off+(j+1))=C.toList.take (off+j)++[v]:=by
   rw[show off+(j+1)=off+j+1 by omega,List.take_add_one,List.take_set_of_le (by omega),List.getElem?_set_self hlt]
   rfl
  have h2:(C.toList.set (off+j) v).drop (off+(j+1)+r.length)=C.toList.drop (off+j+(r.length+1)):=by
   rw[List.drop_set_of_lt (by omega)]
   congr 1;omega
  rw[h1,h2]
  simp
theorem foldArr (off:Nat) (vs:List Value) (C:Array Value) (h:off+vs.length≤C.size):
 (vs.toArray.zipIdx.foldl (λcs (p:Value×Nat)=>cs.setIfInBounds (off+p.2) p.1) C).toList=C.toList.take off++(vs++C.toList.drop (off+vs.length)):=by
 have:=setFold off vs 0 C (by simpa using h)
 simp only[Nat.add_zero]at this
 rw[←List.append_assoc,←this]
 congr 1
 simp[←Array.foldl_toList]
def PartR (P:Program) (place:Nat→Option (Nat×Nat)) (q:Nat×Nat×Od) (p:Nat×Operand):Prop:=place p.1=some (q.1,q.2.1)∧od P p.2=some q.2.2
theorem fill_sound {R:Type} {T:R→Prop} {z:R} (hz:¬T z) {place:Nat→Option (Nat×Nat)}:∀{qs:List (Nat×Nat×Od)} {ps:List (Nat×Operand)} {cs:List SV} {k:List SV→R},All2 (PartR P place) qs ps→T (fill z tm qs cs k)→
 ∃cs',T (k cs')∧∀(ρ:Rho) (w:World) (a:Act) (C:Array Value),All2 (VR val ρ w) cs C.toList→(∀p∈ps,∀y,od P p.2=some y→AVR val ρ w (ev tm y) (a.eval p.2))→
  ∃C',Instr.fill place C (ps.map λp=>(p.1,a.eval p.2))=some C'∧All2 (VR val ρ w) cs' C'.toList
 |[],[],cs,k,_,h=>⟨cs,h,λρ w a C hC _=>⟨C,rfl,hC⟩⟩
 |[],_::_,_,_,hp,_=>hp.elim
 |_::_,[],_,_,hp,_=>hp.elim
 |q::qs,p::ps,cs,k,hp,h=>by
  obtain⟨vs,e1,h1⟩:=onCells_elim hz (show T ((ev tm q.2.2).onCells z λvs=>lenK vs 0 λm=>cond (Nat.beq m q.2.1) (cond (knownAll vs) (overK cs q.1 vs z λcs=>fill z tm qs cs k) z) z)from h)
  rw[lenK_eq]at h1
  obtain⟨h2,h3⟩:=cond_elim hz h1
  obtain⟨h4,h5⟩:=cond_elim hz h3
  obtain⟨h6,h7⟩:=overK_elim hz h5
  obtain⟨cs',h8,h9⟩:=fill_sound hz (ps:=ps) hp.2 h7
  refine⟨cs',h8,λρ w a C hC hop=>?_⟩
  have hlen:vs.length=q.2.1:=by have:=beq_yes h2;omega
  obtain⟨xs,x1,x2,x3⟩:=cells_of (hop p (by simp) q.2.2 hp.1.2) e1 h4
  have hxl:xs.length=vs.length:=x2.length.symm
  have hCl:cs.length=C.size:=by have:=hC.length;simpa using this
  have hfold:=foldArr q.1 xs C (by omega)
  have hnew:All2 (VR val ρ w) (over cs q.1 vs) (xs.toArray.zipIdx.foldl (λcs (p:Value×Nat)=>cs.setIfInBounds (q.1+p.2) p.1) C).toList:=by
   rw[hfold]
   unfold over
   rw[hxl]
   exact(hC.take _).append (x2.append (hC.drop _))
  obtain⟨C',g1,g2⟩:=h9 ρ w a _ hnew (λp' hp'=>hop p' (by simp[hp']))
  refine⟨C',?_,g2⟩
  simp only[List.map_cons,Instr.fill,hp.1.1,x1]
  have hc:(decide (xs.toArray.size≠q.2.1)||decide (q.1+xs.toArray.size>C.size))=false:=by
   simp;omega
  simp only[hc,Bool.false_eq_true,if_false]
  exact g1
theorem run_mapM {α β:Type} {f:α→Sem β} {g:α→β} {w:World}:∀{l:List α},(∀x∈l,(f x).run P w=.ok (g x) w)→(l.mapM f).run P w=.ok (l.map g) w
 |[],_=>by simp
 |x::l,h=>by
  have:=run_mapM (l:=l) λy hy=>h y (by simp[hy])
  simp[List.mapM_cons,h x (by simp),this]
theorem partsOf_R {fs:Array Field} (sz:Field→Nat) (hsz:∀f∈fs.toList,szOf P f.type=some (sz f)):∀{ps:List (Nat×Operand)} {qs:List (Nat×Nat×Od)},partsOf P fs ps=some qs→
 All2 (PartR P λi=>(fs.map λf=>(f.offset,sz f))[i]?) qs ps
 |[],qs,h=>by simp[partsOf]at h;subst h;trivial
 |(i,x)::r,qs,h=>by
  simp only[partsOf]at h
  split at h
  ·rename_i f hf
   split at h
   ·rename_i m y l h1 h2 h3
    cases h
    have hm:f∈fs.toList:=by
     rw[Array.mem_toList_iff];exact Array.mem_of_getElem? hf
    have:=hsz f hm
    rw[h1]at this;cases this
    exact⟨⟨by simp[hf],h2⟩,partsOf_R sz hsz h3⟩
   ·cases h
  ·cases h
theorem sound_build {R:Type} {T:R→Prop} {z:R} (hz:¬T z) {t:TypeId} {fs:Array Field} {parts:Array (Nat×Operand)} {zs:List SV} {qs:List (Nat×Nat×Od)} {k:List SV→R} (ho:o.op=.build t parts)
 (hu:P.underlying t=some (.struct fs)) (hzs:zeroOf P t=some zs) (hall:(fs.toList.all λf=>(szOf P f.type).isSome)=true) (hq:partsOf P fs parts.toList=some qs) (h:T (fill z tm qs zs k)):
 ∃cs,T (k cs)∧Sound P val fz tm mu n o (.ag cs) mu n:=by
 have hsz:∀f∈fs.toList,szOf P f.type=some (((szOf P f.type)).getD 0):=λf hf=>by
  have:=(List.all_eq_true.1 hall) f hf
  obtain⟨m,hm⟩:=Option.isSome_iff_exists.1 this
  rw[hm];rfl
 have hR:=partsOf_R (λf=>(szOf P f.type).getD 0) hsz hq
 obtain⟨cs,h1,h2⟩:=fill_sound (val:=val) hz hR h
 refine⟨cs,h1,sound_pure λρ w a _ hop=>?_⟩
 obtain⟨v,i,g1,g2,g3,g4,g5⟩:=zeroOf_run hzs
 obtain⟨C',e1,e2⟩:=h2 ρ w a v.cells (toSVs_VR g3).1 λp hp y hy=>hop p.2 y (by
  simp only[ho,Op.operands]
  simpa using⟨p.1,by simpa using hp⟩) hy
 refine⟨.agg C',?_,C'.toList,by simp,e2⟩
 have hm:(fs.mapM λf=>do pure (f.offset,←sizeOf f.type):Sem (Array (Nat×Nat))).run P w=.ok (fs.map λf=>(f.offset,(szOf P f.type).getD 0)) w:=by
  rw[Array.mapM_eq_mapM_toList]
  have:=run_mapM (P:=P) (w:=w) (f:=λf:Field=>Prod.mk f.offset <$> sizeOf f.type) (g:=λf=>(f.offset,(szOf P f.type).getD 0)) (l:=fs.toList) λf hf=>by
   have:=szOf_run (hsz f hf) w
   simp[this]
  simp only[bind_pure_comp,Sem.run_map,this,Result.andThen_ok]
  rw[←Array.toList_map]
 have e3:Instr.fill (λi=>(fs.map λf=>(f.offset,(szOf P f.type).getD 0))[i]?) v.cells (parts.toList.map λp=>(p.1,a.eval p.2))=some C':=e1
 have e4:(parts.map λ(x:Nat×Operand)=>(x.1,a.eval x.2)).toList=parts.toList.map λp=>(p.1,a.eval p.2):=by simp
 simp only[execOp,ho,Instr.build,Sem.run_bind,g5,Result.andThen_ok,underlying,run_program,hu,Sem.run_pure,hm,e4,e3]
theorem rep_length {z:List SV} (m:Nat):(rep z m).length=m*z.length:=by
 induction m with
 |zero=>simp[rep]
 |succ m ih=>simp[rep,ih,Nat.succ_mul];omega
theorem rep_get {z:List SV} (hz:z.length≠0):∀(m i:Nat),i<m*z.length→(rep z m)[i]?=z[i%z.length]?
 |0,i,h=>by simp at h
 |m+1,i,h=>by
  simp only[rep]
  by_cases hi:i<z.length
  ·rw[List.getElem?_append_left hi,Nat.mod_eq_of_lt hi]
  ·rw[List.getElem?_append_right (by omega),rep_get hz m (i-z.length) (by rw[Nat.succ_mul]at h;omega)]
   rw[Nat.mod_eq_sub_mod (by omega:i≥z.length)]
theorem rep_zero {ρ:Rho} {w:World} {v:Value} {z:List SV} (hz:toSVs v.cells.toList=some z) (h0:z.length≠0) (m c:Nat) (hc:m≤c):
 ∀(i:Nat) s,(rep z m)[i]?=some s→∃x,((Array.range (c*z.length)).map (v.cells[· %v.cells.size]!))[i]?=some x∧VR val ρ w s x:=by
 intro i s hi
 have hv:=(toSVs_VR (val:=val) (ρ:=ρ) (w:=w) hz).1
 have hl:z.length=v.cells.size:=by have:=hv.length;simpa using this
 have hlt:i<m*z.length:=by
  have:=(List.getElem?_eq_some_iff.1 hi).1
  rwa [rep_length]at this
 have hlt2:i<c*z.length:=Nat.lt_of_lt_of_le hlt (Nat.mul_le_mul_right _ hc)
 rw[rep_get h0 m i hlt]at hi
 obtain⟨x,e,r⟩:=hv.get hi
 refine⟨x,?_,r⟩
 have hb:i%v.cells.size<v.cells.size:=Nat.mod_lt _ (by omega)
 rw[hl]at e
 have e':v.cells[i%v.cells.size]=x:=by
  have:=List.getElem?_eq_some_iff.1 e
  simpa using this.2
 simp[hlt2,hb,e']
theorem elemsOf_R {s:Nat}:∀{ps:List (Nat×Operand)} {qs:List (Nat×Nat×Od)},elemsOf P s ps=some qs→All2 (PartR P λi=>some (i*s,s)) qs ps
 |[],qs,h=>by simp[elemsOf]at h;subst h;trivial
 |(i,x)::r,qs,h=>by
  simp only[elemsOf]at h
  split at h
  ·rename_i y l h1 h2
   cases h
   exact⟨⟨rfl,h1⟩,elemsOf_R h2⟩
  ·cases h
theorem sound_bslice {R:Type} {T:R→Prop} {z:R} (hz:¬T z) {t e:TypeId} {len s:Nat} {parts:Array (Nat×Operand)} {zs:List SV} {qs:List (Nat×Nat×Od)} {k:List SV→R} (ho:o.op=.buildSlice t len parts)
 (hu:P.underlying t=some (.slice e)) (hs:szOf P e=some s) (hs0:s≠0) (hsm:len*s≤65536) (hzs:zeroOf P e=some zs) (hq:elemsOf P s parts.toList=some qs) (h:T (fill z tm qs (rep zs len) k)):
 ∃cs,T (k cs)∧Sound P val fz tm mu n o (.one (.osl n 0 len len s)) ((n,cs)::mu) (n+1):=by
 obtain⟨cs,h1,h2⟩:=fill_sound (val:=val) hz (elemsOf_R hq) h
 refine⟨cs,h1,sound_of_run (Nat.le_succ _) λρ w a hr hop hf=>?_⟩
 obtain⟨v,i,g1,g2,g3,g4,g5⟩:=zeroOf_run hzs
 have hsi:s=i.size:=by unfold szOf at hs;rw[g1]at hs;simp at hs;exact hs.symm
 have hzl:zs.length=s:=by rw[g4,hsi]
 generalize hC0:(Array.range (len*s)).map (v.cells[· %v.cells.size]!)=C0
 have hstart:All2 (VR val ρ w) (rep zs len) C0.toList:=by
  refine All2.of_get (by rw[←hC0];simp[rep_length,hzl]) λj a b ha hb=>?_
  obtain⟨x,e1,r⟩:=rep_zero (val:=val) (ρ:=ρ) (w:=w) g3 (by omega) len len (Nat.le_refl _) j a ha
  rw[hzl,hC0]at e1
  have:C0.toList[j]?=some x:=by simpa using e1
  rw[this]at hb;cases hb;exact r
 obtain⟨C',e1,e2⟩:=h2 ρ w a C0 hstart λp hp y hy=>hop p.2 y (by
  simp only[ho,Op.operands]
  simpa using⟨p.1,by simpa using hp⟩) hy
 have hCl:cs.length=C'.size:=by have:=e2.length;simpa using this
 have hszr:=szOf_run hs w
 have hrun:(execOp a.eval o).run P w=.ok (.value (.slice (some ⟨w.heap.size,0,none⟩) len len)) (w.alloc (.cells C' e)):=by
  have e4:(parts.map λ(x:Nat×Operand)=>(x.1,a.eval x.2)).toList=parts.toList.map λp=>(p.1,a.eval p.2):=by simp
  have hlim:¬len*s>2^24:=by omega
  by_cases hl0:len*s=0
  ·have hC00:C0=#[]:=by rw[←hC0,hl0];simp[Array.range_zero']
   simp only[execOp,ho,Instr.buildSlice,Sem.run_bind,underlying,run_program,hu,Result.andThen_ok,Sem.run_pure,hszr,hlim,hl0,if_true,Nat.lt_irrefl,gt_iff_lt,e4]
   have e5:Instr.fill (λi=>some (i*s,s)) #[] (parts.toList.map λp=>(p.1,a.eval p.2))=some C':=by rw[←e1,hC00]
   simp[Array.range_zero',e5,newRow]
  ·simp only[execOp,ho,Instr.buildSlice,Sem.run_bind,underlying,run_program,hu,Result.andThen_ok,Sem.run_pure,hszr,hlim,hl0,if_false,e4,g5,hC0,e1]
   simp[newRow]
 have hn:=hf n (Nat.le_refl _) (Nat.lt_succ_self _)
 obtain⟨b1,b2,b3,b4,b5,b6⟩:=new_block (ty:=e) (Like.refl w) hr hn (C:=C') (by omega) (λi s hi=>let⟨x,ex,rx⟩:=e2.get hi;⟨x,by simpa using ex,rx⟩)
 have hlb:len≤65536:=by
  have:len*1≤len*s:=Nat.mul_le_mul_left _ (by omega)
  omega
 refine⟨_,_,.inl hrun,_,b1,b2,⟨(w.heap.size,0),len,upd_same _ _ _,rfl,Nat.le_refl _,Nat.le_refl _,?_,by omega⟩,b3,b4,b5⟩
 rw[b6]
 have:C'.size=len*s:=by
  have hl:(rep zs len).length=C0.size:=by have:=hstart.length;simpa using this
  have hfl:∀(ps:List (Nat×Value)) (C D:Array Value),Instr.fill (λi=>some (i*s,s)) C ps=some D→D.size=C.size:=by
   intro ps
   induction ps with
   |nil=>intro C D h;simp[Instr.fill]at h;rw[h]
   |cons p r ih=>
    intro C D h
    simp only[Instr.fill]at h
    split at h
    ·cases h
    ·rw[ih _ _ h]
     have:∀(l:List (Value×Nat)) (C:Array Value),(l.foldl (λcs p'=>cs.setIfInBounds (p.1*s+p'.2) p'.1) C).size=C.size:=by
      intro l
      induction l with
      |nil=>simp
      |cons q t ih2=>intro C;simp[ih2]
     simp only[←Array.foldl_toList]
     exact this _ _
  rw[hfl _ _ _ e1,←hl,rep_length,hzl]
 simp[this]
theorem fits_elim {need bytes:Nat} (h:fits need bytes=true):need≤140737488355328∧need*bytes≤140737488355328∧(need=0∨bytes≤137438953472∧(need*bytes≤137438953472∨bytes≤65536)):=by
 have hr:roomy=137438953472:=rfl
 unfold fits at h
 cases e1:Nat.ble (Nat.mul need (Nat.succ bytes)) roomy with
 |true=>
  have h1:need*(bytes+1)≤roomy:=Nat.le_of_ble_eq_true e1
  have h2:need*1≤need*(bytes+1):=Nat.mul_le_mul_left _ (by omega)
  have h3:need*bytes≤need*(bytes+1):=Nat.mul_le_mul_left _ (by omega)
  refine⟨by omega,by omega,?_⟩
  by_cases h0:need=0
  ·exact .inl h0
  ·have:1*(bytes+1)≤need*(bytes+1):=Nat.mul_le_mul_right _ (by omega)
   exact .inr ⟨by omega,.inl (by omega)⟩
 |false=>
  rw[e1]at h
  cases e2:Nat.ble (Nat.mul need bytes) 140737488355328 with
  |false=>rw[e2]at h;cases h
  |true=>
   rw[e2]at h
   cases e3:Nat.ble 1 bytes with
   |false=>rw[e3]at h;cases h
   |true=>
    rw[e3]at h
    have h4:bytes≤65536:=Nat.le_of_ble_eq_true h
    have h5:1≤bytes:=Nat.le_of_ble_eq_true e3
    have h6:need*bytes≤140737488355328:=Nat.le_of_ble_eq_true e2
    have h7:need*1≤need*bytes:=Nat.mul_le_mul_left _ h5
    exact⟨by omega,h6,.inr ⟨by omega,.inr h4⟩⟩
theorem fits_small {need bytes:Nat} (h:need*(bytes+1)≤roomy):fits need bytes=true:=by
 have e:Nat.ble (Nat.mul need (Nat.succ bytes)) roomy=true:=by rw[Nat.ble_eq];exact h
 unfold fits;rw[e];rfl
theorem sound_mkslice {t e:TypeId} {l c:Operand} {l' c':Od} {s b:Nat} {zs:List SV} {x y:Int} (ho:o.op=.makeSlice t l c) (hu:P.underlying t=some (.slice e)) (hs:szOf P e=some s) (hs0:s≠0) (hb:byOf P e=some b)
 (hzs:zeroOf P e=some zs) (hl:od P l=some l') (hc:od P c=some c') (el:ev tm l'=.one (.int .i64 x)) (ec:ev tm c'=.one (.int .i64 y)) (h0:¬x<0) (h1:¬y<x) (h2:fits y.toNat b=true):
 Sound P val fz tm mu n o (.one (.osl n 0 x.toNat x.toNat s)) ((n,rep zs x.toNat)::mu) (n+1):=by
 refine sound_of_run (Nat.le_succ _) λρ w a hr hop hf=>?_
 have gl:=hop l l' (by simp[ho,Op.operands]) hl
 have gc:=hop c c' (by simp[ho,Op.operands]) hc
 rw[el]at gl;rw[ec]at gc
 have gl':a.eval l=.int .i64 x:=gl
 have gc':a.eval c=.int .i64 y:=gc
 obtain⟨v,i,g1,g2,g3,g4,g5⟩:=zeroOf_run hzs
 have hsi:s=i.size:=by unfold szOf at hs;rw[g1]at hs;simp at hs;exact hs.symm
 have hbi:b=i.bytes:=by unfold byOf at hb;rw[g1]at hb;simp at hb;exact hb.symm
 have hzl:zs.length=s:=by rw[g4,hsi]
 obtain⟨hyb,hbb,_⟩:=fits_elim h2
 have wx:IntKind.i64.wrap x=x:=by simp[IntKind.wrap,IntKind.bits,IntKind.signed];omega
 have wy:IntKind.i64.wrap y=y:=by simp[IntKind.wrap,IntKind.bits,IntKind.signed];omega
 have hszr:=szOf_run hs w
 generalize hC0:(Array.range (y.toNat*s)).map (v.cells[· %v.cells.size]!)=C0
 have hC0s:C0.size=y.toNat*s:=by rw[←hC0];simp
 have hprod:(b:Int)*y=((y.toNat*b:Nat):Int):=by
  have:y=(y.toNat:Int):=by omega
  rw[this];simp[Int.mul_comm]
 have t1:(decide (y<0)||decide ((b:Int)*y>2^48))=false:=by
  have h3:¬(b:Int)*y>2^48:=by
   rw[hprod]
   have:((y.toNat*b:Nat):Int)≤((140737488355328:Nat):Int):=Int.ofNat_le.2 hbb
   generalize ((y.toNat*b:Nat):Int)=q at this
   omega
  have h4:¬y<0:=by omega
  simp only[h3,h4,decide_false,Bool.or_false]
 have hrun:(execOp a.eval o).run P w=.ok (.value (.slice (some ⟨w.heap.size,0,none⟩) x.toNat y.toNat)) (w.alloc (.cells C0 e)):=by
  have hcond:((decide (y<0)||decide ((b:Int)*y>2^48))||decide (x<0)||decide (x>y))=false:=by
   rw[t1];simp;omega
  by_cases hz0:y.toNat*s=0
  ·have hC00:C0=#[]:=by rw[←hC0,hz0];simp[Array.range_zero']
   rw[hC00]
   simp only[execOp,ho,Instr.makeSlice,Sem.run_bind,underlying,run_program,hu,Result.andThen_ok,Sem.run_pure,gl',gc',asInt,asIntOf,typeInfo,g1,←hbi,wx,wy]
   simp only[hcond,Bool.false_eq_true,if_false,Sem.run_bind,run_askRoom,Result.andThen_ok,hszr,hz0,if_true,Sem.run_pure,Sem.run_pure']
   simp[newRow,Array.range_zero']
  ·simp only[execOp,ho,Instr.makeSlice,Sem.run_bind,underlying,run_program,hu,Result.andThen_ok,Sem.run_pure,gl',gc',asInt,asIntOf,typeInfo,g1,←hbi,wx,wy]
   simp only[hcond,Bool.false_eq_true,if_false,Sem.run_bind,run_askRoom,Result.andThen_ok,hszr,hz0,Sem.run_pure,Sem.run_pure',g5,hC0]
   simp[newRow]
 have hn:=hf n (Nat.le_refl _) (Nat.lt_succ_self _)
 have hle:x.toNat≤y.toNat:=by omega
 obtain⟨b1,b2,b3,b4,b5,b6⟩:=new_block (ty:=e) (Like.refl w) hr hn (cs:=rep zs x.toNat) (C:=C0) (by rw[rep_length,hzl,hC0s];exact Nat.mul_le_mul_right _ hle)
  (λi s' hi=>by
   obtain⟨q,e1,r⟩:=rep_zero (val:=val) (ρ:=ρ) (w:=w) g3 (by omega) x.toNat y.toNat hle i s' hi
   rw[hzl,hC0]at e1
   exact⟨q,e1,r⟩)
 refine⟨_,_,.inl hrun,_,b1,b2,⟨(w.heap.size,0),y.toNat,upd_same _ _ _,rfl,Nat.le_refl _,hle,?_,by omega⟩,b3,b4,b5⟩
 rw[b6,hC0s];simp
theorem maxK_elim {R:Type} {T:R→Prop} {z:R} (hz:¬T z) {orc:Orc R} (hk:OrcOk T val orc):∀{l:List AV} {a:SV} {k:SV→R},T (maxK orc z l a k)→
 ∃r,T (k r)∧∀(ρ:Rho) (w:World) (va:Value) (vs:List Value),VR val ρ w a va→All2 (AVR val ρ w) l vs→∃vr,(vs.foldlM Builtin.max2 va).run P w=.ok vr w∧VR val ρ w r vr
 |[],a,k,h=>⟨a,h,λρ w va vs ha hv=>by cases vs with|nil=>exact⟨va,rfl,ha⟩|cons _ _=>exact hv.elim⟩
 |x::l,a,k,h=>by
  obtain⟨b,e1,h1⟩:=onOne_elim hz (show T (x.onOne z λb=>ltS orc z a b λt=>cond t (maxK orc z l b k) (maxK orc z l a k))from h)
  obtain⟨kd,u,v,i1,i2,h2⟩:=ltS_elim hz hk h1
  have h3:T (maxK orc z l (if u<v then b else a) k):=by
   by_cases hab:u<v
   ·simpa[hab]using h2
   ·simpa[hab]using h2
  obtain⟨r,h4,h5⟩:=maxK_elim hz hk h3
  refine⟨r,h4,λρ w va vs ha hv=>?_⟩
  cases vs with
  |nil=>exact hv.elim
  |cons vb vs=>
   have hb:=hv.1
   rw[e1]at hb
   have g1:=i1.eval (ρ:=ρ) (w:=w) (show AVR val ρ w (.one a) va from ha)
   have g2:=i2.eval (ρ:=ρ) (w:=w) (show AVR val ρ w (.one b) vb from hb)
   have hb':VR val ρ w b vb:=hb
   subst g1;subst g2
   simp only[List.foldlM_cons,Sem.run_bind,Builtin.max2,Sem.run_pure,Result.andThen_ok]
   refine h5 ρ w _ vs ?_ hv.2
   by_cases hab:u<v
   ·simpa[hab]using hb'
   ·simpa[hab]using ha
theorem minK_elim {R:Type} {T:R→Prop} {z:R} (hz:¬T z) {orc:Orc R} (hk:OrcOk T val orc):∀{l:List AV} {a:SV} {k:SV→R},T (minK orc z l a k)→
 ∃r,T (k r)∧∀(ρ:Rho) (w:World) (va:Value) (vs:List Value),VR val ρ w a va→All2 (AVR val ρ w) l vs→∃vr,(vs.foldlM Builtin.min2 va).run P w=.ok vr w∧VR val ρ w r vr
 |[],a,k,h=>⟨a,h,λρ w va vs ha hv=>by cases vs with|nil=>exact⟨va,rfl,ha⟩|cons _ _=>exact hv.elim⟩
 |x::l,a,k,h=>by
  obtain⟨b,e1,h1⟩:=onOne_elim hz (show T (x.onOne z λb=>ltS orc z b a λt=>cond t (minK orc z l b k) (minK orc z l a k))from h)
  obtain⟨kd,u,v,i1,i2,h2⟩:=ltS_elim hz hk h1
  have h3:T (minK orc z l (if u<v then b else a) k):=by
   by_cases hab:u<v
   ·simpa[hab]using h2
   ·simpa[hab]using h2
  obtain⟨r,h4,h5⟩:=minK_elim hz hk h3
  refine⟨r,h4,λρ w va vs ha hv=>?_⟩
  cases vs with
  |nil=>exact hv.elim
  |cons vb vs=>
   have hb:=hv.1
   rw[e1]at hb
   have g1:=i1.eval (ρ:=ρ) (w:=w) (show AVR val ρ w (.one b) vb from hb)
   have g2:=i2.eval (ρ:=ρ) (w:=w) (show AVR val ρ w (.one a) va from ha)
   have hb':VR val ρ w b vb:=hb
   subst g1;subst g2
   simp only[List.foldlM_cons,Sem.run_bind,Builtin.min2,Sem.run_pure,Result.andThen_ok]
   refine h5 ρ w _ vs ?_ hv.2
   by_cases hab:u<v
   ·simpa[hab]using hb'
   ·simpa[hab]using ha
theorem ods_R {ρ:Rho} {w:World} {a:Act}:∀{xs:List Operand} {ys:List Od},ods P xs=some ys→(∀x y,x∈xs→od P x=some y→AVR val ρ w (ev tm y) (a.eval x))→All2 (AVR val ρ w) (ys.map (ev tm)) (xs.map a.eval)
 |[],ys,h,_=>by simp[ods]at h;subst h;trivial
 |x::r,ys,h,hop=>by
  simp only[ods]at h
  split at h
  ·rename_i y l h1 h2
   cases h
   exact⟨hop x y (by simp) h1,ods_R h2 λx y hx hy=>hop x y (by simp[hx]) hy⟩
  ·cases h
theorem sound_max {R:Type} {T:R→Prop} {z:R} (hz:¬T z) {orc:Orc R} (hk:OrcOk T val orc) {c:Call} {y:Od} {ys:List Od} {a:SV} {k:SV→R} (ho:o.op=.call c) (hc:c.callee=.builtin .max) (hx:ods P c.args.toList=some (y::ys))
 (ex:ev tm y=.one a) (h:T (maxK orc z (ys.map (ev tm)) a k)):∃r,T (k r)∧Sound P val fz tm mu n o (.one r) mu n:=by
 obtain⟨r,h1,h2⟩:=maxK_elim (P:=P) (val:=val) hz hk h
 refine⟨r,h1,sound_pure λρ w act _ hop=>?_⟩
 have hR:=ods_R (val:=val) (tm:=tm) (a:=act) hx λx y hx' hy=>hop x y (by simp[ho,Op.operands,Call.operands,hc];exact Array.mem_toList_iff.1 hx') hy
 have key:∃vr,(Builtin.max_ c.argTypes o.type (c.args.map act.eval)).run P w=.ok vr w∧VR val ρ w r vr:=by
  unfold Builtin.max_
  rw[Array.toList_map]
  generalize c.args.toList.map act.eval=vs at hR⊢
  cases vs with
  |nil=>exact hR.elim
  |cons v vs=>
   have h3:=hR.1
   rw[ex]at h3
   exact h2 ρ w v vs h3 hR.2
 obtain⟨vr,key,hvr⟩:=key
 exact⟨vr,by simp[execOp,ho,resolve,hc,invoke,builtin,key],hvr⟩
theorem sound_min {R:Type} {T:R→Prop} {z:R} (hz:¬T z) {orc:Orc R} (hk:OrcOk T val orc) {c:Call} {y:Od} {ys:List Od} {a:SV} {k:SV→R} (ho:o.op=.call c) (hc:c.callee=.builtin .min) (hx:ods P c.args.toList=some (y::ys))
 (ex:ev tm y=.one a) (h:T (minK orc z (ys.map (ev tm)) a k)):∃r,T (k r)∧Sound P val fz tm mu n o (.one r) mu n:=by
 obtain⟨r,h1,h2⟩:=minK_elim (P:=P) (val:=val) hz hk h
 refine⟨r,h1,sound_pure λρ w act _ hop=>?_⟩
 have hR:=ods_R (val:=val) (tm:=tm) (a:=act) hx λx y hx' hy=>hop x y (by simp[ho,Op.operands,Call.operands,hc];exact Array.mem_toList_iff.1 hx') hy
 have key:∃vr,(Builtin.min_ c.argTypes o.type (c.args.map act.eval)).run P w=.ok vr w∧VR val ρ w r vr:=by
  unfold Builtin.min_
  rw[Array.toList_map]
  generalize c.args.toList.map act.eval=vs at hR⊢
  cases vs with
  |nil=>exact hR.elim
  |cons v vs=>
   have h3:=hR.1
   rw[ex]at h3
   exact h2 ρ w v vs h3 hR.2
 obtain⟨vr,key,hvr⟩:=key
 exact⟨vr,by simp[execOp,ho,resolve,hc,invoke,builtin,key],hvr⟩
end
end Go.Ev
namespace Go.Ev
section
variable {P:Program} {val:Nat→Int} {fz:Fz} {tm:TM} {mu:St} {n:Nat} {o:Oper}
def BoundIs (x:Option Value) (d m:Nat):Prop:=(x=none∧m=d)∨∃k i,x=some (.int k i)∧¬i<0∧m=i.toNat
theorem bound_is {ρ:Rho} {w:World} {a:Act} {x:Option Operand} {y:Option Od} {d m:Nat} (hy:odO P x=some y) (hop:∀u v,x=some u→od P u=some v→AVR val ρ w (ev tm v) (a.eval u))
 (hm:bound (y.map (ev tm)) d=some m):BoundIs (x.map a.eval) d m:=by
 cases x with
 |none=>
  simp[odO]at hy;subst hy
  simp[bound]at hm
  exact .inl ⟨rfl,hm.symm⟩
 |some u=>
  simp only[odO]at hy
  cases hu:od P u with
  |none=>rw[hu]at hy;cases hy
  |some v=>
   rw[hu]at hy
   simp at hy;subst hy
   have g:=hop u v rfl hu
   simp only[Option.map_some,bound]at hm
   split at hm
   ·rename_i h;cases h
   ·rename_i k i h
    have e:ev tm v=.one (.int k i):=Option.some.inj h
    rw[e]at g
    have g':a.eval u=.int k i:=g
    split at hm
    ·cases hm
    ·rename_i h0
     cases hm
     exact .inr ⟨k,i,by simp[g'],h0,rfl⟩
   ·cases hm
theorem sliceBound_run {w:World} {k:IntKind} {i:Int} {y:Nat} (code:BoundsCode) (h0:¬i<0) (h1:i.toNat≤y):(Instr.sliceBound (.int k i) y code).run P w=.ok i.toNat w:=by
 have:0≤i∧i≤(y:Int):=by omega
 simp[Instr.sliceBound,asIntOf,this]
theorem sliceBounds_run {w:World} {b:Bool} {len cap l h m:Nat} {lo hi mx:Option Value} (hm:BoundIs mx cap m) (hh:BoundIs hi len h) (hl:BoundIs lo 0 l) (c1:m≤cap) (c2:h≤m) (c3:l≤h) (hmx:mx.isSome=true→hi.isSome=true):
 (Instr.sliceBounds b len cap lo hi mx).run P w=.ok (l,h,m) w:=by
 rcases hm with⟨rfl,rfl⟩|⟨km,im,rfl,m0,rfl⟩
 ·rcases hh with⟨rfl,rfl⟩|⟨kh,ih,rfl,h0,rfl⟩
  ·rcases hl with⟨rfl,rfl⟩|⟨kl,il,rfl,l0,rfl⟩
   ·simp[Instr.sliceBounds]
   ·simp[Instr.sliceBounds,sliceBound_run _ l0 c3]
  ·rcases hl with⟨rfl,rfl⟩|⟨kl,il,rfl,l0,rfl⟩
   ·simp[Instr.sliceBounds,sliceBound_run _ h0 c2]
   ·simp[Instr.sliceBounds,sliceBound_run _ h0 c2,sliceBound_run _ l0 c3]
 ·rcases hh with⟨rfl,rfl⟩|⟨kh,ih,rfl,h0,rfl⟩
  ·simp at hmx
  ·rcases hl with⟨rfl,rfl⟩|⟨kl,il,rfl,l0,rfl⟩
   ·simp[Instr.sliceBounds,sliceBound_run _ m0 c1,sliceBound_run _ h0 c2]
   ·simp[Instr.sliceBounds,sliceBound_run _ m0 c1,sliceBound_run _ h0 c2,sliceBound_run _ l0 c3]
theorem sound_slc {t:TypeId} {s:Nat} {x:Operand} {lo hi mx:Option Operand} {x':Od} {lo' hi' mx':Option Od} {sv r:SV} (ho:o.op=.slice t x lo hi mx)
 (hu:(∃e,P.underlying t=some (.slice e)∧szOf P e=some s∧∀l b,sv≠.str l b)∨P.underlying t=some .string∧(∃l b,sv=.str l b)) (hmx:mx.isSome=true→hi.isSome=true)
 (hx:od P x=some x') (hlo:odO P lo=some lo') (hhi:odO P hi=some hi') (hmx':odO P mx=some mx') (ex:ev tm x'=.one sv)
 (hr:sliceOf s sv (lo'.map (ev tm)) (hi'.map (ev tm)) (mx'.map (ev tm))=some r):Sound P val fz tm mu n o (.one r) mu n:=by
 refine sound_pure λρ w a _ hop=>?_
 have g:=hop x x' (by simp[ho,Op.operands]) hx
 rw[ex]at g
 have ol:∀u v,lo=some u→od P u=some v→AVR val ρ w (ev tm v) (a.eval u):=λu v hu hv=>hop u v (by simp[ho,Op.operands,hu]) hv
 have oh:∀u v,hi=some u→od P u=some v→AVR val ρ w (ev tm v) (a.eval u):=λu v hu hv=>hop u v (by simp[ho,Op.operands,hu]) hv
 have om:∀u v,mx=some u→od P u=some v→AVR val ρ w (ev tm v) (a.eval u):=λu v hu hv=>hop u v (by simp[ho,Op.operands,hu]) hv
 have bl:=λd m h=>bound_is (P:=P) (val:=val) (ρ:=ρ) (w:=w) (a:=a) (d:=d) (m:=m) hlo ol h
 have bh:=λd m h=>bound_is (P:=P) (val:=val) (ρ:=ρ) (w:=w) (a:=a) (d:=d) (m:=m) hhi oh h
 have bm:=λd m h=>bound_is (P:=P) (val:=val) (ρ:=ρ) (w:=w) (a:=a) (d:=d) (m:=m) hmx' om h
 have mnone:mx'.map (ev tm)=none→mx.map a.eval=none:=λh=>by
  cases mx with
  |none=>rfl
  |some u=>
   simp only[odO]at hmx'
   cases hu:od P u with
   |none=>rw[hu]at hmx';cases hmx'
   |some v=>rw[hu]at hmx';simp at hmx';subst hmx';simp at h
 have hms:(mx.map a.eval).isSome=true→(hi.map a.eval).isSome=true:=by simpa using hmx
 have goal:∀v,(Instr.slice t (a.eval x) (lo.map a.eval) (hi.map a.eval) (mx.map a.eval)).run P w=.ok v w→(∀k e,P.underlying t≠some (.array k e))→(execOp a.eval o).run P w=.ok (.value v) w:=by
  intro v hv hna
  have:(Instr.sliceAt t (a.eval x) (lo.map a.eval) (hi.map a.eval) (mx.map a.eval)).run P w=.ok v w:=by
   unfold Instr.sliceAt
   cases hut:P.underlying t with
   |none=>rcases hu with⟨e,h,_⟩|⟨h,_⟩<;>rw[hut]at h<;>cases h
   |some d=>
    simp only[Sem.run_bind,underlying,run_program,hut,Result.andThen_ok,Sem.run_pure]
    cases d<;>first|exact hv|exact(hna _ _ hut).elim
  simp[execOp,ho,this]
 rcases hu with⟨e,hu,hs,hns⟩|⟨hu,sl,b,rfl⟩
 ·have hna:∀k e',P.underlying t≠some (.array k e'):=λk e' h=>by rw[hu]at h;cases h
  have hsz:=szOf_run hs w
  cases sv with
  |str l b=>exact(hns l b rfl).elim
  |nsl=>
   simp only[sliceOf]at hr
   split at hr
   ·rename_i h1 h2 h3
    cases hr
    have g':a.eval x=.slice none 0 0:=g
    have hb:=sliceBounds_run (P:=P) (w:=w) (b:=true) (bm 0 0 h1) (bh 0 0 h2) (bl 0 0 h3) (Nat.le_refl _) (Nat.le_refl _) (Nat.le_refl _) hms
    exact⟨.slice none 0 0,goal _ (by simp[Instr.slice,underlying,hu,g',hb,hsz]) hna,rfl⟩
   ·cases hr
  |esl=>
   simp only[sliceOf]at hr
   split at hr
   ·rename_i h1 h2 h3
    cases hr
    obtain⟨ad,g'⟩:=g
    have hb:=sliceBounds_run (P:=P) (w:=w) (b:=true) (bm 0 0 h1) (bh 0 0 h2) (bl 0 0 h3) (Nat.le_refl _) (Nat.le_refl _) (Nat.le_refl _) hms
    exact⟨.slice (some ad) 0 0,goal _ (by simp[Instr.slice,underlying,hu,g',hb,hsz]) hna,ad,rfl⟩
   ·cases hr
  |osl id off len cap s'=>
   simp only[sliceOf]at hr
   split at hr
   ·cases hr
   ·rename_i hs'
    have hss:s'=s:=by simpa using hs'
    subst hss
    obtain⟨p,c,hp,g',q1,q2,q3,q4⟩:=g
    split at hr
    ·rename_i h l hh hl
     split at hr
     ·cases hr
     ·rename_i hcap
      have hcap':h≤cap∧l≤h:=by simpa using hcap
      split at hr
      ·rename_i hmn
       have hmn':mx.map a.eval=none:=mnone (by assumption)
       have hb:=sliceBounds_run (P:=P) (w:=w) (b:=true) (len:=len) (cap:=c) (m:=c) (.inl ⟨hmn',rfl⟩) (bh len h hh) (bl 0 l hl) (Nat.le_refl _) (by omega) hcap'.2 hms
       split at hr
       ·rename_i hl0
        cases hr
        have hl0':l<cap∨l=0:=by
         rcases Bool.or_eq_true _ _▸hl0 with h|h
         ·exact .inl (by simpa[Nat.blt_eq]using h)
         ·exact .inr (beq_yes h)
        have haddr:(if c=l then(some ⟨p.1,p.2+off,none⟩:Option Addr)else(some ⟨p.1,p.2+off,none⟩:Option Addr).map (·.add (l*s')))=some ⟨p.1,p.2+(off+l*s'),none⟩:=by
         split
         ·have:l=0:=by omega
          subst this;simp
         ·simp[addr_add,Nat.add_assoc]
        refine⟨.slice (some ⟨p.1,p.2+(off+l*s'),none⟩) (h-l) (c-l),goal _ ?_ hna,p,c-l,hp,rfl,by omega,by omega,?_,by omega⟩
        ·simp only[Instr.slice,Sem.run_bind,underlying,run_program,hu,Result.andThen_ok,Sem.run_pure,g',hb,hsz,haddr]
        ·have:(c-l)*s'+l*s'=c*s':=by rw[←Nat.add_mul];congr 1;omega
         omega
       ·rename_i hl0
        cases hr
        have hl0':¬(l<cap∨l=0):=by
         intro hc
         apply hl0
         rw[Bool.or_eq_true]
         rcases hc with h|h
         ·exact .inl (by simpa[Nat.blt_eq]using h)
         ·exact .inr (by subst h;rfl)
        have hhl:h-l=0:=by omega
        refine⟨.slice (if c=l then(some ⟨p.1,p.2+off,none⟩:Option Addr)else(some ⟨p.1,p.2+off,none⟩:Option Addr).map (·.add (l*s'))) 0 (c-l),goal _ ?_ hna,?_⟩
        ·simp only[Instr.slice,Sem.run_bind,underlying,run_program,hu,Result.andThen_ok,Sem.run_pure,g',hb,hsz,hhl]
        ·by_cases hcl:c=l
         ·exact⟨⟨p.1,p.2+off,none⟩,c-l,by simp[hcl]⟩
         ·exact⟨(⟨p.1,p.2+off,none⟩:Addr).add (l*s'),c-l,by simp[hcl]⟩
      ·rename_i mv hmv
       split at hr
       ·rename_i m hbm
        split at hr
        ·cases hr
        ·rename_i hmc
         have hmc':m≤cap∧h≤m:=by simpa using hmc
         have hb:=sliceBounds_run (P:=P) (w:=w) (b:=true) (len:=len) (cap:=c) (m:=m) (by
          have:=bm 0 m (by rw[hmv];exact hbm)
          rcases this with⟨hn,_⟩|h
          ·exfalso
           cases mx with
           |none=>simp[odO]at hmx';subst hmx';cases hmv
           |some u=>cases hn
          ·exact .inr h) (bh len h hh) (bl 0 l hl) (by omega) hmc'.2 hcap'.2 hms
         split at hr
         ·rename_i hml
          cases hr
          have hml':m=l:=beq_yes hml
          have hhl:h-l=0:=by omega
          refine⟨.slice (some ⟨p.1,p.2+off,none⟩) 0 0,goal _ ?_ hna,_,rfl⟩
          simp only[Instr.slice,Sem.run_bind,underlying,run_program,hu,Result.andThen_ok,Sem.run_pure,g',hb,hsz,hhl,hml',if_true,Nat.sub_self]
         ·rename_i hml
          cases hr
          have hml':¬m=l:=λe=>hml (by subst e;exact Nat.beq_refl m)
          refine⟨.slice (some ⟨p.1,p.2+(off+l*s'),none⟩) (h-l) (m-l),goal _ ?_ hna,p,m-l,hp,rfl,by omega,Nat.le_refl _,?_,by omega⟩
          ·simp only[Instr.slice,Sem.run_bind,underlying,run_program,hu,Result.andThen_ok,Sem.run_pure,g',hb,hsz,hml',if_false,Option.map_some,addr_add,Nat.add_assoc]
          ·have h1:(m-l)*s'+l*s'=m*s':=by rw[←Nat.add_mul];congr 1;omega
           have h2:m*s'≤c*s':=Nat.mul_le_mul_right _ (by omega)
           omega
       ·cases hr
    ·cases hr
  |_=>simp[sliceOf]at hr
 ·have hna:∀k e',P.underlying t≠some (.array k e'):=λk e' h=>by rw[hu]at h;cases h
  have g':a.eval x=.string (sOf sl b):=g.2
  simp only[sliceOf]at hr
  split at hr
  ·cases hr
  ·rename_i hmn
   have hmn':mx.map a.eval=none:=mnone (by assumption)
   split at hr
   ·rename_i h l hh hl
    split at hr
    ·rename_i hc
     have hc':h≤sl∧l≤h:=by simpa using hc
     cases hr
     have hb:=sliceBounds_run (P:=P) (w:=w) (b:=false) (len:=(sOf sl b).size) (cap:=(sOf sl b).size) (mx:=none) (m:=(sOf sl b).size) (.inl ⟨rfl,rfl⟩) (by rw[sOf_size];exact bh sl h hh) (bl 0 l hl) (Nat.le_refl _) (by rw[sOf_size];exact hc'.1) hc'.2 (by simp)
     have hex:(sOf sl b).extract l h=sOf (h-l) (b/256^(sl-h)%256^(h-l)):=by
      apply ByteArray.ext
      apply Array.ext'
      rw[ByteArray.data_extract,Array.toList_extract]
      show((sB sl b).drop l).take (h-l)=sB _ _
      exact sB_slice hc'.1 hc'.2 b
     exact⟨.string ((sOf sl b).extract l h),goal _ (by rw[hmn'];simp[Instr.slice,underlying,hu,g',hb]) hna,Nat.mod_lt _ (Nat.pow_pos (by decide)),by rw[hex]⟩
    ·cases hr
   ·cases hr
def SrcOk (P:Program) (val:Nat→Int) (fz:Fz) (mu:St) (s:Nat) (x:SV) (src:List SV) (cnt:Nat):Prop:=
 src.length=cnt*s∧∀(ρ:Rho) (w:World) (v:Value),Rel val ρ fz mu w→VR val ρ w x v→(∀w1,(Builtin.lenOf v).run P w1=.ok cnt w1)∧((∃a l c,v=.slice a l c)∨∃b,v=.string b)∧
  ∃news:List Value,All2 (VR val ρ w) src news∧∀m,m≤cnt→∀w1,Like w w1→(Builtin.firstCells s m v).run P w1=.ok (news.take (m*s)).toArray w1
theorem srcK_elim {R:Type} {T:R→Prop} {z:R} (hz:¬T z) {s:Nat} {x:SV} {k:List SV→Nat→R} (h:T (srcK fz mu s x z k)):∃src cnt,SrcOk P val fz mu s x src cnt∧T (k src cnt):=by
 cases x with
 |un=>exact(hz h).elim
 |int=>exact(hz h).elim
 |bool=>exact(hz h).elim
 |npt=>exact(hz h).elim
 |nfn=>exact(hz h).elim
 |optr=>exact(hz h).elim
 |fn=>exact(hz h).elim
 |sym=>exact(hz h).elim
 |nmp=>exact(hz h).elim
 |mp=>exact(hz h).elim
 |nif=>exact(hz h).elim
 |mk=>exact(hz h).elim
 |str l b=>
  obtain⟨h1,h2⟩:=cond_elim hz (show T (cond (Nat.beq s 1) (digK l b [] λr=>k r l) z)from h)
  have hs:s=1:=beq_yes h1
  subst hs
  rw[digK_eq,List.append_nil]at h2
  refine⟨bcells (sB l b),l,⟨by simp[bcells,sB_length],λρ w v hr hv=>?_⟩,h2⟩
  obtain⟨_,rfl⟩:=hv
  refine⟨λw1=>by simp[Builtin.lenOf,sOf_size],.inr ⟨_,rfl⟩,(sB l b).map (λx=>.int .u8 x.toNat),?_,λm hm w1 _=>?_⟩
  ·refine All2.of_get (by simp[bcells]) λi a c ha hc=>?_
   simp only[bcells,List.getElem?_map,Option.map_eq_some_iff]at ha hc
   obtain⟨u,hu,rfl⟩:=ha
   obtain⟨u',hu',rfl⟩:=hc
   rw[hu]at hu';cases hu'
   rfl
  ·simp only[Builtin.firstCells,Sem.run_pure,Nat.mul_one]
   congr 1
   apply Array.ext'
   simp[sOf,List.map_take]
 |nsl=>exact⟨[],0,⟨by simp,λρ w v hr hv=>by
  have hv':v=.slice none 0 0:=hv
  subst hv'
  exact⟨λw1=>by simp[Builtin.lenOf],.inl ⟨_,_,_,rfl⟩,[],trivial,λm hm w1 _=>by simp[Builtin.firstCells]⟩⟩,h⟩
 |esl=>exact⟨[],0,⟨by simp,λρ w v hr hv=>by
  obtain⟨a,rfl⟩:=hv
  refine⟨λw1=>by simp[Builtin.lenOf],.inl ⟨_,_,_,rfl⟩,[],trivial,λm hm w1 _=>?_⟩
  have:m=0:=by omega
  subst this
  simp[Builtin.firstCells,loadCells,loadCellsFrom]⟩,h⟩
 |zsl=>exact⟨[],0,⟨by simp,λρ w v hr hv=>by
  obtain⟨a,c,rfl⟩:=hv
  refine⟨λw1=>by simp[Builtin.lenOf],.inl ⟨_,_,_,rfl⟩,[],trivial,λm hm w1 _=>?_⟩
  have:m=0:=by omega
  subst this
  simp[Builtin.firstCells,loadCells,loadCellsFrom]⟩,h⟩
 |osl id off len cap s'=>
  obtain⟨h1,h2⟩:=cond_elim hz (show T (cond (Nat.beq s' s) (lookAll fz mu id z λcs=>fN (Nat.mul len s) λm=>fN off λoff=>subK cs off m z λr=>k r len) z)from h)
  have hs:s'=s:=beq_yes h1
  subst hs
  obtain⟨cs,h3,h4⟩:=lookAll_elim hz h2
  simp only[fN_eq]at h4
  obtain⟨h5,h6⟩:=subK_elim hz h4
  have h5':off+len*s'≤cs.length:=h5
  refine⟨(cs.drop off).take (len*s'),len,⟨by simp;omega,λρ w v hr hv=>?_⟩,h6⟩
  obtain⟨p,c,hp,rfl,q1,q2,q3,q4⟩:=hv
  obtain⟨vs,g1,g2,g3,g4⟩:=(seen hr h3).read (P:=P) hp h5'
  refine⟨λw1=>by simp[Builtin.lenOf],.inl ⟨_,_,_,rfl⟩,vs,g2,λm hm w1 hl=>?_⟩
  have hms:m*s'≤len*s':=Nat.mul_le_mul_right _ hm
  have hlen:(vs.take (m*s')).length=m*s':=by simp;omega
  have:=run_loadCells_list (P:=P) w1 ⟨p.1,p.2+off,none⟩ (vs.take (m*s')) (λj v hj=>by
   rw[addr_add,hl.cell]
   refine g3 j v ?_
   rw[List.getElem?_take]at hj
   split at hj
   ·exact hj
   ·cases hj)
  rw[hlen]at this
  exact this
theorem cap_bound {need old:Nat} (h:old<need) (hn:True):Builtin.nextslicecap need old≤need+need/4+512:=by
 unfold Builtin.nextslicecap
 clear hn
 split
 ·omega
 ·split
  ·omega
  ·have key:∀(r c:Nat),c<need→Builtin.growBy need r c≤need+need/4+512:=by
    intro r
    induction r with
    |zero=>intro c hc;show c≤_;omega
    |succ r ih=>
     intro c hc
     simp only[Builtin.growBy,show¬c≥need by omega,if_false]
     by_cases h2:c+(c+768)/4<need
     ·exact ih _ h2
     ·cases r with
      |zero=>simp only[Builtin.growBy];omega
      |succ r=>simp only[Builtin.growBy,show c+(c+768)/4≥need by omega,if_true];omega
   exact key 4 old h
end
end Go.Ev
namespace Go.Ev
section
variable {P:Program} {val:Nat→Int} {fz:Fz} {tm:TM} {mu:St} {n:Nat} {o:Oper}
theorem append_grows {w:World} {sT xT e ty:TypeId} {i:TypeInfo} {zv:Value} {base:Option Addr} {sLen sCap cnt:Nat} {x:Value} {old news:List Value}
 (hu:P.underlying sT=some (.slice e)) (hx:(∃e',P.underlying xT=some (.slice e'))∨P.underlying xT=some .string) (hi:P.info? e=some i) (hz:∀w,(zeroValue e).run P w=.ok zv w)
 (hlen:(Builtin.lenOf x).run P w=.ok cnt w) (hgrow:sCap<sLen+cnt) (hroom:fits (sLen+cnt) i.bytes=true)
 (hold:(Builtin.firstCells i.size sLen (.slice base sLen sCap)).run P w.drew=.ok old.toArray w.drew) (hnew:(Builtin.firstCells i.size cnt x).run P w.drew=.ok news.toArray w.drew):
 ∃newCap rest,(sLen+cnt≤newCap∧newCap≤9223372036854775807)∧rest=Builtin.zeroCells zv.cells (newCap-(sLen+cnt))∧
  (Builtin.append_ #[sT,xT] ty #[.slice base sLen sCap,x]).run P w=.ok (.slice (some ⟨w.heap.size,0,none⟩) (sLen+cnt) newCap) (w.drew.alloc (.cells (old.toArray++news.toArray++rest) e)):=by
 obtain⟨hneed,hbytes,hbb⟩:=fits_elim hroom
 have hcap:=cap_bound (need:=sLen+cnt) (old:=sCap) hgrow trivial
 have hlim:¬Builtin.nextslicecap (sLen+cnt) sCap*i.bytes>2^48:=by
  have h3:(281474976710656:Nat)=2^48:=by decide
  have h1:Builtin.nextslicecap (sLen+cnt) sCap*i.bytes≤((sLen+cnt)+(sLen+cnt)/4+512)*i.bytes:=Nat.mul_le_mul_right _ hcap
  have h2:((sLen+cnt)+(sLen+cnt)/4+512)*i.bytes=(sLen+cnt)*i.bytes+(sLen+cnt)/4*i.bytes+512*i.bytes:=by rw[Nat.add_mul,Nat.add_mul]
  have h4:4*((sLen+cnt)/4*i.bytes)≤(sLen+cnt)*i.bytes:=by
   rw[←Nat.mul_assoc];exact Nat.mul_le_mul_right _ (by omega)
  rw[←h3]
  rcases hbb with h0|⟨h5,h6⟩
  ·omega
  ·generalize (sLen+cnt)*i.bytes=q at*
   generalize (sLen+cnt)/4*i.bytes=r at*
   generalize Builtin.nextslicecap (sLen+cnt) sCap*i.bytes=s at*
   omega
 generalize hnc:Question.cut (.appendCap (sLen+cnt) sCap e) (w.tape w.drawn (.appendCap (sLen+cnt) sCap e))=newCap
 have hle:sLen+cnt≤newCap:=by rw[←hnc];simp only[Question.cut];omega
 have hmx:newCap≤9223372036854775807:=by
  rw[←hnc]
  simp only[Question.cut]
  have:=Nat.mod_lt (w.tape w.drawn (.appendCap (sLen+cnt) sCap e)) (show 0<2^63-(sLen+cnt) by omega)
  omega
 refine⟨newCap,_,⟨hle,hmx⟩,rfl,?_⟩
 have hnle:¬sLen+cnt≤sCap:=by omega
 have hmax:¬((9223372036854775807:Int)<(sLen:Int)+(cnt:Int)∧i.bytes=0):=by omega
 have hz':=hz w.drew
 have hti:∀w1,(typeInfo e).run P w1=.ok i w1:=λw1=>by simp[typeInfo,hi]
 have hsz:∀w1,(sizeOf e).run P w1=.ok i.size w1:=λw1=>by simp[sizeOf,hti]
 have hund:∀w1,(underlying sT).run P w1=.ok (.slice e) w1:=λw1=>by simp[underlying,hu]
 have hch:(choose (.appendCap (sLen+cnt) sCap e)).run P w=.ok newCap w.drew:=by
  rw[run_choose];simp only[Question.forced,Bool.false_eq_true,if_false,hnc];rfl
 rcases hx with⟨e',hxd⟩|hxd
 ·have hunx:∀w1,(underlying xT).run P w1=.ok (.slice e') w1:=λw1=>by simp[underlying,hxd]
  simp only[Builtin.append_,List.getElem?_toArray,List.getElem?_cons_zero,List.getElem?_cons_succ,Sem.run_bind,hund,hunx,hsz,hlen,hnle,hti,hlim,hch,hold,hnew,hz',Result.andThen_ok,Sem.run_pure,Sem.run_ite,if_false,Bool.false_eq_true,run_askRoom,newRow,run_newObj,Bool.not_false,if_true]
  simp[hmax]
  rfl
 ·have hunx:∀w1,(underlying xT).run P w1=.ok .string w1:=λw1=>by simp[underlying,hxd]
  simp only[Builtin.append_,List.getElem?_toArray,List.getElem?_cons_zero,List.getElem?_cons_succ,Sem.run_bind,hund,hunx,hsz,hlen,hnle,hti,hlim,hch,hold,hnew,hz',Result.andThen_ok,Sem.run_pure,Sem.run_ite,if_false,Bool.false_eq_true,run_askRoom,newRow,run_newObj,Bool.not_false,if_true]
  simp[hmax]
  rfl
theorem append_fits {w w':World} {sT xT e ty:TypeId} {i:TypeInfo} {a:Addr} {sLen sCap cnt:Nat} {x:Value} {news:List Value}
 (hu:P.underlying sT=some (.slice e)) (hx:(∃e',P.underlying xT=some (.slice e'))∨P.underlying xT=some .string) (hi:P.info? e=some i)
 (hlen:(Builtin.lenOf x).run P w=.ok cnt w) (hfit:sLen+cnt≤sCap) (hnew:(Builtin.firstCells i.size cnt x).run P w=.ok news.toArray w) (hst:(storeCells (a.add (sLen*i.size)) news).run P w=.ok () w'):
 (Builtin.append_ #[sT,xT] ty #[.slice (some a) sLen sCap,x]).run P w=.ok (.slice (some a) (sLen+cnt) sCap) w':=by
 have hti:∀w1,(typeInfo e).run P w1=.ok i w1:=λw1=>by simp[typeInfo,hi]
 have hsz:∀w1,(sizeOf e).run P w1=.ok i.size w1:=λw1=>by simp[sizeOf,hti]
 have hund:∀w1,(underlying sT).run P w1=.ok (.slice e) w1:=λw1=>by simp[underlying,hu]
 rcases hx with⟨e',hxd⟩|hxd
 ·have hunx:∀w1,(underlying xT).run P w1=.ok (.slice e') w1:=λw1=>by simp[underlying,hxd]
  simp only[Builtin.append_,List.getElem?_toArray,List.getElem?_cons_zero,List.getElem?_cons_succ,Sem.run_bind,hund,hunx,hsz,hlen,hfit,hnew,Result.andThen_ok,Sem.run_pure,Sem.run_ite,Bool.false_eq_true,if_false,Bool.not_false,if_true,hst]
 ·have hunx:∀w1,(underlying xT).run P w1=.ok .string w1:=λw1=>by simp[underlying,hxd]
  simp only[Builtin.append_,List.getElem?_toArray,List.getElem?_cons_zero,List.getElem?_cons_succ,Sem.run_bind,hund,hunx,hsz,hlen,hfit,hnew,Result.andThen_ok,Sem.run_pure,Sem.run_ite,Bool.false_eq_true,if_false,Bool.not_false,if_true,hst]
theorem append_nil {w:World} {sT xT e ty:TypeId} {i:TypeInfo} {x:Value}
 (hu:P.underlying sT=some (.slice e)) (hx:(∃e',P.underlying xT=some (.slice e'))∨P.underlying xT=some .string) (hi:P.info? e=some i)
 (hlen:(Builtin.lenOf x).run P w=.ok 0 w) (hnew:(Builtin.firstCells i.size 0 x).run P w=.ok #[] w):
 (Builtin.append_ #[sT,xT] ty #[.slice none 0 0,x]).run P w=.ok (.slice none 0 0) w:=by
 have hti:∀w1,(typeInfo e).run P w1=.ok i w1:=λw1=>by simp[typeInfo,hi]
 have hsz:∀w1,(sizeOf e).run P w1=.ok i.size w1:=λw1=>by simp[sizeOf,hti]
 have hund:∀w1,(underlying sT).run P w1=.ok (.slice e) w1:=λw1=>by simp[underlying,hu]
 rcases hx with⟨e',hxd⟩|hxd
 ·have hunx:∀w1,(underlying xT).run P w1=.ok (.slice e') w1:=λw1=>by simp[underlying,hxd]
  simp[Builtin.append_,hund,hunx,hsz,hlen,hnew]
 ·have hunx:∀w1,(underlying xT).run P w1=.ok .string w1:=λw1=>by simp[underlying,hxd]
  simp[Builtin.append_,hund,hunx,hsz,hlen,hnew]
theorem move_block {ρ:Rho} {w:World} (hr:Rel val ρ fz mu w) {id:Nat} {known src:List SV} {off m:Nat} {p:Nat×Nat} {news:List Value} (hl:look mu id=some known) (hm:mkd known=false) (hn:ρ n=none) (hk:known.length=off+m) (hp:ρ id=some p)
 (hv:All2 (VR val ρ w) src news) (h1:∀x∈news,x.oneCell'=true) (hfit:p.2+off+m+src.length≤bsize w p.1):
 ∃w',(storeCells ⟨p.1,p.2+off+m,none⟩ news).run P w=.ok () w'∧Ext ρ (upd ρ n (p.1,p.2+off)) n (n+1)∧Rel val (upd ρ n (p.1,p.2+off)) fz ((n,known.drop off++src)::killS mu id) w'∧Fr ρ mu w w'∧
  NewB ρ (upd ρ n (p.1,p.2+off)) mu ((n,known.drop off++src)::killS mu id) w∧NewI mu ((n,known.drop off++src)::killS mu id) n (n+1)∧(∀b,bsize w' b=bsize w b):=by
 obtain⟨q,C,ty,fr,hq,hC,hfr,hsz,hcs⟩:=(hr.rm id known hl).plain hm
 rw[hp]at hq;cases hq
 have hlen:=hv.length
 have hbs0:bsize w p.1=C.size:=by unfold bsize;rw[hC]
 rw[hbs0]at hfit
 have hrun:=run_storeFr P p.1 (p.2+off+m) ty fr news 0 C w hC (λx _ h2=>hfr.no (by omega)) (by omega) h1
 simp only[Nat.add_zero]at hrun
 generalize hD:(C.toList.take (p.2+off+m)++news++C.toList.drop (p.2+off+m+news.length)).toArray=D at hrun
 have hDs:D.size=C.size:=by rw[←hD];simp;omega
 have hDget:∀i:Nat,D[i]?=if i<p.2+off+m then C[i]? else if i<p.2+off+m+news.length then news[i-(p.2+off+m)]? else C[i]?:=by
  intro i
  rw[←hD]
  simp only[List.getElem?_toArray]
  by_cases a1:i<p.2+off+m
  ·rw[List.append_assoc,List.getElem?_append_left (by simp;omega)]
   simp[a1]
  ·rw[List.append_assoc,List.getElem?_append_right (by simp;omega)]
   simp only[a1,if_false,List.length_take,Array.length_toList]
   rw[show min (p.2+off+m) C.size=p.2+off+m by omega]
   by_cases a2:i<p.2+off+m+news.length
   ·rw[List.getElem?_append_left (by omega)];simp[a2]
   ·rw[List.getElem?_append_right (by omega)]
    simp only[a2,if_false,List.getElem?_drop,Array.getElem?_toList]
    congr 1;omega
 have hbs:∀b,bsize (w.setRow p.1 D) b=bsize w b:=setRow_bsize hC hDs
 have hbs':∀b,bsize w b≤bsize (w.setRow p.1 D) b:=λb=>Nat.le_of_eq (hbs b).symm
 have hother:∀b,b≠p.1→(w.setRow p.1 D).heap[b]?=w.heap[b]?:=λb hb=>setRow_other w p.1 b D hb
 have hself:(w.setRow p.1 D).heap[p.1]?=some (.cells D ty fr):=setRow_heap w p.1 C D ty fr hC
 have hup:=λid q hq=>upd_old (p:=(p.1,p.2+off)) hn id q hq
 have hfn:fz n=none:=by
  cases e:fz n with
  |none=>rfl
  |some c=>obtain⟨p,o,h1,_⟩:=(hr.rf n c e).at;rw[hn]at h1;cases h1
 have keepOwn:∀id' c,id'≠id→((look mu id').isSome∨(fz id').isSome)→OwnG val ρ w id' c→OwnG val (upd ρ n (p.1,p.2+off)) (w.setRow p.1 D) id' c:=by
  intro id' c hne hlv hown
  refine hown.mono hup hbs' λq hq=>hother _ λe=>hne ?_
  exact(hr.dj id id' p q (by simp[hl]) hlv hp hq e.symm).symm
 have keepF:∀id' c,id'≠id→((look mu id').isSome∨(fz id').isSome)→OwnF val ρ w id' c→OwnF val (upd ρ n (p.1,p.2+off)) (w.setRow p.1 D) id' c:=by
  intro id' c hne hlv hown
  refine hown.mono hup hbs' λq hq=>hother _ λe=>hne ?_
  exact(hr.dj id id' p q (by simp[hl]) hlv hp hq e.symm).symm
 have hlk:∀id' c,look ((n,known.drop off++src)::killS mu id) id'=some c→id'=n∧c=known.drop off++src∨id'≠n∧id'≠id∧look mu id'=some c:=by
  intro id' c h
  rw[look_cons]at h
  by_cases e:n=id'
  ·simp only[e,if_true,Option.some.injEq]at h;exact .inl ⟨e.symm,h.symm⟩
  ·simp only[e,if_false,look_killS]at h
   split at h
   ·cases h
   ·rename_i e2;exact .inr ⟨λx=>e x.symm,λx=>e2 x.symm,h⟩
 refine⟨w.setRow p.1 D,hrun,upd_ext hn,⟨λid' c h=>?_,λid' c h=>?_,λid' c h=>?_,λa b q q' ha hb hq hq' he=>?_⟩,
  ⟨rfl,rfl,rfl,by simp,λb _ hb=>hother b λe=>hb id p (by simp[hl]) hp e.symm,hbs'⟩,λa q ha hq=>?_,λa ha=>?_,hbs⟩
 ·refine keepF id' c (λe=>?_) (.inr (by simp[h])) (hr.rf id' c h)
  subst e;have:=hr.dm id' known hl;rw[this]at h;cases h
 ·rcases hlk id' c h with⟨rfl,rfl⟩|⟨e1,e2,e3⟩
  ·refine .inl ⟨(p.1,p.2+off),D,ty,fr,upd_same _ _ _,hself,by rw[hDs];exact hfr,by simp;omega,λi s hi=>?_⟩
   show∃v,D[p.2+off+i]?=some v∧_
   rw[hDget]
   by_cases a1:i<m
   ·simp only[show p.2+off+i<p.2+off+m by omega,if_true]
    rw[List.getElem?_append_left (by simp;omega),List.getElem?_drop]at hi
    obtain⟨v,e,r⟩:=hcs (off+i) s hi
    exact⟨v,by rw[Nat.add_assoc];exact e,r.mono hup hbs'⟩
   ·simp only[show¬p.2+off+i<p.2+off+m by omega,if_false]
    rw[List.getElem?_append_right (by simp;omega)]at hi
    simp only[List.length_drop,hk]at hi
    obtain⟨v,e,r⟩:=hv.get hi
    have hlt:=(List.getElem?_eq_some_iff.1 hi).1
    simp only[show p.2+off+i<p.2+off+m+news.length by omega,if_true]
    exact⟨v,by rw[show p.2+off+i-(p.2+off+m)=i-(off+m-off) by omega];exact e,r.mono hup hbs'⟩
  ·exact keepOwn id' c e2 (.inl (by simp[e3])) (hr.rm id' c e3)
 ·rcases hlk id' c h with⟨rfl,rfl⟩|⟨e1,e2,e3⟩
  ·exact hfn
  ·exact hr.dm id' c e3
 ·have key:∀a q,((look ((n,known.drop off++src)::killS mu id) a).isSome∨(fz a).isSome)→upd ρ n (p.1,p.2+off) a=some q→a=n∧q.1=p.1∨a≠n∧a≠id∧ρ a=some q∧((look mu a).isSome∨(fz a).isSome):=by
   intro a q h hq
   by_cases e:a=n
   ·left;subst e;rw[upd_same]at hq;cases hq;exact⟨rfl,rfl⟩
   ·right
    have hq2:ρ a=some q:=by simpa[upd,e]using hq
    rcases h with h|h
    ·obtain⟨c,hc⟩:=Option.isSome_iff_exists.1 h
     rcases hlk a c hc with⟨x,_⟩|⟨_,x2,x3⟩
     ·exact(e x).elim
     ·exact⟨e,x2,hq2,.inl (by simp[x3])⟩
    ·refine⟨e,λx=>?_,hq2,.inr h⟩
     subst x;have:=hr.dm a known hl;rw[this]at h;cases h
  rcases key a q (.inl ha) hq with⟨x1,x2⟩|⟨x1,x2,x3,x4⟩
  ·rcases key b q' hb hq' with⟨y1,y2⟩|⟨y1,y2,y3,y4⟩
   ·rw[x1,y1]
   ·exact(y2 (hr.dj id b p q' (by simp[hl]) y4 hp y3 (by omega)).symm).elim
  ·rcases key b q' hb hq' with⟨y1,y2⟩|⟨y1,y2,y3,y4⟩
   ·exact(x2 (hr.dj id a p q (by simp[hl]) x4 hp x3 (by omega)).symm).elim
   ·have hm:(look mu a).isSome:=by
     obtain⟨c,hc⟩:=Option.isSome_iff_exists.1 ha
     rcases hlk a c hc with⟨x,_⟩|⟨_,_,z3⟩
     ·exact(x1 x).elim
     ·simp[z3]
    exact hr.dj a b q q' hm y4 x3 y3 he
 ·obtain⟨c,hc⟩:=Option.isSome_iff_exists.1 ha
  rcases hlk a c hc with⟨rfl,_⟩|⟨x1,x2,x3⟩
  ·rw[upd_same]at hq;cases hq
   exact .inr ⟨id,p,by simp[hl],hp,rfl⟩
  ·exact .inr ⟨a,q,by simp[x3],by simpa[upd,x1]using hq,rfl⟩
 ·obtain⟨c,hc⟩:=Option.isSome_iff_exists.1 ha
  rcases hlk a c hc with⟨rfl,_⟩|⟨x1,x2,x3⟩
  ·exact .inr ⟨Nat.le_refl _,Nat.lt_succ_self _⟩
  ·exact .inl (by simp[x3])
theorem Rel.kill {ρ:Rho} {w:World} (hr:Rel val ρ fz mu w) (id:Nat):Rel val ρ fz (killS mu id) w:=by
 have h:∀a c,look (killS mu id) a=some c→look mu a=some c:=λa c h=>by
  rw[look_killS]at h
  split at h
  ·cases h
  ·exact h
 have h':∀a,(look (killS mu id) a).isSome→(look mu a).isSome:=λa ha=>by
  obtain⟨c,hc⟩:=Option.isSome_iff_exists.1 ha
  simp[h a c hc]
 exact⟨hr.rf,λa c hc=>hr.rm a c (h a c hc),λa c hc=>hr.dm a c (h a c hc),λa b p q ha hb=>hr.dj a b p q (h' a ha) (hb.imp (h' b) (λx=>x))⟩
end
end Go.Ev
namespace Go.Ev
section
variable {P:Program} {val:Nat→Int} {fz:Fz} {tm:TM} {mu:St} {n:Nat} {o:Oper}
theorem Fr.wider {ρ:Rho} {mu1:St} {w w':World} (h:Fr ρ mu1 w w') (hs:∀id,(look mu1 id).isSome→(look mu id).isSome):Fr ρ mu w w':=
 ⟨h.os,h.tape,h.output,h.size,λb hb hn=>h.keep b hb λid p hl hp=>hn id p (hs id hl) hp,h.shape⟩
theorem NewB.wider {ρ ρ':Rho} {mu1 mu':St} {w:World} (h:NewB ρ ρ' mu1 mu' w) (hs:∀id,(look mu1 id).isSome→(look mu id).isSome):NewB ρ ρ' mu mu' w:=
 λid p hl hp=>(h id p hl hp).imp (λx=>x) λ⟨a,q,h1,h2,h3⟩=>⟨a,q,hs a h1,h2,h3⟩
theorem NewI.wider {mu1 mu':St} {n':Nat} (h:NewI mu1 mu' n n') (hs:∀id,(look mu1 id).isSome→(look mu id).isSome):NewI mu mu' n n':=
 λid hl=>(h id hl).imp (hs id) (λx=>x)
theorem zeroCells_size (z:Array Value) (m:Nat):(Builtin.zeroCells z m).size=m*z.size:=by simp[Builtin.zeroCells]
structure AppT (P:Program) (c:Call) (x y:Operand) (s b:Nat) (sT xT e:TypeId) (i:TypeInfo) (zv:Value):Prop where
 callee:c.callee=.builtin .append
 types:c.argTypes=#[sT,xT]
 args:c.args=#[x,y]
 under:P.underlying sT=some (.slice e)
 src:(∃e',P.underlying xT=some (.slice e'))∨P.underlying xT=some .string
 info:P.info? e=some i
 size:i.size=s
 bytes:i.bytes=b
 zero:∀w,(zeroValue e).run P w=.ok zv w
 zsize:zv.cells.size=s
theorem app_exec {c:Call} {x y:Operand} {s b:Nat} {sT xT e:TypeId} {i:TypeInfo} {zv:Value} (ht:AppT P c x y s b sT xT e i zv) (ho:o.op=.call c) {a:Act} {w w':World} {v:Value}
 (h:(Builtin.append_ #[sT,xT] o.type #[a.eval x,a.eval y]).run P w=.ok v w'):(execOp a.eval o).run P w=.ok (.value v) w':=by
 simp[execOp,ho,resolve,ht.callee,invoke,builtin,ht.types,ht.args,h]
theorem sound_appZero {c:Call} {x y:Operand} {x' y':Od} {s b:Nat} {sT xT e:TypeId} {i:TypeInfo} {zv:Value} {sx sy:SV} {src:List SV} (ht:AppT P c x y s b sT xT e i zv) (ho:o.op=.call c)
 (hx:od P x=some x') (hy:od P y=some y') (ex:ev tm x'=.one sx) (ey:ev tm y'=.one sy) (hsrc:SrcOk P val fz mu s sy src 0) (hk:sx=.nsl∨sx=.esl∨∃id off len cap s',sx=.osl id off len cap s'):Sound P val fz tm mu n o (.one sx) mu n:=by
 refine sound_pure λρ w a hr hop=>?_
 have g1:=hop x x' (by simp[ho,Op.operands,Call.operands,ht.callee,ht.args]) hx
 have g2:=hop y y' (by simp[ho,Op.operands,Call.operands,ht.callee,ht.args]) hy
 rw[ex]at g1;rw[ey]at g2
 obtain⟨hl,_,news,hv,hf⟩:=hsrc.2 ρ w _ hr g2
 have hf0:=hf 0 (Nat.le_refl _) w (Like.refl w)
 simp only[Nat.zero_mul,List.take_zero]at hf0
 rw[←ht.size]at hf0
 refine⟨a.eval x,app_exec ht ho ?_,g1⟩
 rcases hk with rfl|rfl|⟨id,off,len,cap,s',rfl⟩
 ·have g1':a.eval x=.slice none 0 0:=g1
  rw[g1']
  exact append_nil ht.under ht.src ht.info (hl w) hf0
 ·obtain⟨ad,g1'⟩:=g1
  rw[g1']
  exact append_fits ht.under ht.src ht.info (hl w) (Nat.le_refl _) hf0 (by simp[storeCells])
 ·obtain⟨p,c',_,g1',h1,h2,_⟩:=g1
  rw[g1']
  exact append_fits ht.under ht.src ht.info (hl w) (by omega) hf0 (by simp[storeCells])
theorem sound_appNew {c:Call} {x y:Operand} {x' y':Od} {s b:Nat} {sT xT e:TypeId} {i:TypeInfo} {zv:Value} {sx sy:SV} {src:List SV} {cnt:Nat} (ht:AppT P c x y s b sT xT e i zv) (ho:o.op=.call c)
 (hx:od P x=some x') (hy:od P y=some y') (ex:ev tm x'=.one sx) (ey:ev tm y'=.one sy) (hsrc:SrcOk P val fz mu s sy src cnt) (hk:sx=.nsl∨sx=.esl) (h0:cnt≠0) (hroom:fits cnt b=true):
 Sound P val fz tm mu n o (.one (.osl n 0 cnt cnt s)) ((n,src)::mu) (n+1):=by
 refine sound_of_run (Nat.le_succ _) λρ w a hr hop hfr=>?_
 have g1:=hop x x' (by simp[ho,Op.operands,Call.operands,ht.callee,ht.args]) hx
 have g2:=hop y y' (by simp[ho,Op.operands,Call.operands,ht.callee,ht.args]) hy
 rw[ex]at g1;rw[ey]at g2
 obtain⟨hl,_,news,hv,hf⟩:=hsrc.2 ρ w _ hr g2
 have hnl:news.length=cnt*s:=by rw[←hv.length,hsrc.1]
 have hf1:=hf cnt (Nat.le_refl _) w.drew (Like.drew w)
 rw[←hnl,List.take_length,←ht.size]at hf1
 have hbase:∃base:Option Addr,a.eval x=.slice base 0 0:=by
  rcases hk with rfl|rfl
  ·exact⟨none,g1⟩
  ·obtain⟨ad,g⟩:=g1;exact⟨some ad,g⟩
 obtain⟨base,hbase⟩:=hbase
 have hold:(Builtin.firstCells i.size 0 (.slice base 0 0)).run P w.drew=.ok ([]:List Value).toArray w.drew:=by
  cases base<;>simp[Builtin.firstCells,loadCells,loadCellsFrom]
 obtain⟨newCap,rest,⟨c1,c1'⟩,c2,c3⟩:=append_grows (P:=P) (w:=w) (ty:=o.type) (sLen:=0) (sCap:=0) (base:=base) ht.under ht.src ht.info ht.zero (hl w) (by omega) (by rw[ht.bytes];simpa using hroom) hold hf1
 rw[←hbase]at c3
 simp only[Nat.zero_add]at c1 c2 c3
 have hn:=hfr n (Nat.le_refl _) (Nat.lt_succ_self _)
 have hsz:(([]:List Value).toArray++news.toArray++rest).size=newCap*s:=by
  rw[c2]
  simp only[Array.size_append,zeroCells_size,ht.zsize,List.size_toArray,List.length_nil,hnl]
  rw[Nat.zero_add,←Nat.add_mul];congr 1;omega
 obtain⟨b1,b2,b3,b4,b5,b6⟩:=new_block (ty:=e) (Like.drew w) hr hn (cs:=src) (C:=([]:List Value).toArray++news.toArray++rest) (by rw[hsrc.1,hsz];exact Nat.mul_le_mul_right _ c1)
  (λj s' hj=>by
   obtain⟨v,ev',rv⟩:=hv.get hj
   refine⟨v,?_,rv⟩
   have hlt:=(List.getElem?_eq_some_iff.1 ev').1
   rw[Array.getElem?_append_left (by simpa using hlt)]
   simpa using ev')
 refine⟨_,_,.inl (app_exec ht ho c3),_,b1,b2,⟨(w.heap.size,0),newCap,upd_same _ _ _,rfl,Nat.le_refl _,c1,?_,c1'⟩,b3,b4,b5⟩
 rw[b6,hsz];simp
theorem sound_appOwn {c:Call} {x y:Operand} {x' y':Od} {s b id off len cap:Nat} {sT xT e:TypeId} {i:TypeInfo} {zv:Value} {sy:SV} {src known:List SV} {cnt:Nat} (ht:AppT P c x y s b sT xT e i zv) (ho:o.op=.call c)
 (hx:od P x=some x') (hy:od P y=some y') (ex:ev tm x'=.one (.osl id off len cap s)) (ey:ev tm y'=.one sy) (hsrc:SrcOk P val fz mu s sy src cnt) (hks:knownAll src=true) (h0:cnt≠0) (hroom:fits (len+cnt) b=true)
 (hl:look mu id=some known) (hm:mkd known=false) (hkl:known.length=off+len*s):
 Sound P val fz tm mu n o (.one (.osl n 0 (len+cnt) (len+cnt) s)) ((n,known.drop off++src)::killS mu id) (n+1):=by
 refine sound_of_run (Nat.le_succ _) λρ w a hr hop hfr=>?_
 have g1:=hop x x' (by simp[ho,Op.operands,Call.operands,ht.callee,ht.args]) hx
 have g2:=hop y y' (by simp[ho,Op.operands,Call.operands,ht.callee,ht.args]) hy
 rw[ex]at g1;rw[ey]at g2
 obtain⟨p,cc,hp,g1',q1,q2,q3,q4⟩:=g1
 obtain⟨hlen,_,news,hv,hf⟩:=hsrc.2 ρ w _ hr g2
 have hnl:news.length=cnt*s:=by rw[←hv.length,hsrc.1]
 have hn:=hfr n (Nat.le_refl _) (Nat.lt_succ_self _)
 by_cases hfit:len+cnt≤cc
 ·have hf1:=hf cnt (Nat.le_refl _) w (Like.refl w)
  rw[←hnl,List.take_length,←ht.size]at hf1
  have hfits:p.2+off+len*s+src.length≤bsize w p.1:=by
   rw[hsrc.1]
   have h1:len*s+cnt*s=(len+cnt)*s:=by rw[Nat.add_mul]
   have h2:(len+cnt)*s≤cc*s:=Nat.mul_le_mul_right _ hfit
   omega
  obtain⟨w',m1,m2,m3,m4,m5,m6,m7⟩:=move_block (P:=P) hr hl hm hn hkl hp hv (known_all hv hks) hfits
  have hst:(storeCells ((⟨p.1,p.2+off,none⟩:Addr).add (len*i.size)) news).run P w=.ok () w':=by rw[addr_add,ht.size];exact m1
  have hap:=append_fits (P:=P) (ty:=o.type) ht.under ht.src ht.info (hlen w) hfit hf1 hst
  rw[←g1']at hap
  refine⟨_,_,.inl (app_exec ht ho hap),_,m2,m3,⟨(p.1,p.2+off),cc,upd_same _ _ _,rfl,Nat.le_refl _,hfit,?_,q4⟩,m4,m5,m6⟩
  rw[m7];simpa using q3
 ·have hf1:=hf cnt (Nat.le_refl _) w.drew (Like.drew w)
  rw[←hnl,List.take_length,←ht.size]at hf1
  obtain⟨old,o1,o2,o3,o4⟩:=((hr.rm id known hl).plain hm).r.read (P:=P) hp (off:=off) (n:=len*s) (by omega)
  have hold:(Builtin.firstCells i.size len (.slice (some ⟨p.1,p.2+off,none⟩) len cc)).run P w.drew=.ok old.toArray w.drew:=by
   have:=run_loadCells_list (P:=P) w.drew ⟨p.1,p.2+off,none⟩ old (λj v hj=>by rw[addr_add];exact o3 j v hj)
   rw[o1]at this
   simp only[Builtin.firstCells,ht.size]
   exact this
  have o2':All2 (VR val ρ w) (known.drop off) old:=by
   have:(known.drop off).take (len*s)=known.drop off:=List.take_of_length_le (by simp;omega)
   rwa [this]at o2
  obtain⟨newCap,rest,⟨c1,c1'⟩,c2,c3⟩:=append_grows (P:=P) (w:=w) (ty:=o.type) ht.under ht.src ht.info ht.zero (hlen w) (by omega) (by rw[ht.bytes];exact hroom) hold hf1
  rw[←g1']at c3
  have hsz:(old.toArray++news.toArray++rest).size=newCap*s:=by
   rw[c2]
   simp only[Array.size_append,zeroCells_size,ht.zsize,List.size_toArray,hnl,o1]
   rw[←Nat.add_mul,←Nat.add_mul];congr 1;omega
  have hall:All2 (VR val ρ w) (known.drop off++src) (old++news):=o2'.append hv
  have hkmono:∀a,(look (killS mu id) a).isSome→(look mu a).isSome:=λa ha=>by
   rw[look_killS]at ha
   split at ha
   ·cases ha
   ·exact ha
  obtain⟨b1,b2,b3,b4,b5,b6⟩:=new_block (ty:=e) (Like.drew w) (hr.kill id) hn (cs:=known.drop off++src) (C:=old.toArray++news.toArray++rest) (by
   rw[hsz]
   simp only[List.length_append,List.length_drop,hkl,hsrc.1]
   have:off+len*s-off+cnt*s=(len+cnt)*s:=by rw[Nat.add_mul];omega
   rw[this];exact Nat.mul_le_mul_right _ c1)
   (λj s' hj=>by
    obtain⟨v,ev',rv⟩:=hall.get hj
    refine⟨v,?_,rv⟩
    have hlt:=(List.getElem?_eq_some_iff.1 ev').1
    rw[Array.getElem?_append_left (by simpa using hlt)]
    simpa using ev')
  refine⟨_,_,.inl (app_exec ht ho c3),_,b1,b2,⟨(w.heap.size,0),newCap,upd_same _ _ _,rfl,Nat.le_refl _,c1,?_,c1'⟩,b3.wider hkmono,b4.wider hkmono,b5.wider hkmono⟩
  rw[b6,hsz];simp
theorem sound_copy {c:Call} {x y:Operand} {x' y':Od} {s id off len cap:Nat} {sT xT e:TypeId} {sy:SV} {src known:List SV} {cnt:Nat} (ho:o.op=.call c) (hc:c.callee=.builtin .copy) (hty:c.argTypes=#[sT,xT]) (hargs:c.args=#[x,y])
 (hu:P.underlying sT=some (.slice e)) (hs:szOf P e=some s) (hx:od P x=some x') (hy:od P y=some y') (ex:ev tm x'=.one (.osl id off len cap s)) (ey:ev tm y'=.one sy) (hsrc:SrcOk P val fz mu s sy src cnt)
 (hks:knownAll (src.take (Nat.min cnt len*s))=true) (hl:look mu id=some known) (hm:mkd known=false) (hb:off+(src.take (Nat.min cnt len*s)).length≤known.length):
 Sound P val fz tm mu n o (.one (.int .i64 (Int.ofNat (Nat.min cnt len)))) (putS mu id (over known off (src.take (Nat.min cnt len*s)))) n:=by
 refine sound_of_run (Nat.le_refl _) λρ w a hr hop _=>?_
 have g1:=hop x x' (by simp[ho,Op.operands,Call.operands,hc,hargs]) hx
 have g2:=hop y y' (by simp[ho,Op.operands,Call.operands,hc,hargs]) hy
 rw[ex]at g1;rw[ey]at g2
 obtain⟨p,cc,hp,g1',q1,q2,q3,q4⟩:=g1
 obtain⟨hlen,_,news,hv,hf⟩:=hsrc.2 ρ w _ hr g2
 have hf1:=hf (Nat.min cnt len) (Nat.min_le_left _ _) w (Like.refl w)
 have hv':=hv.take (Nat.min cnt len*s)
 obtain⟨q,w',e1,e2,e3,e4,e5,e6,e7⟩:=put_block (P:=P) (n:=n) (n':=n) hr hl hm hb hv' (known_all hv' hks)
 rw[hp]at e1;cases e1
 have hszr:=szOf_run hs w
 refine⟨.int .i64 (Int.ofNat (Nat.min cnt len)),w',.inl ?_,ρ,Ext.refl _ _ _,e3,rfl,e4,e5,e6⟩
 have hund:(underlying sT).run P w=.ok (.slice e) w:=by simp[underlying,hu]
 have key:(Builtin.copy_ #[sT,xT] o.type #[.slice (some ⟨p.1,p.2+off,none⟩) len cc,a.eval y]).run P w=.ok (goInt (Nat.min cnt len)) w':=by
  simp only[Builtin.copy_,List.getElem?_toArray,List.getElem?_cons_zero,List.getElem?_cons_succ,Sem.run_bind,hund,Result.andThen_ok,hlen w,hszr,hf1,e2,Sem.run_pure]
 rw[←g1']at key
 simp[execOp,ho,resolve,hc,invoke,builtin,hty,hargs,key,goInt]
end
end Go.Ev
namespace Go.Ev
section
variable {R:Type} {T:R→Prop} {z:R} {P:Program} {val:Nat→Int} {fz:Fz} {tm:TM} {mu:St} {n:Nat} {o:Oper}
def CallSound (T:R→Prop) (P:Program) (val:Nat→Int) (call:CallT R):Prop:=
 ∀f args fz mu n k,T (call f args fz mu n k)→∃v mu' n',T (k v mu' n')∧hasBody P f=true∧n≤n'∧∀ρ w (xs:List Value),Rel val ρ fz mu w→All2 (AVR val ρ w) args xs→FreshN ρ n n'→
  Calls P f xs.toArray w λe w'=>∃x,e=.returned x∧Post val ρ fz mu n w v mu' n' x w'
theorem keepM_elim {n0 m:Nat}:∀{s:St} {k:St→R},T (keepM n0 m s k)→∃s',T (k s')∧∀id,look s' id=if Nat.ble n0 id&&!(bitIs n0 m id)then none else look s id
 |[],k,h=>⟨[],h,λid=>by simp[look_nil]⟩
 |p::s,k,h=>by
  have h':T (cond (Nat.ble n0 p.1) (cond (bitIs n0 m p.1) (keepM n0 m s λr=>k (p::r)) (keepM n0 m s k)) (keepM n0 m s λr=>k (p::r))):=h
  have yes:(Nat.ble n0 p.1&&!(bitIs n0 m p.1))=false→T (keepM n0 m s λr=>k (p::r))→∃s',T (k s')∧∀id,look s' id=if Nat.ble n0 id&&!(bitIs n0 m id)then none else look (p::s) id:=by
   intro hp h
   obtain⟨s',h1,h2⟩:=keepM_elim (k:=λr=>k (p::r)) h
   refine⟨p::s',h1,λid=>?_⟩
   rw[look_cons,look_cons,h2]
   by_cases he:p.1=id
   ·subst he;simp only[if_true,hp,Bool.false_eq_true,if_false]
   ·simp only[he,if_false]
  cases e1:Nat.ble n0 p.1 with
  |false=>rw[e1]at h';exact yes (by rw[e1];rfl) h'
  |true=>
   rw[e1]at h'
   cases e2:bitIs n0 m p.1 with
   |true=>rw[e2]at h';exact yes (by rw[e1,e2];rfl) h'
   |false=>
    rw[e2]at h'
    obtain⟨s',h1,h2⟩:=keepM_elim h'
    refine⟨s',h1,λid=>?_⟩
    rw[look_cons,h2]
    by_cases he:p.1=id
    ·subst he;simp[e1,e2]
    ·simp only[he,if_false]
theorem capsM_elim {n0:Nat}:∀{l:List (Nat×Nat)} {m:Nat} {k:Nat→R},T (capsM n0 l m k)→∃m,T (k m)
 |[],m,k,h=>⟨m,h⟩
 |p::l,m,k,h=>by
  have h':T (cond (Nat.ble n0 p.1) (fN (Nat.lor m (Nat.shiftLeft 1 (Nat.sub p.1 n0))) λm=>capsM n0 l m k) (capsM n0 l m k)):=h
  cases e:Nat.ble n0 p.1 with
  |true=>rw[e]at h';have h'':T (fN (Nat.lor m (Nat.shiftLeft 1 (Nat.sub p.1 n0))) λm=>capsM n0 l m k):=h';rw[fN_eq]at h'';exact capsM_elim h''
  |false=>rw[e]at h';exact capsM_elim h'
theorem idsM_elim {n0:Nat}:∀{l:List SV} {m:Nat} {k:Nat→R},T (idsM n0 l m k)→∃m,T (k m)
 |[],m,k,h=>⟨m,h⟩
 |v::l,m,k,h=>by
  have bit:∀id,T (bitK n0 id m λm=>idsM n0 l m k)→∃m,T (k m):=by
   intro id h
   have h':T (cond (Nat.ble n0 id) (fN (Nat.lor m (Nat.shiftLeft 1 (Nat.sub id n0))) λm=>idsM n0 l m k) (idsM n0 l m k)):=h
   cases e:Nat.ble n0 id with
   |true=>rw[e]at h';have h'':T (fN (Nat.lor m (Nat.shiftLeft 1 (Nat.sub id n0))) λm=>idsM n0 l m k):=h';rw[fN_eq]at h'';exact idsM_elim h''
   |false=>rw[e]at h';exact idsM_elim h'
  cases v with
  |optr id o=>exact bit id h
  |osl id o a b c=>exact bit id h
  |mp id=>exact bit id h
  |fn f cs=>
   obtain⟨m',h1⟩:=capsM_elim (show T (capsM n0 cs m λm=>idsM n0 l m k)from h)
   exact idsM_elim h1
  |_=>exact idsM_elim (l:=l) h
theorem idsAV_elim {n0:Nat} {v:AV} {k:Nat→R} (h:T (v.idsM n0 k)):∃m,T (k m):=by
 cases v with
 |one s=>exact idsM_elim (l:=[s]) h
 |ag l=>exact idsM_elim (l:=l) h
 |tp l=>
  have key:∀(l:List CV) (m:Nat),T (List.rec (motive:=λ_=>Nat→R) k (λc _ ih m=>CV.rec (motive:=λ_=>R) (λs=>Ev.idsM n0 [s] m ih) (λl=>Ev.idsM n0 l m ih) c) l m)→∃m,T (k m):=by
   intro l
   induction l with
   |nil=>exactλm h=>⟨m,h⟩
   |cons c l ih=>
    intro m h
    cases c with
    |one s=>obtain⟨m',h1⟩:=idsM_elim (l:=[s]) h;exact ih m' h1
    |ag l'=>obtain⟨m',h1⟩:=idsM_elim (l:=l') h;exact ih m' h1
  exact key l 0 h
theorem elderM_elim {n0:Nat}:∀{s:St} {m:Nat} {k:Nat→R},T (elderM n0 s m k)→∃m,T (k m)
 |[],m,k,h=>⟨m,h⟩
 |p::s,m,k,h=>by
  have h':T (cond (Nat.ble n0 p.1) (elderM n0 s m k) (idsM n0 p.2 m λm=>elderM n0 s m k)):=h
  cases e:Nat.ble n0 p.1 with
  |true=>rw[e]at h';exact elderM_elim (s:=s) h'
  |false=>rw[e]at h';obtain⟨m',h1⟩:=idsM_elim h';exact elderM_elim (s:=s) h1
theorem passM_elim {n0:Nat}:∀{s:St} {m:Nat} {k:Nat→R},T (passM n0 s m k)→∃m,T (k m)
 |[],m,k,h=>⟨m,h⟩
 |p::s,m,k,h=>by
  have h':T (cond (Nat.ble n0 p.1) (cond (bitIs n0 m p.1) (idsM n0 p.2 m λm=>passM n0 s m k) (passM n0 s m k)) (passM n0 s m k)):=h
  cases e:Nat.ble n0 p.1 with
  |false=>rw[e]at h';exact passM_elim (s:=s) h'
  |true=>
   rw[e]at h'
   cases e2:bitIs n0 m p.1 with
   |false=>rw[e2]at h';exact passM_elim (s:=s) h'
   |true=>rw[e2]at h';obtain⟨m',h1⟩:=idsM_elim h';exact passM_elim (s:=s) h1
theorem fixM_elim {n0:Nat} {s:St}:∀{d m:Nat} {k:Nat→R},T (fixM n0 s d m k)→∃m,T (k m)
 |0,m,k,h=>⟨m,h⟩
 |d+1,m,k,h=>by
  obtain⟨m',h1⟩:=passM_elim (show T (passM n0 s m λm'=>cond (Nat.beq m m') (k m) (fixM n0 s d m' k))from h)
  cases e:Nat.beq m m' with
  |true=>rw[e]at h1;exact⟨m,h1⟩
  |false=>rw[e]at h1;exact fixM_elim h1
theorem sweepK_elim {n0:Nat} {v:AV} {s:St} {k:St→R} (h:T (sweepK n0 v s k)):∃s',T (k s')∧∀id c,look s' id=some c→look s id=some c:=by
 obtain⟨m1,h1⟩:=idsAV_elim h
 obtain⟨m2,h2⟩:=elderM_elim h1
 obtain⟨m3,h3⟩:=fixM_elim h2
 obtain⟨s',h4,h5⟩:=keepM_elim h3
 refine⟨s',h4,λid c hc=>?_⟩
 rw[h5]at hc
 split at hc
 ·cases hc
 ·exact hc
theorem sweepG_elim {sw:Bool} {n0:Nat} {v:AV} {s:St} {k:St→R} (h:T (sweepG sw n0 v s k)):∃s',T (k s')∧∀id c,look s' id=some c→look s id=some c:=by
 cases sw with
 |true=>exact sweepK_elim h
 |false=>exact⟨s,h,λ_ _ h=>h⟩
theorem argsK_eq {l:List Od} {c:List AV} {k:List AV→R}:argsK tm l c k=k (l.map (ev tm)++c):=by
 induction l generalizing k with
 |nil=>rfl
 |cons h t ih=>exact ih
theorem caps_vals {ρ:Rho} {w:World} {cs:List (Nat×Nat)} {vs:List Value} (h:All2 (CapR ρ) cs vs):All2 (AVR val ρ w) (capVals cs) vs:=by
 induction cs generalizing vs with
 |nil=>cases vs with
  |nil=>trivial
  |cons _ _=>exact h.elim
 |cons c cs ih=>cases vs with
  |nil=>exact h.elim
  |cons v vs=>
   obtain⟨q,hq,e⟩:=h.1
   exact⟨⟨q,hq,e⟩,ih h.2⟩
theorem Rel.ro {ρ:Rho} {w:World} (hr:Rel val ρ fz mu w):Rel val ρ (with' mu fz) [] w:=by
 refine⟨λid cs h=>?_,λid cs h=>(by cases h),λid cs h=>(by cases h),λid id' p p' h=>(by cases h)⟩
 rw[with_eq]at h
 cases e:look mu id with
 |some c=>rw[e]at h;simp only[Option.some.injEq]at h;subst h;exact(hr.rm id c e).f
 |none=>rw[e]at h;exact hr.rf id cs h
theorem join_new {ρ ρ':Rho} {w w':World} {new new':St} {n':Nat} (hr:Rel val ρ fz mu w) (he:Ext ρ ρ' n n') (hr':Rel val ρ' (with' mu fz) new w') (hf:Fr ρ [] w w') (hb:NewB ρ ρ' [] new w) (hi:NewI [] new n n')
 (hsub:∀id c,look new' id=some c→look new id=some c):
 Rel val ρ' fz (new'++mu) w'∧Fr ρ mu w w'∧NewB ρ ρ' mu (new'++mu) w∧NewI mu (new'++mu) n n':=by
 have hsubI:∀id,(look new' id).isSome→(look new id).isSome:=λid h=>by
  obtain⟨c,hc⟩:=Option.isSome_iff_exists.1 h;simp[hsub id c hc]
 have hlk:∀id c,look (new'++mu) id=some c→look new id=some c∨look mu id=some c:=λid c h=>by
  rw[look_append]at h
  cases e:look new' id with
  |some d=>rw[e]at h;simp only[Option.some.injEq]at h;subst h;exact .inl (hsub id d e)
  |none=>rw[e]at h;exact .inr h
 have hlkI:∀id,(look (new'++mu) id).isSome→(look new id).isSome∨(look mu id).isSome:=λid h=>by
  obtain⟨c,hc⟩:=Option.isSome_iff_exists.1 h
  rcases hlk id c hc with h|h
  ·exact .inl (by simp[h])
  ·exact .inr (by simp[h])
 have hw:∀id c,look mu id=some c→with' mu fz id=some c:=λid c h=>by rw[with_eq,h]
 have hwf:∀id c,fz id=some c→with' mu fz id=some c:=λid c h=>by
  rw[with_eq]
  cases e:look mu id with
  |some d=>rw[hr.dm id d e]at h;cases h
  |none=>exact h
 have hwI:∀id,((look mu id).isSome∨(fz id).isSome)→(with' mu fz id).isSome:=λid h=>by
  rcases h with h|h
  ·obtain⟨c,hc⟩:=Option.isSome_iff_exists.1 h;simp[hw id c hc]
  ·obtain⟨c,hc⟩:=Option.isSome_iff_exists.1 h;simp[hwf id c hc]
 refine⟨⟨λid c h=>hr'.rf id c (hwf id c h),λid c h=>?_,λid c h=>?_,λa b p q ha hb' hp hq hpq=>?_⟩,hf.wider (λid h=>(by cases h)),λid p hl hp=>?_,λid hl=>?_⟩
 ·rcases hlk id c h with h|h
  ·exact hr'.rm id c h
  ·exact(hr.rm id c h).mono he.old hf.shape λp hp=>hf.keep _ ((hr.rm id c h).lt hp) λid p hl=>(by cases hl)
 ·rcases hlk id c h with h|h
  ·have:=hr'.dm id c h
   rw[with_eq]at this
   cases e:look mu id with
   |some d=>rw[e]at this;cases this
   |none=>rw[e]at this;exact this
  ·exact hr.dm id c h
 ·have hb2:(look new b).isSome∨(with' mu fz b).isSome:=by
   rcases hb' with h|h
   ·rcases hlkI b h with h|h
    ·exact .inl h
    ·exact .inr (hwI b (.inl h))
   ·exact .inr (hwI b (.inr h))
  rcases hlkI a ha with h|h
  ·exact hr'.dj a b p q h hb2 hp hq hpq
  ·rcases hb2 with h2|h2
   ·exact(hr'.dj b a q p h2 (.inr (hwI a (.inl h))) hq hp hpq.symm).symm
   ·have hb3:(look mu b).isSome∨(fz b).isSome:=by
     rw[with_eq]at h2
     cases e:look mu b with
     |some d=>exact .inl rfl
     |none=>rw[e]at h2;exact .inr h2
    have old:∀x y,((look mu x).isSome∨(fz x).isSome)→ρ' x=some y→ρ x=some y:=by
     intro x y hx hxy
     have:∃y',ρ x=some y':=by
      rcases hx with hx|hx
      ·obtain⟨c,hc⟩:=Option.isSome_iff_exists.1 hx
       obtain⟨p,o,h1,_⟩:=(hr.rm x c hc).at;exact⟨p,h1⟩
      ·obtain⟨c,hc⟩:=Option.isSome_iff_exists.1 hx
       obtain⟨p,o,h1,_⟩:=(hr.rf x c hc).at;exact⟨p,h1⟩
     obtain⟨y',hy'⟩:=this
     have:=he.old x y' hy'
     rw[hxy]at this;cases this;exact hy'
    exact hr.dj a b p q h hb3 (old a p (.inl h) hp) (old b q hb3 hq) hpq
 ·rcases hlkI id hl with h|h
  ·rcases hb id p h hp with h1|⟨_,_,h1,_⟩
   ·exact .inl h1
   ·cases h1
  ·obtain⟨c,hc⟩:=Option.isSome_iff_exists.1 h
   obtain⟨q,o,h1,_⟩:=(hr.rm id c hc).at
   have:=he.old id q h1
   rw[hp]at this;cases this
   exact .inr ⟨id,p,h,h1,rfl⟩
 ·rcases hlkI id hl with h|h
  ·rcases hi id h with h1|h1
   ·cases h1
   ·exact .inr h1
  ·exact .inl h
theorem sound_call {call:CallT R} (hz:¬T z) (hc:CallSound T P val call) {ro:Bool} {c:Call} {f:Operand} {f':Od} {ys:List Od} {k:KT R} (ho:o.op=.call c) (hcal:c.callee=.value f) (hf:od P f=some f') (hys:ods P c.args.toList=some ys)
 {orc:Orc R} (h:T (oCall orc z call fz tm mu n ro f' ys k)):∃v mu' n',T (k v mu' n')∧Sound P val fz tm mu n o v mu' n':=by
 obtain⟨s,e1,h1⟩:=onOne_elim hz h
 obtain⟨g,cs,e2,h2⟩:=onFn_elim hz h1
 subst e2
 rw[argsK_eq]at h2
 have exec:∀(ρ:Rho) (w:World) (a:Act),OperR P val ρ w tm a o.op→hasBody P g=true→∃xs:List Value,All2 (AVR val ρ w) (ys.map (ev tm)++capVals cs) xs∧(execOp a.eval o).run P w=.ok (.enter g xs.toArray) w:=by
  intro ρ w a hop hb
  have gf:=hop f f' (by simp[ho,Op.operands,Call.operands,hcal]) hf
  rw[e1]at gf
  obtain⟨vs,gf',hvs⟩:=gf
  have hR:=ods_R (val:=val) (tm:=tm) (a:=a) hys λx y hx' hy=>hop x y (by simp[ho,Op.operands,Call.operands,hcal];exact .inr (Array.mem_toList_iff.1 hx')) hy
  refine⟨c.args.toList.map a.eval++vs,hR.append (caps_vals hvs),?_⟩
  unfold hasBody at hb
  cases hg:P.funcs[g]? with
  |none=>rw[hg]at hb;cases hb
  |some fn=>
   rw[hg]at hb
   simp only[Bool.and_eq_true,Bool.not_eq_true']at hb
   have hbn:¬fn.body=none:=by cases hbd:fn.body<;>simp_all
   have hnm:¬fn.name= "runtime.NumGoroutine" :=by have:=hb.2;simpa using this
   have harr:c.args.map a.eval++vs.toArray=(c.args.toList.map a.eval++vs).toArray:=by
    apply Array.ext';simp
   simp[execOp,ho,resolve,hcal,gf',Deferred.ofValue,invoke,callFunc,hg,hnm,hbn,harr]
 cases ro with
 |false=>
  obtain⟨v,mu',n',q1,q2,q3,q4⟩:=hc g _ fz mu n k h2
  refine⟨v,mu',n',q1,q3,λρ w a hr hop hfr K Q hK=>?_⟩
  obtain⟨xs,x1,x2⟩:=exec ρ w a hop q2
  unfold Oper.wp
  rw[x2]
  refine(q4 ρ w xs hr x1 hfr).mono ?_
  rintro e w' ⟨x,rfl,hp⟩
  exact hK x w' hp
 |true=>
  obtain⟨v,new,n',q1,q2,q3,q4⟩:=hc g _ (with' mu fz) [] n _ h2
  obtain⟨new',q5,q6⟩:=sweepG_elim q1
  rw[joinK_eq]at q5
  refine⟨v,new'++mu,n',q5,q3,λρ w a hr hop hfr K Q hK=>?_⟩
  obtain⟨xs,x1,x2⟩:=exec ρ w a hop q2
  unfold Oper.wp
  rw[x2]
  refine(q4 ρ w xs hr.ro x1 hfr).mono ?_
  rintro e w' ⟨x,rfl,ρ',p1,p2,p3,p4,p5,p6⟩
  obtain⟨r1,r2,r3,r4⟩:=join_new hr p1 p2 p4 p5 p6 q6
  exact hK x w' ⟨ρ',p1,r1,p3,r2,r3,r4⟩
end
end Go.Ev
