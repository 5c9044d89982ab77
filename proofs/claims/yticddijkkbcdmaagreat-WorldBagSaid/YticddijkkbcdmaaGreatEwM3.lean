/-
  The evaluator: maps, strings, all operations.
-/
import Derived.Test.YticddijkkbcdmaaGreatEwM2
import Derived.Laws.BytesString
import Derived.MapKept
import Derived.WideKeyRuns
set_option linter.unusedVariables false
set_option linter.unusedSimpArgs false
noncomputable section
namespace Go.Ev
section
variable {val:Nat→Int} {ρ:Rho} {fz:Fz} {mu:St} {w:World} {n n':Nat}
theorem new_blockW {w':World} {cs:List SV} (hos:w'.os=w.os) (htp:w'.tape=w.tape) (hou:w'.output=w.output) (hsz:w'.heap.size=w.heap.size+1) (hold:∀b,b<w.heap.size→w'.heap[b]?=w.heap[b]?)
 (hr:Rel val ρ fz mu w) (hn:ρ n=none) (hown:(∀b,bsize w b≤bsize w' b)→OwnG val (upd ρ n (w.heap.size,0)) w' n cs):
 Ext ρ (upd ρ n (w.heap.size,0)) n (n+1)∧Rel val (upd ρ n (w.heap.size,0)) fz ((n,cs)::mu) w'∧Fr ρ mu w w'∧
  NewB ρ (upd ρ n (w.heap.size,0)) mu ((n,cs)::mu) w∧NewI mu ((n,cs)::mu) n (n+1):=by
 have hbs:∀b,bsize w b≤bsize w' b:=λb=>by
  by_cases hb:b<w.heap.size
  ·unfold bsize;rw[hold b hb];exact Nat.le_refl _
  ·have:bsize w b=0:=by unfold bsize;rw[Array.getElem?_eq_none (by omega)]
   omega
 have hown:=hown hbs
 have hup:=λid q hq=>upd_old (p:=(w.heap.size,0)) hn id q hq
 have keepOwn:∀id c,OwnG val ρ w id c→OwnG val (upd ρ n (w.heap.size,0)) w' id c:=λid c ho=>
  ho.mono hup hbs λp hp=>hold _ (ho.lt hp)
 have keepF:∀id c,OwnF val ρ w id c→OwnF val (upd ρ n (w.heap.size,0)) w' id c:=λid c ho=>
  ho.mono hup hbs λp hp=>hold _ (ho.lt hp)
 have hfn:fz n=none:=by
  cases e:fz n with
  |none=>rfl
  |some c=>obtain⟨p,o,h1,_⟩:=(hr.rf n c e).at;rw[hn]at h1;cases h1
 have hmn:look mu n=none:=by
  cases e:look mu n with
  |none=>rfl
  |some c=>obtain⟨p,o,h1,_⟩:=(hr.rm n c e).at;rw[hn]at h1;cases h1
 refine⟨upd_ext hn,⟨λid c h=>keepF id c (hr.rf id c h),λid c h=>?_,λid c h=>?_,λid id' p p' h h' hp hp' he=>?_⟩,
  ⟨hos,htp,hou,by omega,λb hb _=>hold b hb,hbs⟩,λid p h hp=>?_,λid h=>?_⟩
 ·rw[look_cons]at h
  split at h
  ·rename_i e
   cases h
   subst e
   exact hown
  ·exact keepOwn id c (hr.rm id c h)
 ·rw[look_cons]at h
  split at h
  ·rename_i e;subst e;exact hfn
  ·exact hr.dm id c h
 ·have key:∀id p,((look ((n,cs)::mu) id).isSome∨(fz id).isSome)→upd ρ n (w.heap.size,0) id=some p→id=n∧p.1=w.heap.size∨id≠n∧ρ id=some p∧((look mu id).isSome∨(fz id).isSome)∧p.1<w.heap.size:=by
   intro id p h hp
   by_cases e:id=n
   ·left;subst e;rw[upd_same]at hp;cases hp;exact⟨rfl,rfl⟩
   ·right
    have hp':ρ id=some p:=by simpa[upd,e]using hp
    have hl':(look mu id).isSome∨(fz id).isSome:=by
     rcases h with h|h
     ·rw[look_cons]at h
      simp only[show¬n=id fromλx=>e x.symm,if_false]at h
      exact .inl h
     ·exact .inr h
    refine⟨e,hp',hl',?_⟩
    rcases hl' with h|h
    ·obtain⟨c,hc⟩:=Option.isSome_iff_exists.1 h;exact(hr.rm id c hc).lt hp'
    ·obtain⟨c,hc⟩:=Option.isSome_iff_exists.1 h;exact(hr.rf id c hc).lt hp'
  rcases key id p (.inl h) hp with⟨e1,e2⟩|⟨e1,e2,e3,e4⟩
  ·rcases key id' p' h' hp' with⟨f1,f2⟩|⟨f1,f2,f3,f4⟩
   ·rw[e1,f1]
   ·omega
  ·rcases key id' p' h' hp' with⟨f1,f2⟩|⟨f1,f2,f3,f4⟩
   ·omega
   ·have hm:(look mu id).isSome:=by
     rw[look_cons]at h
     simpa[show¬n=id fromλx=>e1 x.symm]using h
    exact hr.dj id id' p p' hm f3 e2 f2 he
 ·rw[look_cons]at h
  by_cases e:id=n
  ·subst e;rw[upd_same]at hp;cases hp;exact .inl (Nat.le_refl _)
  ·simp only[show¬n=id fromλx=>e x.symm,if_false]at h
   exact .inr ⟨id,p,h,by simpa[upd,e]using hp,rfl⟩
 ·rw[look_cons]at h
  by_cases e:id=n
  ·subst e;exact .inr ⟨Nat.le_refl _,Nat.lt_succ_self _⟩
  ·simp only[show¬n=id fromλx=>e x.symm,if_false]at h
   exact .inl h
theorem put_blockW {w':World} {id:Nat} {cs cs':List SV} {p:Nat×Nat} (hr:Rel val ρ fz mu w) (hl:look mu id=some cs) (hp:ρ id=some p) (hos:w'.os=w.os) (htp:w'.tape=w.tape) (hou:w'.output=w.output)
 (hsz:w'.heap.size=w.heap.size) (hother:∀b,b≠p.1→w'.heap[b]?=w.heap[b]?) (hbs:∀b,bsize w b≤bsize w' b) (hown:OwnG val ρ w' id cs'):
 Rel val ρ fz (putS mu id cs') w'∧Fr ρ mu w w'∧NewB ρ ρ mu (putS mu id cs') w∧NewI mu (putS mu id cs') n n':=by
 have hlk:∀id',(look (putS mu id cs') id').isSome=(look mu id').isSome:=by
  intro id'
  rw[look_putS]
  split
  ·subst_vars;simp[hl]
  ·rfl
 have keepOwn:∀id' c,id'≠id→((look mu id').isSome∨(fz id').isSome)→OwnG val ρ w id' c→OwnG val ρ w' id' c:=by
  intro id' c hne hlv hown
  refine hown.mono (λ_ _ h=>h) hbs λq hq=>hother _ λe=>hne ?_
  exact(hr.dj id id' p q (by simp[hl]) hlv hp hq e.symm).symm
 have keepF:∀id' c,id'≠id→((look mu id').isSome∨(fz id').isSome)→OwnF val ρ w id' c→OwnF val ρ w' id' c:=by
  intro id' c hne hlv hown
  refine hown.mono (λ_ _ h=>h) hbs λq hq=>hother _ λe=>hne ?_
  exact(hr.dj id id' p q (by simp[hl]) hlv hp hq e.symm).symm
 refine⟨⟨λid' c h=>?_,λid' c h=>?_,λid' c h=>?_,λa b q q' ha hb hq hq' he=>?_⟩,
  ⟨hos,htp,hou,by omega,λb _ hb=>hother b λe=>hb id p (by simp[hl]) hp e.symm,hbs⟩,λa q ha hq=>.inr ⟨a,q,by rwa [hlk]at ha,hq,rfl⟩,λa ha=>.inl (by rwa [hlk]at ha)⟩
 ·refine keepF id' c (λe=>?_) (.inr (by simp[h])) (hr.rf id' c h)
  subst e;have:=hr.dm id' cs hl;rw[this]at h;cases h
 ·rw[look_putS]at h
  split at h
  ·rename_i e;subst e
   simp only[hl,Option.map_some,Option.some.injEq]at h
   subst h
   exact hown
  ·rename_i e
   exact keepOwn id' c (λx=>e x.symm) (.inl (by simp[h])) (hr.rm id' c h)
 ·have:=hlk id'
  rw[h]at this
  obtain⟨c',hc'⟩:=Option.isSome_iff_exists.1 this.symm
  exact hr.dm id' c' hc'
 ·rw[hlk]at ha hb
  exact hr.dj a b q q' ha hb hq hq' he
def byteVals (bs:List UInt8):List Value:=bs.map λb=>.int .u8 (Int.ofNat b.toNat)
theorem bcells_VR {bs:List UInt8} {xs:List Value} (h:All2 (VR val ρ w) (bcells bs) xs):xs=byteVals bs:=by
 induction bs generalizing xs with
 |nil=>cases xs with
  |nil=>rfl
  |cons _ _=>exact h.elim
 |cons b bs ih=>cases xs with
  |nil=>exact h.elim
  |cons x xs=>
   have h1:x=.int .u8 (Int.ofNat b.toNat):=h.1
   rw[h1,ih h.2];rfl
theorem byteVals_VR (bs:List UInt8):All2 (VR val ρ w) (bcells bs) (byteVals bs):=by
 induction bs with
 |nil=>trivial
 |cons b bs ih=>exact⟨rfl,ih⟩
theorem push_fold:∀(bs:List UInt8) (s:ByteArray),((bs.map λb=>Int.ofNat b.toNat).foldl (λr n=>r.push (UInt8.ofNat n.toNat)) s).data.toList=s.data.toList++bs
 |[],s=>by simp
 |b::bs,s=>by
  simp only[List.map_cons,List.foldl_cons]
  rw[push_fold bs]
  have:(s.push (UInt8.ofNat (Int.ofNat b.toNat).toNat)).data.toList=s.data.toList++[b]:=by
   show(s.data.push _).toList=_
   simp
  rw[this];simp
theorem fold_sOf (bs:List UInt8):(bs.map λb=>Int.ofNat b.toNat).foldl (λr n=>r.push (UInt8.ofNat n.toNat)) ByteArray.empty=sOf bs.length (nOf bs):=by
 apply ByteArray.ext
 apply Array.ext'
 rw[push_fold]
 show[]++bs=sB _ _
 rw[nOf_eq];rfl
end
section
variable {P:Program} {val:Nat→Int} {fz:Fz} {tm:TM} {mu:St} {n:Nat} {o:Oper}
theorem sound_b2s {t u e:TypeId} {x:Operand} {y:Od} {sv:SV} {m:Nat} {bs:List UInt8} (ho:o.op=.convert t u x) (ht:P.underlying t=some (.slice e)) (he:P.underlying e=some (.int .u8)) (hu:P.underlying u=some .string)
 (hx:od P x=some y) (ex:ev tm y=.one sv) (hns:sv.isStr=false) (hun:sv≠.un) (hs:SrcOk P val fz mu 1 sv (bcells bs) m):Sound P val fz tm mu n o (.one (.str m (nOf bs))) mu n:=by
 refine sound_pure λρ w act hr hop=>?_
 have g:=hop x y (by simp[ho,Op.operands]) hx
 rw[ex]at g
 obtain⟨h1,h2⟩:=hs
 have hm:bs.length=m:=by simpa[bcells]using h1
 obtain⟨hl,hk,news,hv,hf⟩:=h2 ρ w _ hr g
 have hn:=bcells_VR hv
 subst hn
 obtain⟨a,l,c,hval⟩:∃a l c,act.eval x=.slice a l c:=by
  rcases hk with h|⟨b,hb⟩
  ·exact h
  ·exfalso
   have g':VR val ρ w sv (act.eval x):=g
   rw[hb]at g'
   cases sv with
   |un=>exact hun rfl
   |str=>cases hns
   |optr=>obtain⟨p,_,e⟩:=g';cases e
   |osl=>obtain⟨p,c,_,e,_⟩:=g';cases e
   |esl=>obtain⟨p,e⟩:=g';cases e
   |zsl=>obtain⟨p,c,e⟩:=g';cases e
   |fn=>obtain⟨p,e,_⟩:=g';cases e
   |mp=>obtain⟨p,_,_,e⟩:=g';cases e
   |mk=>exact g'.elim
   |_=>cases g'
 have hl':=hl w
 rw[hval]at hl'
 have hf':=hf m (Nat.le_refl _) w (Like.refl w)
 rw[hval]at hf'
 have hll:l=m:=by
  have:(Builtin.lenOf (.slice a l c)).run P w=.ok l w:=rfl
  rw[this]at hl';cases hl';rfl
 subst hll
 have htk:(byteVals bs).take (l*1)=byteVals bs:=List.take_of_length_le (by simp[byteVals];omega)
 rw[htk]at hf'
 refine⟨.string (sOf l (nOf bs)),?_,?_,rfl⟩
 ·have hconv:(Conv.bytesToString (.slice a l c)).run P w=.ok (.string (sOf l (nOf bs))) w:=by
   cases a with
   |none=>
    have h0:(byteVals bs).toArray=#[]:=by
     have:(Builtin.firstCells 1 l (.slice none l c)).run P w=.ok #[] w:=rfl
     rw[this]at hf'
     injection hf' with h1 h2
     exact h1.symm
    have hb0:bs=[]:=by
     have:=congrArg Array.size h0
     simpa[byteVals]using this
    subst hb0
    simp at hm
    subst hm
    rfl
   |some ad=>
    have hlc:(loadCells ad l).run P w=.ok ((bs.map λb=>Int.ofNat b.toNat).map (Value.int .u8)).toArray w:=by
     have:(Builtin.firstCells 1 l (.slice (some ad) l c)).run P w=(loadCells ad (l*1)).run P w:=rfl
     rw[this,Nat.mul_one]at hf'
     rw[hf']
     simp[byteVals]
    rw[run_bytesToString w ad l c _ hlc,fold_sOf,hm]
  simp only[execOp,ho,hval,Sem.run_bind,run_convert_bytes_string w t u e a l c ht he hu,hconv]
  rfl
 ·have:=nOf_lt bs;rwa [hm]at this
theorem sound_s2b (hs2b:s2bOk=true) {t u e:TypeId} {x:Operand} {y:Od} {l b:Nat} (ho:o.op=.convert t u x) (ht:P.underlying t=some .string) (hu:P.underlying u=some (.slice e)) (he:P.underlying e=some (.int .u8))
 (hx:od P x=some y) (ex:ev tm y=.one (.str l b)) (hroom:l≤140737488355328):Sound P val fz tm mu n o (.one (.osl n 0 l l 1)) ((n,bcells (sB l b))::mu) (n+1):=by
 refine sound_of_run (Nat.le_succ _) λρ w act hr hop hfr=>?_
 have g:=hop x y (by simp[ho,Op.operands]) hx
 rw[ex]at g
 obtain⟨hb,g'⟩:=g
 have hsz:(sOf l b).size=l:=sOf_size l b
 generalize hnc:Question.cut (.appendCap l 0 e) (w.tape w.drawn (.appendCap l 0 e))=cap
 have hle:l≤cap:=by rw[←hnc];simp only[Question.cut];omega
 have hmx:cap≤9223372036854775807:=by
  rw[←hnc]
  simp only[Question.cut]
  have:=Nat.mod_lt (w.tape w.drawn (.appendCap l 0 e)) (show 0<2^63-l by omega)
  omega
 have hch:(choose (.appendCap (sOf l b).size 0 e)).run P w=.ok cap w.drew:=by
  rw[hsz,run_choose];simp only[Question.forced,Bool.false_eq_true,if_false,hnc];rfl
 generalize hC:((sOf l b).data.map (λ(x:UInt8)=>(Value.int .u8 x.toNat))++Array.replicate (cap-(sOf l b).size) (Value.int .u8 0))=C
 have hCs:C.size=cap:=by rw[←hC];simp only[Array.size_append,Array.size_map,Array.size_replicate];rw[hsz];show(sOf l b).size+_=_;rw[hsz];omega
 have hCget:∀(i:Nat) (v:Value),(byteVals (sB l b))[i]?=some v→C[i]?=some v:=by
  intro i v hi
  have hlt:i<l:=by
   have:=(List.getElem?_eq_some_iff.1 hi).1
   simpa[byteVals,sB_length]using this
  rw[←hC,Array.getElem?_append_left (by rw[Array.size_map];show i<(sOf l b).size;rw[hsz];exact hlt)]
  simp only[byteVals,List.getElem?_map,Array.getElem?_map]at hi⊢
  rw[←Array.getElem?_toList]
  show Option.map _ (sB l b)[i]?=_
  rw[←hi];rfl
 have hn:=hfr n (Nat.le_refl _) (Nat.lt_succ_self _)
 let w1:=w.drew.alloc (.cells C e)
 have hheap:w1.heap[w.heap.size]?=some (.cells C e (0,0)):=alloc_new (w:=w.drew) (.cells C e)
 let w2:World:={w1 with heap:=w1.heap.modify w.heap.size fun|.cells c elem (lo,hi)=>.cells c elem (if lo==hi then(C.size,C.size+1)else(min lo C.size,max hi (C.size+1)))|o=>o}
 have hlt1:w.heap.size<w1.heap.size:=by show w.heap.size<(w.heap.push _).size;simp
 have hw2:w2.heap[w.heap.size]?=some (.cells C e (C.size,C.size+1)):=by
  show(w1.heap.modify w.heap.size _)[w.heap.size]?=some _
  rw[Array.getElem?_modify,hheap];simp
 have hconv:(Conv.stringToBytes e (sOf l b)).run P w=.ok (.slice (some ⟨w.heap.size,0,none⟩) l cap) w2:=by
  have hmark:(markStringish ⟨w.heap.size,0,none⟩).run P w1=.ok () w2:=by
   have hsh:w1.shape? w.heap.size=some (e,C.size):=by simp only[World.shape?,hheap]
   simp only[markStringish,Sem.run_bind,run_shape,hsh,Result.andThen_ok]
   rfl
  have hnr:(newRow e C).run P w.drew=.ok ⟨w.heap.size,0,none⟩ w1:=by simp[newRow];rfl
  simp only[Conv.stringToBytes,Sem.run_bind,hch,Result.andThen_ok]
  rw[hC]
  simp only[hnr,Result.andThen_ok,hmark,Sem.run_pure,hsz]
 have hnb:=new_blockW (w':=w2) (cs:=bcells (sB l b)) (n:=n) (val:=val) (ρ:=ρ) (fz:=fz) (mu:=mu) (w:=w) rfl rfl rfl
  (by show(w1.heap.modify _ _).size=_;rw[Array.size_modify];show(w.heap.push _).size=_;simp)
  (λ(b':Nat) hb'=>by
   show(w1.heap.modify _ _)[b']?=w.heap[b']?
   rw[Array.getElem?_modify]
   have:¬w.heap.size=b':=by omega
   simp only[this,if_false]
   exact alloc_old (w:=w.drew) _ hb') hr hn (λhbs=>.inl ⟨(w.heap.size,0),C,e,_,upd_same _ _ _,hw2,.inr ⟨hs2b,Nat.le_refl _⟩,by simp[bcells,sB_length];omega,λi s hi=>by
    have hv:=byteVals_VR (val:=val) (ρ:=upd ρ n (w.heap.size,0)) (w:=w2) (sB l b)
    obtain⟨v,e1,r⟩:=hv.get hi
    exact⟨v,by simpa using hCget i v e1,r⟩⟩)
 obtain⟨b1,b2,b3,b4,b5⟩:=hnb
 refine⟨_,w2,.inl ?_,_,b1,b2,⟨(w.heap.size,0),cap,upd_same _ _ _,rfl,Nat.le_refl _,hle,?_,hmx⟩,b3,b4,b5⟩
 ·have:(convert t u (.string (sOf l b))).run P w=(Conv.stringToBytes e (sOf l b)).run P w:=by
   simp[convert,run_underlying ht,run_underlying hu,run_underlying he]
  have g'':act.eval x=.string (sOf l b):=g'
  simp only[execOp,ho,g'',Sem.run_bind,this,hconv]
  rfl
 ·show 0+0+cap*1≤bsize w2 w.heap.size
  unfold bsize;rw[hw2];simp[hCs]
end
end Go.Ev
namespace Go.Ev
inductive SameR:SV→SV→Bool→Prop where
 |int (kd:IntKind) (i j:Int):SameR (.int kd i) (.int kd j) (decide (i=j))
 |str (l a l' b:Nat):SameR (.str l a) (.str l' b) (strEq l a l' b)
 |mk (a b:Nat) (h:a%64=b%64):SameR (.mk a) (.mk b) (Nat.beq a b)
def KeyIs (ks:Nat):SV→Prop
 |.int _ _=>ks=0
 |.str _ _=>ks=1
 |.mk m=>∃l:List Int,m=keyN l∧l.length<64∧SmallK l∧ks=2+l.length
 |_=>False
def KeyV (val:Nat→Int) (v:AV) (key:SV):Prop:=
 (∃s,v=.one s∧SvEq val s key)∨∃cs l,v=.ag cs∧All2 (λs i=>SvEq val s (.int .i64 i)) cs l∧l.length<64∧SmallK l∧key=.mk (keyN l)
inductive FindR (key:SV):List (SV×List SV)→Option (List SV)→Prop where
 |nil:FindR key [] none
 |hit (e es):SameR key e.1 true→FindR key (e::es) (some e.2)
 |miss (e es r):SameR key e.1 false→FindR key es r→FindR key (e::es) r
inductive PutR (key:SV) (c:List SV):List (SV×List SV)→List (SV×List SV)→Prop where
 |nil:PutR key c [] [(key,c)]
 |hit (e es):SameR key e.1 true→PutR key c (e::es) ((key,c)::es)
 |miss (e es es'):SameR key e.1 false→PutR key c es es'→PutR key c (e::es) (e::es')
inductive DelR (key:SV):List (SV×List SV)→List (SV×List SV)→Prop where
 |nil:DelR key [] []
 |hit (e es):SameR key e.1 true→DelR key (e::es) es
 |miss (e es es'):SameR key e.1 false→DelR key es es'→DelR key (e::es) (e::es')
section
variable {R:Type} {T:R→Prop} {z:R} {val:Nat→Int} {orc:Orc R}
theorem sameK_elim (hz:¬T z) {a b:SV} {k:Bool→R} (h:T (sameK z a b k)):∃r,SameR a b r∧T (k r):=by
 cases a with
 |int kd i=>
  obtain⟨kd',j,rfl,h1⟩:=onInt_elim hz (show T (b.onInt z λkd' j=>cond (IntKind.eqb kd kd') (fB (eqI i j) k) z)from h)
  obtain⟨h2,h3⟩:=cond_elim hz h1
  have:=eqb_eq h2
  subst this
  rw[fB_eq,eqI_eq]at h3
  exact⟨_,.int kd i j,h3⟩
 |str l n=>
  obtain⟨l',n',rfl,h1⟩:=onStr_elim hz (show T (b.onStr z λl' n'=>fB (strEq l n l' n') k)from h)
  rw[fB_eq]at h1
  exact⟨_,.str l n l' n',h1⟩
 |mk m=>
  obtain⟨m',rfl,h1⟩:=onMk_elim hz (show T (b.onMk z λm'=>cond (Nat.beq (Nat.mod m 64) (Nat.mod m' 64)) (fB (Nat.beq m m') k) z)from h)
  obtain⟨h2,h3⟩:=cond_elim hz h1
  rw[fB_eq]at h3
  exact⟨_,.mk m m' (beq_yes h2),h3⟩
 |_=>exact(hz h).elim
theorem codeK_elim (hz:¬T z) (hk:OrcOk T val orc):∀{cs:List SV} {k:Nat→Nat→R},T (codeK orc z cs k)→∃l:List Int,All2 (fun s i=>SvEq val s (.int .i64 i)) cs l∧SmallK l∧T (k (codeN l) l.length)
 |[],k,h=>⟨[],trivial,λ_ h=>(by cases h),h⟩
 |s::cs,k,h=>by
  have main:∀i:Int,SvEq val s (.int .i64 i)→T (fI i λi=>codeK orc z cs λc l=>cond (Nat.blt (digI i) 18446744073709551617) (fN (Nat.add (Nat.mul c 18446744073709551617) (digI i)) λc=>k c (Nat.succ l)) z)→
   ∃l:List Int,All2 (λs i=>SvEq val s (.int .i64 i)) (s::cs) l∧SmallK l∧T (k (codeN l) l.length):=by
   intro i hi h1
   rw[fI_eq]at h1
   obtain⟨l,h2,h3,h4⟩:=codeK_elim hz hk h1
   obtain⟨h5,h6⟩:=cond_elim hz h4
   rw[fN_eq]at h6
   have e:digI i=digY i:=by cases i<;>rfl
   rw[e]at h5 h6
   have h7:digY i<18446744073709551617:=Nat.le_of_ble_eq_true h5
   refine⟨i::l,⟨hi,h2⟩,?_,h6⟩
   intro x hx
   rcases List.mem_cons.1 hx with h8|hx
   ·rw[h8];exact h7
   ·exact h3 x hx
  cases s with
  |int kd i=>
   obtain⟨h2,h3⟩:=cond_elim hz (show T (cond (IntKind.eqb kd .i64) _ z)from h)
   have:=eqb_eq h2
   subst this
   exact main i (.inl rfl) h3
  |sym kd i=>
   obtain⟨h2,h3⟩:=cond_elim hz (show T (cond (IntKind.eqb kd .i64) (orc.force i _) z)from h)
   have:=eqb_eq h2
   subst this
   exact main _ (.inr ⟨_,_,rfl,rfl⟩) (hk.force _ _ h3)
  |_=>exact(hz h).elim
theorem keyK_elim (hz:¬T z) (hk:OrcOk T val orc) {ks:Nat} {v:AV} {k:SV→R} (h:T (keyK orc z ks v k)):∃key,KeyV val v key∧KeyIs ks key∧T (k key):=by
 cases v with
 |one s=>
  cases s with
  |int kd i=>
   obtain⟨h2,h3⟩:=cond_elim hz (show T (cond (Nat.beq ks 0) (k (.int kd i)) z)from h)
   exact⟨_,.inl ⟨_,rfl,.inl rfl⟩,beq_yes h2,h3⟩
  |str l b=>
   obtain⟨h2,h3⟩:=cond_elim hz (show T (cond (Nat.beq ks 1) (k (.str l b)) z)from h)
   exact⟨_,.inl ⟨_,rfl,.inl rfl⟩,beq_yes h2,h3⟩
  |sym kd i=>
   obtain⟨h2,h3⟩:=cond_elim hz (show T (cond (Nat.beq ks 0) (orc.force i λv=>fI v λv=>k (.int kd v)) z)from h)
   have h4:=hk.force _ _ h3
   rw[fI_eq]at h4
   exact⟨.int kd (val i),.inl ⟨_,rfl,.inr ⟨kd,i,rfl,rfl⟩⟩,beq_yes h2,h4⟩
  |_=>exact(hz h).elim
 |ag cs=>
  obtain⟨l,h1,h2,h3⟩:=codeK_elim hz hk (show T (codeK orc z cs λc l=>cond (Nat.beq ks (Nat.add 2 l)) (cond (Nat.blt l 64) (fN (Nat.add (Nat.mul c 64) l) λc=>k (.mk c)) z) z)from h)
  obtain⟨h4,h5⟩:=cond_elim hz h3
  obtain⟨h6,h7⟩:=cond_elim hz h5
  rw[fN_eq]at h7
  exact⟨.mk (keyN l),.inr ⟨cs,l,rfl,h1,Nat.le_of_ble_eq_true h6,h2,rfl⟩,⟨l,rfl,Nat.le_of_ble_eq_true h6,h2,beq_yes h4⟩,h7⟩
 |tp l=>exact(hz h).elim
theorem findE_elim (hz:¬T z) {key:SV}:∀{es:List (SV×List SV)} {k:Option (List SV)→R},T (findE z key es k)→∃r,FindR key es r∧T (k r)
 |[],k,h=>⟨none,.nil,h⟩
 |e::es,k,h=>by
  obtain⟨r,h1,h2⟩:=sameK_elim hz (show T (sameK z key e.1 λb=>cond b (k (some e.2)) (findE z key es k))from h)
  cases r with
  |true=>exact⟨_,.hit e es h1,h2⟩
  |false=>
   obtain⟨r,h3,h4⟩:=findE_elim hz (es:=es) h2
   exact⟨r,.miss e es r h1 h3,h4⟩
theorem putE_elim (hz:¬T z) {key:SV} {c:List SV}:∀{es:List (SV×List SV)} {k:List (SV×List SV)→R},T (putE z key c es k)→∃r,PutR key c es r∧T (k r)
 |[],k,h=>⟨_,.nil,h⟩
 |e::es,k,h=>by
  obtain⟨r,h1,h2⟩:=sameK_elim hz (show T (sameK z key e.1 λb=>cond b (k ((key,c)::es)) (putE z key c es λr=>k (e::r)))from h)
  cases r with
  |true=>exact⟨_,.hit e es h1,h2⟩
  |false=>
   obtain⟨r,h3,h4⟩:=putE_elim hz (es:=es) h2
   exact⟨_,.miss e es r h1 h3,h4⟩
theorem delE_elim (hz:¬T z) {key:SV}:∀{es:List (SV×List SV)} {k:List (SV×List SV)→R},T (delE z key es k)→∃r,DelR key es r∧T (k r)
 |[],k,h=>⟨_,.nil,h⟩
 |e::es,k,h=>by
  obtain⟨r,h1,h2⟩:=sameK_elim hz (show T (sameK z key e.1 λb=>cond b (k es) (delE z key es λr=>k (e::r)))from h)
  cases r with
  |true=>exact⟨_,.hit e es h1,h2⟩
  |false=>
   obtain⟨r,h3,h4⟩:=delE_elim hz (es:=es) h2
   exact⟨_,.miss e es r h1 h3,h4⟩
theorem entsK_elim (hz:¬T z) {v:Nat}:∀{fuel:Nat} {l:List SV} {k:List (SV×List SV)→R},T (entsK z v fuel l k)→∃es,l=flatE es∧(∀e∈es,e.2.length=v)∧T (k es)
 |0,_,_,h=>(hz h).elim
 |fuel+1,[],k,h=>⟨[],rfl,λ_ h=>(by cases h),h⟩
 |fuel+1,a::t,k,h=>by
  have h':T (takeK t v z λc=>subK t v (Nat.sub t.length v) z λr=>entsK z v fuel r λes=>k ((a,c)::es)):=h
  obtain⟨h1,h2⟩:=takeK_elim hz h'
  obtain⟨h3,h4⟩:=subK_elim hz h2
  obtain⟨es,h5,h6,h7⟩:=entsK_elim hz h4
  refine⟨(a,t.take v)::es,?_,λe he=>?_,h7⟩
  ·show a::t=a::(t.take v++flatE es)
   rw[←h5]
   have:(t.drop v).take (Nat.sub t.length v)=t.drop v:=List.take_of_length_le (by simp)
   rw[this,List.take_append_drop]
  ·simp only[List.mem_cons]at he
   rcases he with rfl|he
   ·simp;omega
   ·exact h6 e he
theorem flatE_inj {v:Nat}:∀{es es':List (SV×List SV)},(∀e∈es,e.2.length=v)→(∀e∈es',e.2.length=v)→flatE es=flatE es'→es=es'
 |[],[],_,_,_=>rfl
 |[],_::_,_,_,h=>by simp[flatE]at h
 |_::_,[],_,_,h=>by simp[flatE]at h
 |e::es,e'::es',h1,h2,h=>by
  have h':e.1::(e.2++flatE es)=e'.1::(e'.2++flatE es'):=h
  injection h' with h3 h4
  have h5:=List.append_inj h4 (by rw[h1 e (by simp),h2 e' (by simp)])
  have:=flatE_inj (λx hx=>h1 x (by simp[hx])) (λx hx=>h2 x (by simp[hx])) h5.2
  rw[this]
  congr 1
  exact Prod.ext h3 h5.1
theorem mtag_inj {a a':Bool} {v v':Nat} (h:mtag a v=mtag a' v'):a=a'∧v=v':=by
 unfold mtag at h
 have h1:(cond a 5 4)+2*v=(cond a' 5 4)+2*v':=h
 cases a<;>cases a'<;>simp at h1<;>first|exact⟨rfl,by omega⟩|omega
theorem mtag_ne (a:Bool) (v:Nat):4≤mtag a v:=by
 show 4≤(cond a 5 4)+2*v
 cases a<;>simp<;>omega
theorem isMap_elim (hz:¬T z) {agg:Bool} {v:Nat} {cs:List SV} {k:List SV→R} (h:T (isMap z agg v cs k)):∃t,cs=.mk (mtag agg v)::t∧T (k t):=by
 cases cs with
 |nil=>exact(hz h).elim
 |cons a t=>
  obtain⟨m,rfl,h1⟩:=onMk_elim hz (show T (a.onMk z λm=>cond (Nat.beq m (mtag agg v)) (k t) z)from h)
  obtain⟨h2,h3⟩:=cond_elim hz h1
  have:=beq_yes h2
  subst this
  exact⟨t,rfl,h3⟩
end
section
variable {val:Nat→Int} {ρ:Rho} {w:World}
def MapAt (val:Nat→Int) (ρ:Rho) (w:World) (id:Nat) (agg:Bool) (v:Nat) (es:List (SV×List SV)) (p:Nat) (ms:Array MapEntry) (clock:Nat):Prop:=
 ρ id=some (p,0)∧w.heap[p]?=some (.map ms clock)∧(∀e∈es,e.2.length=v∧(e.1.known=true∨e.1.isMk=true)∧knownAll e.2=true)∧
   All2 (EntR val ρ w agg) es ms.toList∧(ms.toList.map (·.born)).Pairwise (· <·)∧∀m∈ms.toList,m.born<clock
theorem OwnG.map {id:Nat} {agg:Bool} {v:Nat} {es:List (SV×List SV)} (h:OwnG val ρ w id (.mk (mtag agg v)::flatE es)) (hv:∀e∈es,e.2.length=v):∃p ms clock,MapAt val ρ w id agg v es p ms clock:=by
 have h1:=h.other rfl
 generalize hc:(SV.mk (mtag agg v)::flatE es)=cs at h1
 cases h1 with
 |map p agg' v' es' ms clock hp hw hv' he hb hcl=>
  injection hc with h2 h3
  injection h2 with h2
  obtain⟨rfl,rfl⟩:=mtag_inj h2
  have:=flatE_inj hv (λe he=>(hv' e he).1) h3
  subst this
  exact⟨p,ms,clock,hp,hw,hv',he,hb,hcl⟩
 |text g l n C ty fr=>
  injection hc with h2 h3
  injection h2 with h2
  have:=mtag_ne agg v;omega
 |bld p ty a s va vs=>
  injection hc with h2 h3
  injection h2 with h2
  have:=mtag_ne agg v;omega
 |box p ty fr s=>
  injection hc with h2 h3
  injection h2 with h2
  have:=mtag_ne agg v;omega
 |glob p kd C ty fr=>
  injection hc with h2 h3
  injection h2 with h2
  have:=mtag_ne agg v;omega
theorem MapAt.own {id:Nat} {agg:Bool} {v:Nat} {es:List (SV×List SV)} {p:Nat} {ms:Array MapEntry} {clock:Nat} (h:MapAt val ρ w id agg v es p ms clock):OwnG val ρ w id (.mk (mtag agg v)::flatE es):=
 .inr (.map p agg v es ms clock h.1 h.2.1 h.2.2.1 h.2.2.2.1 h.2.2.2.2.1 h.2.2.2.2.2)
theorem SvEq.to {s key:SV} {v:Value} (h:SvEq val s key) (hv:VR val ρ w s v):VR val ρ w key v:=by
 rcases h with rfl|⟨kd,i,rfl,rfl⟩
 ·exact hv
 ·exact hv
theorem KyR.of {s:SV} {v:Value} (h:VR val ρ w s v):KyR val ρ w s v:=by
 cases s<;>first|exact h|exact h.elim
theorem KeyV.to {a:AV} {key:SV} {v:Value} (h:KeyV val a key) (hv:AVR val ρ w a v):KyR val ρ w key v:=by
 rcases h with⟨s,rfl,h⟩|⟨cs,l,rfl,h,h1,h2,rfl⟩
 ·exact .of (h.to hv)
 ·obtain⟨vs,rfl,h4⟩:=hv
  have key:∀{cs:List SV} {l:List Int} {vs:List Value},All2 (λs i=>SvEq val s (.int .i64 i)) cs l→All2 (VR val ρ w) cs vs→vs=l.map (Value.int .i64):=by
   intro cs
   induction cs with
   |nil=>
    intro l vs a b
    cases l with
    |nil=>cases vs with
     |nil=>rfl
     |cons _ _=>exact b.elim
    |cons _ _=>exact a.elim
   |cons c cs ih=>
    intro l vs a b
    cases l with
    |nil=>exact a.elim
    |cons i l=>cases vs with
     |nil=>exact b.elim
     |cons v vs=>
      rw[ih a.2 b.2]
      have:v=.int .i64 i:=a.1.to (val:=val) (ρ:=ρ) (w:=w) b.1
      rw[this];rfl
  have e:=key h h4
  rw[e]
  exact⟨l,rfl,h1,h2,rfl⟩
theorem keyFields_eqKs {P:Program}:∀{fs:List Field} {i j:Nat},keyFields P i fs=some j→∃m,j=i+m∧eqKs P i fs=some (List.replicate m 0)
 |[],i,j,h=>by cases h;exact⟨0,rfl,rfl⟩
 |f::fs,i,j,h=>by
  unfold keyFields at h
  split at h
  ·rename_i hu
   split at h
   ·rename_i hn
    obtain⟨m,h1,h2⟩:=keyFields_eqKs h
    refine⟨m+1,by omega,?_⟩
    unfold eqKs
    rw[if_pos hn]
    simp only[hu,h2]
    rfl
   ·cases h
  ·cases h
theorem keyTy_is {P:Program} {t:TypeId} {ks:Nat} (h:keyTy P t=some ks):(∃d,P.underlying t=some d∧((ks=0∧∃kd,d=.int kd)∨(ks=1∧d=.string)))∨
 ∃fs j,P.underlying t=some (.struct fs)∧P.stoodInHeld t=false∧keyFields P 0 fs.toList=some j∧ks=2+j:=by
 unfold keyTy at h
 split at h
 ·rename_i kd hu;cases h;exact .inl ⟨_,hu,.inl ⟨rfl,kd,rfl⟩⟩
 ·rename_i hu;cases h;exact .inl ⟨_,hu,.inr ⟨rfl,rfl⟩⟩
 ·rename_i fs hu
  split at h
  ·cases h
  ·rename_i hs
   cases hk:keyFields P 0 fs.toList with
   |none=>rw[hk]at h;cases h
   |some j=>rw[hk]at h;cases h;exact .inr ⟨fs,j,hu,by simpa using hs,hk,rfl⟩
 ·cases h
theorem eqCells_ints:∀(l l':List Int),l.length=l'.length→eqCells (List.replicate l.length 0) (l.map (SV.int .i64)) (l'.map (SV.int .i64))=some (decide (l=l'))
 |[],[],_=>rfl
 |i::l,j::l',h=>by
  simp only[List.length_cons]at h
  have ih:=eqCells_ints l l' (by omega)
  have e:eqCell 0 (.int .i64 i) (.int .i64 j)=some (decide (i=j)):=by
   show cond (IntKind.eqb .i64 .i64) (some (eqI i j)) none=_
   rw[eqI_eq];rfl
  simp only[List.length_cons,List.replicate_succ,List.map_cons,eqCells,e,ih]
  by_cases hij:i=j
  ·simp[hij]
  ·simp[hij]
theorem VRs_ints:∀(l:List Int),All2 (VR val ρ w) (l.map (SV.int .i64)) (l.map (Value.int .i64))
 |[]=>trivial
 |_::l=>⟨rfl,VRs_ints l⟩
theorem key_equal {P:Program} {t:TypeId} {fs:Array Field} {j:Nat} (hu:P.underlying t=some (.struct fs)) (hs:P.stoodInHeld t=false) (hk:keyFields P 0 fs.toList=some j) {l l':List Int} (h1:l.length=j) (h2:l'.length=j):
 (Op.equal t (.agg (l.map (Value.int .i64)).toArray) (.agg (l'.map (Value.int .i64)).toArray)).run P w=.ok (decide (l=l')) w:=by
 have hf:P.fieldsOf t=fs:=by simp[Program.fieldsOf,hu]
 obtain⟨m,e1,e2⟩:=keyFields_eqKs hk
 have e3:m=l.length:=by omega
 subst e3
 show(Op.equalIn (9999+1) t _ _).run P w=_
 rw[run_equalIn_agg w 9999 t _ _ (by rw[hf];exact hu) hs,hf]
 exact eqFields_run (val:=λ_=>0) (ρ:=λ_=>none) 9998 _ _ fs.toList 0 _ _ _ _ e2 (VRs_ints l) (VRs_ints l') (eqCells_ints l l' (by omega))
theorem key_check {P:Program} {t:TypeId} {fs:Array Field} {j:Nat} (hu:P.underlying t=some (.struct fs)) (hk:keyFields P 0 fs.toList=some j) {l:List Int} (h1:l.length=j) (em:Bool):
 (Instr.checkKey em 10000 t (.agg (l.map (Value.int .i64)).toArray)).run P w=.ok () w:=by
 rw[show(10000:Nat)=9999+1 from rfl,Instr.checkKey]
 simp only[Sem.run_bind,run_underlying hu,Result.andThen_ok]
 rw[←Array.forIn_toList]
 have key:∀(L:List Field) (i:Nat),keyFields P i L=some j→i≤l.length→(forIn L PUnit.unit λf _=>(do
  if f.name≠ "_" then
   Instr.checkKey em 9999 f.type (←part f.type (l.map (Value.int .i64)).toArray f.offset)
   pure (ForInStep.yield PUnit.unit)
  else pure (ForInStep.yield PUnit.unit):Sem (ForInStep PUnit))).run P w=.ok PUnit.unit w:=by
  intro L
  induction L with
  |nil=>intro i _ _;simp
  |cons f L ih=>
   intro i hi hl
   unfold keyFields at hi
   split at hi
   ·rename_i hu'
    split at hi
    ·rename_i hn
     simp only[Bool.and_eq_true,bne_iff_ne,ne_eq,beq_iff_eq]at hn
     obtain⟨m,e1,_⟩:=keyFields_eqKs hi
     have hlt:i<l.length:=by omega
     have g1:(isAgg f.type).run P w=.ok false w:=by simp[isAgg,underlying,hu']
     have g2:(part f.type (l.map (Value.int .i64)).toArray f.offset).run P w=.ok (.int .i64 l[i]) w:=by simp[part,g1,hn.2,hlt]
     have g3:(Instr.checkKey em 9999 f.type (.int .i64 l[i])).run P w=.ok () w:=by
      rw[show(9999:Nat)=9998+1 from rfl,Instr.checkKey]
      simp only[Sem.run_bind,run_underlying hu',Result.andThen_ok,Sem.run_pure]
     simp only[List.forIn_cons,Sem.run_bind,hn.1,ne_eq,not_false_eq_true,if_true,g2,g3,Result.andThen_ok,Sem.run_pure]
     exact ih (i+1) hi (by omega)
    ·cases hi
   ·cases hi
 rw[key fs.toList 0 hk (Nat.zero_le _)]
 rfl
def KeyEq (P:Program) (w:World) (kt:TypeId) (kv v:Value) (b:Bool):Prop:=
 (∃d,P.underlying kt=some d∧((∃kd,d=.int kd)∨d=.string)∧Instr.sameNow d kv v=some b)∨((∃fs,P.underlying kt=some (.struct fs))∧(Op.equal kt kv v).run P w=.ok b w)
inductive Fd (E:Value→Bool→Prop):List MapEntry→Nat→Option (Nat×Value)→Prop where
 |nil (i):Fd E [] i none
 |hit (e es i):E e.key true→Fd E (e::es) i (some (i,e.val))
 |miss (e es i r):E e.key false→Fd E es (i+1) r→Fd E (e::es) i r
theorem Fd.run {P:Program} {kt:TypeId} {kv:Value} {es:List MapEntry} {r:Option (Nat×Value)} {d:TypeDesc} (hd:P.underlying kt=some d) (hp:((∃kd,d=.int kd)∨d=.string)∨∃fs,d=.struct fs)
 (h:Fd (KeyEq P w kt kv) es 0 r):(Instr.findKey kt kv es).run P w=.ok r w:=by
 rcases hp with hp|⟨fs,rfl⟩
 ·refine Go.MapKept.run_findKey hd ?_
  have hno:∀v b,KeyEq P w kt kv v b→Instr.sameNow d kv v=some b:=by
   rintro v b (⟨d',e1,_,e2⟩|⟨⟨fs,e1⟩,_⟩)
   ·rw[hd]at e1;cases e1;exact e2
   ·rw[hd]at e1;cases e1
    rcases hp with⟨_,h⟩|h<;>cases h
  generalize 0=i at h
  induction h with
  |nil i=>rfl
  |hit e es i h=>simp only[Instr.findNow,hno _ _ h]
  |miss e es i r h _ ih=>simp only[Instr.findNow,hno _ _ h];exact ih
 ·rw[run_findKey_eq w (by rw[hd])]
  have hno:∀v b,KeyEq P w kt kv v b→(Op.equal kt kv v).run P w=.ok b w:=by
   rintro v b (⟨d',e1,e3,e2⟩|⟨_,e2⟩)
   ·rw[hd]at e1;cases e1
    rcases e3 with⟨_,h⟩|h<;>cases h
   ·exact e2
  generalize 0=i at h
  induction h with
  |nil i=>simp[Instr.findAsking]
  |hit e es i h=>simp[Instr.findAsking,hno _ _ h]
  |miss e es i r h _ ih=>simp[Instr.findAsking,hno _ _ h,ih]
section
variable {P:Program}
theorem keyTy_run {kt:TypeId} {ks:Nat} (hkt:keyTy P kt=some ks) {kv:Value} {es:List MapEntry} {r:Option (Nat×Value)} (h:Fd (KeyEq P w kt kv) es 0 r):(Instr.findKey kt kv es).run P w=.ok r w:=by
 rcases keyTy_is hkt with⟨d,hd,hp⟩|⟨fs,j,hd,_⟩
 ·exact h.run hd (.inl (hp.imp (λh=>h.2) λh=>h.2))
 ·exact h.run hd (.inr ⟨fs,rfl⟩)
theorem checkKey_run {kt:TypeId} {ks:Nat} {key:SV} {v:Value} (hkt:keyTy P kt=some ks) (hk:KeyIs ks key) (h1:KyR val ρ w key v) (e:Bool):(Instr.checkKey e 10000 kt v).run P w=.ok () w:=by
 rcases keyTy_is hkt with⟨d,hd,hp⟩|⟨fs,j,hd,hs,hf,rfl⟩
 ·unfold Instr.checkKey
  simp only[Sem.run_bind,run_underlying hd,Result.andThen]
  rcases hp with⟨_,kd,rfl⟩|⟨_,rfl⟩<;>cases v<;>rfl
 ·cases key with
  |int kd i=>exact absurd (show 2+j=0 from hk) (by omega)
  |str l b=>exact absurd (show 2+j=1 from hk) (by omega)
  |mk m=>
   obtain⟨l,rfl,h2,h3,h4⟩:=hk
   obtain⟨l',e',h5,h6,rfl⟩:=h1
   have h7:=keyN_inj h3 h6 h2 h5 e'
   subst h7
   exact key_check hd hf (by omega) e
  |_=>exact hk.elim
theorem same_now {kt:TypeId} {ks:Nat} {key s':SV} {b:Bool} {kv kv':Value} (h:SameR key s' b) (hk:KeyIs ks key) (hkt:keyTy P kt=some ks) (h1:KyR val ρ w key kv) (h2:KyR val ρ w s' kv'):
 KeyEq P w kt kv kv' b:=by
 cases h with
 |int kd i j=>
  have e1:kv=.int kd i:=h1
  have e2:kv'=.int kd j:=h2
  subst e1;subst e2
  have hk':ks=0:=hk
  rcases keyTy_is hkt with⟨d,hd,⟨_,kd',rfl⟩|⟨h,_⟩⟩|⟨fs,j,_,_,_,h⟩
  ·refine .inl ⟨_,hd,.inl ⟨_,rfl⟩,?_⟩
   simp only[Instr.sameNow,if_true,Option.some.injEq]
   rw[Bool.eq_iff_iff];simp
  ·omega
  ·omega
 |mk a b h=>
  obtain⟨l,rfl,g2,g3,g4⟩:=hk
  obtain⟨l1,e1,a1,a2,rfl⟩:=h1
  obtain⟨l2,rfl,b1,b2,rfl⟩:=h2
  have:=keyN_inj g3 a2 g2 a1 e1
  subst this
  rw[keyN_mod g2,keyN_mod b1]at h
  rcases keyTy_is hkt with⟨d,hd,⟨h,_⟩|⟨h,_⟩⟩|⟨fs,j,hd,hs,hf,h5⟩
  ·omega
  ·omega
  ·refine .inr ⟨⟨fs,hd⟩,?_⟩
   rw[key_equal hd hs hf (by omega) (by omega)]
   congr 1
   rw[Bool.eq_iff_iff,decide_eq_true_iff]
   constructor
   ·rintro rfl;exact Nat.beq_refl _
   ·exactλe=>keyN_inj g3 b2 g2 b1 (beq_yes e)
 |str l a l' b=>
  obtain⟨g1,e1⟩:=h1
  obtain⟨g2,e2⟩:=h2
  subst e1;subst e2
  have hk':ks=1:=hk
  rcases keyTy_is hkt with⟨d,hd,⟨h,_⟩|⟨_,rfl⟩⟩|⟨fs,j,_,_,_,h⟩
  ·omega
  ·refine .inl ⟨_,hd,.inr rfl,?_⟩
   simp only[Instr.sameNow,Option.some.injEq]
   rw[Bool.eq_iff_iff,strEq_iff]
   rw[Go.MapKept.bytes_beq]
   exact sOf_eq g1 g2
  ·omega
theorem find_now {kt:TypeId} {ks:Nat} {key:SV} {kv:Value} {agg:Bool} (hk:KeyIs ks key) (hkt:keyTy P kt=some ks) (h1:KyR val ρ w key kv):
 ∀{es:List (SV×List SV)} {r:Option (List SV)},FindR key es r→∀{ms:List MapEntry} (i0:Nat),All2 (EntR val ρ w agg) es ms→
  (r=none∧Fd (KeyEq P w kt kv) ms i0 none)∨∃c m j,r=some c∧ms[j]?=some m∧Fd (KeyEq P w kt kv) ms i0 (some (i0+j,m.val))∧∃e,es[j]?=some e∧e.2=c:=by
 intro es r h
 induction h with
 |nil=>
  intro ms i0 hms
  cases ms with
  |nil=>exact .inl ⟨rfl,.nil _⟩
  |cons _ _=>exact hms.elim
 |hit e es hs=>
  intro ms i0 hms
  cases ms with
  |nil=>exact hms.elim
  |cons m ms=>
   have:=same_now hs hk hkt h1 hms.1.1
   exact .inr ⟨_,m,0,rfl,rfl,.hit _ _ _ this,e,rfl,rfl⟩
 |miss e es r hs hr ih=>
  intro ms i0 hms
  cases ms with
  |nil=>exact hms.elim
  |cons m ms=>
   have:=same_now hs hk hkt h1 hms.1.1
   rcases ih (i0+1) hms.2 with⟨g1,g2⟩|⟨c,m',j,g1,g2,g3,e',g4,g5⟩
   ·exact .inl ⟨g1,.miss _ _ _ _ this g2⟩
   ·exact .inr ⟨c,m',j+1,g1,by simpa using g2,.miss _ _ _ _ this (by rw[show i0+(j+1)=i0+1+j by omega];exact g3),e',by simpa using g4,g5⟩
theorem modify_cons {α:Type} (a:α) (l:List α) (i:Nat) (f:α→α):(a::l).modify (i+1) f=a::l.modify i f:=by simp
theorem put_now {kt:TypeId} {ks:Nat} {key:SV} {kv xv:Value} {agg:Bool} {c:List SV} {vs:List Value} (hk:KeyIs ks key) (hkt:keyTy P kt=some ks) (h1:KyR val ρ w key kv)
 (hx:if agg then xv=.agg vs.toArray else vs=[xv]) (hvs:All2 (VR val ρ w) c vs):
 ∀{es es':List (SV×List SV)},PutR key c es es'→∀{ms:List MapEntry} (i0 clock:Nat),All2 (EntR val ρ w agg) es ms→
  (∃j m,ms[j]?=some m∧Fd (KeyEq P w kt kv) ms i0 (some (i0+j,m.val))∧Instr.sameBits 10000 m.key kv=true∧All2 (EntR val ρ w agg) es' (ms.modify j λe=>{e with key:=kv,val:=xv}))∨
  (Fd (KeyEq P w kt kv) ms i0 none∧All2 (EntR val ρ w agg) es' (ms++[{key:=kv,val:=xv,born:=clock}])):=by
 have hnew:∀b,EntR val ρ w agg (key,c) {key:=kv,val:=xv,born:=b}:=λb=>⟨h1,vs,hx,hvs⟩
 intro es es' h
 induction h with
 |nil=>
  intro ms i0 clock hms
  cases ms with
  |nil=>exact .inr ⟨.nil _,hnew clock,trivial⟩
  |cons _ _=>exact hms.elim
 |hit e es hs=>
  intro ms i0 clock hms
  cases ms with
  |nil=>exact hms.elim
  |cons m ms=>
   have:=same_now hs hk hkt h1 hms.1.1
   refine .inl ⟨0,m,rfl,.hit _ _ _ this,?_,⟨h1,vs,hx,hvs⟩,hms.2⟩
   have hm:=hms.1.1
   have hb:∃b,SameR key e.1 b∧b=true:=⟨true,hs,rfl⟩
   obtain⟨b,hs',hbt⟩:=hb
   generalize e.1=s' at hs' hm
   cases hs' with
   |int kd i j=>
    have e1:kv=.int kd i:=h1
    have e2:m.key=.int kd j:=hm
    have:i=j:=by simpa using hbt
    rw[e1,e2,this]
    simp[Instr.sameBits]
   |mk a b h=>
    have:=beq_yes hbt
    subst this
    obtain⟨l1,e1,a1,a2,e3⟩:=h1
    obtain⟨l2,e2,b1,b2,e4⟩:=hm
    have:=keyN_inj a2 b2 a1 b1 (e1.symm.trans e2)
    subst this
    rw[e3,e4]
    show Instr.sameBits (9999+1) _ _=true
    simp only[Instr.sameBits,beq_self_eq_true,Bool.true_and,List.all_eq_true]
    intro p hp
    obtain⟨i,hi,e⟩:=List.getElem_of_mem hp
    rw[List.getElem_zip]at e
    rw[←e]
    simp[Instr.sameBits]
   |str l a l' b=>
    obtain⟨_,e1⟩:=h1
    obtain⟨_,e2⟩:=hm
    obtain⟨rfl,rfl⟩:=strEq_iff.1 hbt
    rw[e1,e2]
    show((sOf l a)==(sOf l a))=true
    rw[Go.MapKept.bytes_beq]
 |miss e es es' hs hr ih=>
  intro ms i0 clock hms
  cases ms with
  |nil=>exact hms.elim
  |cons m ms=>
   have:=same_now hs hk hkt h1 hms.1.1
   rcases ih (i0+1) clock hms.2 with⟨j,m',g1,g2,g3,g4⟩|⟨g1,g2⟩
   ·exact .inl ⟨j+1,m',by simpa using g1,.miss _ _ _ _ this (by rw[show i0+(j+1)=i0+1+j by omega];exact g2),g3,by rw[modify_cons];exact⟨hms.1,g4⟩⟩
   ·exact .inr ⟨.miss _ _ _ _ this g1,hms.1,g2⟩
theorem del_now {kt:TypeId} {ks:Nat} {key:SV} {kv:Value} {agg:Bool} (hk:KeyIs ks key) (hkt:keyTy P kt=some ks) (h1:KyR val ρ w key kv):
 ∀{es es':List (SV×List SV)},DelR key es es'→∀{ms:List MapEntry} (i0:Nat),All2 (EntR val ρ w agg) es ms→
  (∃j m,ms[j]?=some m∧Fd (KeyEq P w kt kv) ms i0 (some (i0+j,m.val))∧All2 (EntR val ρ w agg) es' (ms.eraseIdx j))∨(Fd (KeyEq P w kt kv) ms i0 none∧es'=es):=by
 intro es es' h
 induction h with
 |nil=>
  intro ms i0 hms
  cases ms with
  |nil=>exact .inr ⟨.nil _,rfl⟩
  |cons _ _=>exact hms.elim
 |hit e es hs=>
  intro ms i0 hms
  cases ms with
  |nil=>exact hms.elim
  |cons m ms=>
   have:=same_now hs hk hkt h1 hms.1.1
   exact .inl ⟨0,m,rfl,.hit _ _ _ this,hms.2⟩
 |miss e es es' hs hr ih=>
  intro ms i0 hms
  cases ms with
  |nil=>exact hms.elim
  |cons m ms=>
   have:=same_now hs hk hkt h1 hms.1.1
   rcases ih (i0+1) hms.2 with⟨j,m',g1,g2,g4⟩|⟨g1,g2⟩
   ·exact .inl ⟨j+1,m',by simpa using g1,.miss _ _ _ _ this (by rw[show i0+(j+1)=i0+1+j by omega];exact g2),by rw[List.eraseIdx_cons_succ];exact⟨hms.1,g4⟩⟩
   ·exact .inr ⟨.miss _ _ _ _ this g1,by rw[g2]⟩
end
theorem PutR.mem {key:SV} {c:List SV} {es es':List (SV×List SV)} (h:PutR key c es es'):∀e∈es',e=(key,c)∨e∈es:=by
 induction h with
 |nil=>intro e he;simp at he;exact .inl he
 |hit e0 es hs=>
  intro e he;simp only[List.mem_cons]at he
  rcases he with rfl|he
  ·exact .inl rfl
  ·exact .inr (by simp[he])
 |miss e0 es es' hs hr ih=>
  intro e he;simp only[List.mem_cons]at he
  rcases he with rfl|he
  ·exact .inr (by simp)
  ·exact(ih e he).imp id λh=>by simp[h]
theorem DelR.mem {key:SV} {es es':List (SV×List SV)} (h:DelR key es es'):∀e∈es',e∈es:=by
 induction h with
 |nil=>intro e he;exact he
 |hit e0 es hs=>intro e he;simp[he]
 |miss e0 es es' hs hr ih=>
  intro e he;simp only[List.mem_cons]at he
  rcases he with rfl|he
  ·simp
  ·simp[ih e he]
end
end Go.Ev
namespace Go.Ev
section
variable {P:Program} {val:Nat→Int} {fz:Fz} {tm:TM} {mu:St} {n:Nat} {o:Oper}
def MapSeen (fz:Fz) (mu:St) (agg:Bool) (v:Nat) (sm:SV) (es:List (SV×List SV)):Prop:=
 (sm=.nmp∧es=[])∨∃id cs,sm=.mp id∧(look mu id=some cs∨look mu id=none∧fz id=some cs)∧cs=.mk (mtag agg v)::flatE es∧∀e∈es,e.2.length=v
theorem readM_elim {R:Type} {T:R→Prop} {z:R} (hz:¬T z) {agg:Bool} {v:Nat} {sm:SV} {k:List (SV×List SV)→R} (h:T (readM z fz mu agg v sm k)):∃es,MapSeen fz mu agg v sm es∧T (k es):=by
 cases sm with
 |nmp=>exact⟨[],.inl ⟨rfl,rfl⟩,h⟩
 |mp id=>
  obtain⟨cs,h1,h2⟩:=lookAny_elim hz (show T (lookAny fz mu id z λcs=>isMap z agg v cs λt=>entsK z v 100000 t k)from h)
  obtain⟨t,rfl,h3⟩:=isMap_elim hz h2
  obtain⟨es,rfl,h4,h5⟩:=entsK_elim hz h3
  exact⟨es,.inr ⟨id,_,rfl,h1,rfl,h4⟩,h5⟩
 |_=>exact(hz h).elim
theorem MapSeen.entries {agg:Bool} {v:Nat} {sm:SV} {es:List (SV×List SV)} (h:MapSeen fz mu agg v sm es) {ρ:Rho} {w:World} (hr:Rel val ρ fz mu w) {x:Value} (hx:VR val ρ w sm x):
 (x=.map none∧es=[])∨∃p ms clock,x=.map (some p)∧w.heap[p]?=some (.map ms clock)∧All2 (EntR val ρ w agg) es ms.toList:=by
 rcases h with⟨rfl,rfl⟩|⟨id,cs,rfl,hl,rfl,hv⟩
 ·exact .inl ⟨hx,rfl⟩
 ·obtain⟨p,ms,clock,h1,h2,h3,h4,h5,h6⟩:=((seenG hr hl).g rfl).map hv
  obtain⟨q,g1,g2,g3⟩:=hx
  rw[h1]at g1;cases g1
  exact .inr ⟨p,ms,clock,g3,h2,h4⟩
theorem ownM_elim {R:Type} {T:R→Prop} {z:R} (hz:¬T z) {agg:Bool} {v:Nat} {sm:SV} {k:Nat→List (SV×List SV)→R} (h:T (ownM z mu agg v sm k)):
 ∃id es,sm=.mp id∧look mu id=some (.mk (mtag agg v)::flatE es)∧(∀e∈es,e.2.length=v)∧T (k id es):=by
 obtain⟨id,rfl,h1⟩:=onMp_elim hz h
 obtain⟨cs,hl,h2⟩:=option_elim hz h1
 obtain⟨t,rfl,h3⟩:=isMap_elim hz h2
 obtain⟨es,rfl,h4,h5⟩:=entsK_elim hz h3
 exact⟨id,es,rfl,hl,h4,h5⟩
theorem setM_eq {R:Type} {agg:Bool} {v id:Nat} {es:List (SV×List SV)} {k:St→R}:setM mu agg v id es k=k (putS mu id (.mk (mtag agg v)::flatE es)):=by
 unfold setM flatK
 rw[copyK_eq,fN_eq,putK_eq]
theorem sound_mkmap {t k e:TypeId} {agg:Bool} {v:Nat} (ho:o.op=.makeMap t none):Sound P val fz tm mu n o (.one (.mp n)) ((n,[.mk (mtag agg v)])::mu) (n+1):=by
 refine sound_of_run (Nat.le_succ _) λρ w act hr _ hfr=>?_
 have hn:=hfr n (Nat.le_refl _) (Nat.lt_succ_self _)
 obtain⟨b1,b2,b3,b4,b5⟩:=new_blockW (w':=w.alloc (.map #[] 0)) (cs:=[.mk (mtag agg v)]) (n:=n) (val:=val) (ρ:=ρ) (fz:=fz) (mu:=mu) (w:=w) rfl rfl rfl
  (by show(w.heap.push _).size=_;simp) (λb' hb'=>alloc_old (w:=w) _ hb') hr hn
  (λ_=>MapAt.own (es:=[]) (p:=w.heap.size) (ms:=#[]) (clock:=0) ⟨upd_same _ _ _,alloc_new (w:=w) _,λ_ h=>(by cases h),trivial,(by simp),λ_ h=>(by simp at h)⟩)
 refine⟨.map (some w.heap.size),w.alloc (.map #[] 0),.inl ?_,_,b1,b2,⟨(w.heap.size,0),upd_same _ _ _,rfl,rfl⟩,b3,b4,b5⟩
 simp[execOp,ho,Instr.makeMap]
def mgetV (ok is:Bool) (c:AV):AV:=if ok then .tp [match c with|.one s=>.one s|.ag l=>.ag l|.tp _=>.one .un,.one (.bool is)]else c
theorem mgetK_elim {R:Type} {T:R→Prop} {z:R} (hz:¬T z) {agg ok is:Bool} {c:List SV} {k:AV→R} (h:T (mgetK z agg ok c is k)):∃r,resOf agg c=some r∧T (k (mgetV ok is r)):=by
 obtain⟨r,hr,h1⟩:=asRes_elim hz h
 refine⟨r,hr,?_⟩
 cases ok with
 |false=>exact h1
 |true=>
  cases r with
  |one s=>exact h1
  |ag l=>exact h1
  |tp l=>exact(hz h1).elim
theorem resOf_AVR {ρ:Rho} {w:World} {agg:Bool} {c:List SV} {r:AV} {vs:List Value} {x:Value} (h:resOf agg c=some r) (hx:if agg then x=.agg vs.toArray else vs=[x]) (hv:All2 (VR val ρ w) c vs):AVR val ρ w r x:=by
 cases agg with
 |true=>simp[resOf]at h;subst h;exact⟨vs,hx,hv⟩
 |false=>
  have hx':vs=[x]:=hx
  subst hx'
  cases c with
  |nil=>cases h
  |cons s t=>cases t with
   |nil=>simp[resOf]at h;subst h;exact hv.1
   |cons _ _=>cases h
theorem sound_mget {t k e:TypeId} {x i:Operand} {x' i':Od} {ks:Nat} {ok agg:Bool} {zero:List SV} {v:Nat} {sm key:SV} {es:List (SV×List SV)} {r:Option (List SV)} {c:AV} (ho:o.op=.lookup t x i ok)
 (ht:P.underlying t=some (.map k e)) (hkt:keyTy P k=some ks) (hz:zeroOf P e=some zero) (hzi:zeroIs P e agg=true) (hx:od P x=some x') (hi:od P i=some i') (ex:ev tm x'=.one sm) (hkv:KeyV val (ev tm i') key) (hki:KeyIs ks key)
 (hm:MapSeen fz mu agg v sm es) (hf:FindR key es r) (hc:resOf agg (r.getD zero)=some c):Sound P val fz tm mu n o (mgetV ok r.isSome c) mu n:=by
 refine sound_pure λρ w act hr hop=>?_
 have g1:=hop x x' (by simp[ho,Op.operands]) hx
 have g2:=hop i i' (by simp[ho,Op.operands]) hi
 rw[ex]at g1
 have g2':=hkv.to (val:=val) (ρ:=ρ) (w:=w) (v:=act.eval i) g2
 have hck:=λe=>checkKey_run hkt hki g2' e
 obtain⟨zv,zi,z1,z2,z3,z4,z5⟩:=zeroOf_run hz
 have hzv:if agg then zv=.agg zv.cells else zv.cells.toList=[zv]:=by
  unfold zeroIs at hzi
  rw[z1]at hzi
  simp only[z2]at hzi
  cases zv<;>cases agg<;>first|rfl|cases hzi
 have key:∀ms:Array MapEntry,All2 (EntR val ρ w agg) es ms.toList→(r=none∧Fd (KeyEq P w k (act.eval i)) ms.toList 0 none∧AVR val ρ w c zv)∨(r.isSome=true∧∃j x,Fd (KeyEq P w k (act.eval i)) ms.toList 0 (some (j,x))∧AVR val ρ w c x):=by
  intro ms hms
  rcases find_now (val:=val) (ρ:=ρ) (w:=w) hki hkt g2' hf 0 hms with⟨e1,e2⟩|⟨cc,m,j,e1,e2,e3,e',e4,e5⟩
  ·subst e1
   refine .inl ⟨rfl,e2,?_⟩
   have hzz:=(toSVs_VR (val:=val) (ρ:=ρ) (w:=w) z3).1
   refine resOf_AVR hc ?_ hzz
   cases agg with
   |true=>simpa using hzv
   |false=>exact hzv
  ·subst e1
   refine .inr ⟨rfl,_,_,e3,?_⟩
   obtain⟨b,hb,hbb⟩:=hms.get e4
   rw[e2]at hb;cases hb
   obtain⟨_,vs,h6,h7⟩:=hbb
   rw[e5]at h7
   exact resOf_AVR hc h6 h7
 have fin:∀y,AVR val ρ w c y→AVR val ρ w (mgetV ok r.isSome c) (if ok then .tuple #[y,.bool r.isSome]else y):=by
  intro y hy
  unfold mgetV
  cases ok with
  |false=>exact hy
  |true=>
   refine⟨[y,.bool r.isSome],rfl,?_,rfl,trivial⟩
   cases c with
   |one s=>exact hy
   |ag l=>exact hy
   |tp l=>trivial
 have go:∀ms:Array MapEntry,All2 (EntR val ρ w agg) es ms.toList→((act.eval x=.map none∧ms=#[])∨∃p clock,act.eval x=.map (some p)∧w.heap[p]?=some (.map ms clock))→∃y,(execOp act.eval o).run P w=.ok (.value y) w∧AVR val ρ w (mgetV ok r.isSome c) y:=by
  intro ms hms hx
  rcases key ms hms with⟨e1,e2,e3⟩|⟨e1,j,y,e2,e3⟩
  ·refine⟨_,?_,fin _ e3⟩
   have hfk:=keyTy_run hkt e2
   rcases hx with⟨e4,e5⟩|⟨p,clock,e4,e5⟩
   ·subst e5
    simp only[execOp,ho,Instr.lookup,Sem.run_bind,run_underlying ht,Result.andThen_ok,e4,Sem.run_pure,hck,hfk,z5,e1]
    cases ok<;>rfl
   ·simp only[execOp,ho,Instr.lookup,Sem.run_bind,run_underlying ht,Result.andThen_ok,e4,Go.MapKept.run_getObj_map e5,Sem.run_pure,hck,hfk,z5,e1]
    cases ok<;>rfl
  ·refine⟨_,?_,fin _ e3⟩
   have hfk:=keyTy_run hkt e2
   rcases hx with⟨e4,e5⟩|⟨p,clock,e4,e5⟩
   ·subst e5
    simp only[execOp,ho,Instr.lookup,Sem.run_bind,run_underlying ht,Result.andThen_ok,e4,Sem.run_pure,hck,hfk,e1]
   ·simp only[execOp,ho,Instr.lookup,Sem.run_bind,run_underlying ht,Result.andThen_ok,e4,Go.MapKept.run_getObj_map e5,Sem.run_pure,hck,hfk,e1]
 rcases hm.entries hr g1 with⟨e1,e2⟩|⟨p,ms,clock,e1,e2,e3⟩
 ·subst e2
  exact go #[] trivial (.inl ⟨e1,rfl⟩)
 ·exact go ms e3 (.inr ⟨p,clock,e1,e2⟩)
theorem bsize_set {w:World} {p:Nat} {ms ms':Array MapEntry} {cl cl':Nat} (hw:w.heap[p]?=some (.map ms cl)) (b:Nat):bsize w b≤bsize {w with heap:=w.heap.setIfInBounds p (.map ms' cl')} b:=by
 obtain⟨h1,h2⟩:=Go.MapKept.heap_set (o':=.map ms' cl') hw
 by_cases hb:b=p
 ·subst hb
  have:bsize w b=0:=by unfold bsize;rw[hw]
  omega
 ·unfold bsize
  show _≤match(w.heap.setIfInBounds p (.map ms' cl'))[b]? with|some (.cells c _ _)=>c.size|_=>0
  rw[h2 b hb];exact Nat.le_refl _
theorem map_set {ρ:Rho} {w:World} {id:Nat} {agg:Bool} {v:Nat} {es es':List (SV×List SV)} {p:Nat} {ms ms':Array MapEntry} {clock clock':Nat} (hr:Rel val ρ fz mu w) (hl:look mu id=some (.mk (mtag agg v)::flatE es)) (h:MapAt val ρ w id agg v es p ms clock)
 (hv:∀e∈es',e.2.length=v∧(e.1.known=true∨e.1.isMk=true)∧knownAll e.2=true) (he:All2 (EntR val ρ w agg) es' ms'.toList) (hb:(ms'.toList.map (·.born)).Pairwise (· <·)) (hc:∀m∈ms'.toList,m.born<clock'):
 Post val ρ fz mu n w (.tp []) (putS mu id (.mk (mtag agg v)::flatE es')) n undef {w with heap:=w.heap.setIfInBounds p (.map ms' clock')}:=by
 obtain⟨h1,h2,h3,h4,h5,h6⟩:=h
 obtain⟨g1,g2⟩:=Go.MapKept.heap_set (o':=.map ms' clock') h2
 have hbs:=bsize_set (ms':=ms') (cl':=clock') h2
 obtain⟨a1,a2,a3,a4⟩:=put_blockW (n:=n) (n':=n) (w':={w with heap:=w.heap.setIfInBounds p (.map ms' clock')}) (cs':=.mk (mtag agg v)::flatE es') hr hl h1 rfl rfl rfl (by simp) g2 hbs
  (MapAt.own ⟨h1,g1,hv,he.imp λ_ _ h=>h.mono (λ_ _ h=>h) hbs,hb,hc⟩)
 exact⟨ρ,Ext.refl _ _ _,a1,⟨[],rfl,trivial⟩,a2,a3,a4⟩
theorem KeyIs.known {ks:Nat} {key:SV} (h:KeyIs ks key):key.known=true∨key.isMk=true:=by cases key<;>first|exact .inl rfl|exact .inr rfl|exact h.elim
theorem sound_mput {t k e:TypeId} {m i x:Operand} {m' i' x':Od} {ks:Nat} {agg:Bool} {v id:Nat} {key:SV} {es es':List (SV×List SV)} {c:List SV} (ho:o.op=.mapUpdate t m i x)
 (ht:P.underlying t=some (.map k e)) (hkt:keyTy P k=some ks) (hm:od P m=some m') (hi:od P i=some i') (hx:od P x=some x') (em:ev tm m'=.one (.mp id)) (hkv:KeyV val (ev tm i') key) (hki:KeyIs ks key)
 (ex:(ev tm x').cells?=some c) (hag:isAg (ev tm x') agg=true) (hlen:c.length=v) (hkn:knownAll c=true) (hl:look mu id=some (.mk (mtag agg v)::flatE es)) (hv:∀e∈es,e.2.length=v) (hp:PutR key c es es'):
 Sound P val fz tm mu n o (.tp []) (putS mu id (.mk (mtag agg v)::flatE es')) n:=by
 refine sound_of_run (Nat.le_refl _) λρ w act hr hop _=>?_
 have g1:=hop m m' (by simp[ho,Op.operands]) hm
 have g2:=hop i i' (by simp[ho,Op.operands]) hi
 have g3:=hop x x' (by simp[ho,Op.operands]) hx
 rw[em]at g1
 have g2':=hkv.to (val:=val) (ρ:=ρ) (w:=w) (v:=act.eval i) g2
 have hck:=λe=>checkKey_run hkt hki g2' e
 obtain⟨q,q1,q2,q3⟩:=g1
 obtain⟨p,ms,clock,hma⟩:=(hr.rm id _ hl).map hv
 obtain⟨h1,h2,h3,h4,h5,h6⟩:=hma
 rw[h1]at q1;cases q1
 have hxv:∃vs:List Value,(if agg then act.eval x=.agg vs.toArray else vs=[act.eval x])∧All2 (VR val ρ w) c vs:=by
  generalize ev tm x'=a at g3 ex hag
  cases a with
  |one s=>
   simp[AV.cells?]at ex;subst ex
   have:agg=false:=by cases agg<;>first|rfl|cases hag
   subst this
   exact⟨[act.eval x],rfl,g3,trivial⟩
  |ag l=>
   simp[AV.cells?]at ex;subst ex
   have:agg=true:=by cases agg<;>first|rfl|cases hag
   subst this
   obtain⟨vs,e1,e2⟩:=g3
   exact⟨vs,by simpa using e1,e2⟩
  |tp l=>simp[AV.cells?]at ex
 obtain⟨vs,hvs1,hvs2⟩:=hxv
 have hall:∀e∈es',e.2.length=v∧(e.1.known=true∨e.1.isMk=true)∧knownAll e.2=true:=λe he=>by
  rcases hp.mem e he with rfl|he
  ·exact⟨hlen,hki.known,hkn⟩
  ·exact h3 e he
 rcases put_now (val:=val) (ρ:=ρ) (w:=w) hki hkt g2' hvs1 hvs2 hp 0 clock h4 with⟨j,me,e1,e2,e3,e4⟩|⟨e1,e2⟩
 ·have hfk:=keyTy_run hkt e2
  rw[Nat.zero_add]at hfk
  have hme:((ms[j]?).map (·.key)).getD (act.eval i)=me.key:=by
   have:ms[j]?=some me:=by simpa using e1
   rw[this];rfl
  have hmod:(ms.modify j λe=>{e with key:=act.eval i,val:=act.eval x}).toList=ms.toList.modify j λe=>{e with key:=act.eval i,val:=act.eval x}:=by simp
  have hpost:=map_set (n:=n) (clock':=clock) (ms':=ms.modify j λe=>{e with key:=act.eval i,val:=act.eval x}) hr hl ⟨h1,h2,h3,h4,h5,h6⟩ hall (by rw[hmod];exact e4)
   (by
    rw[hmod]
    have:(ms.toList.modify j λe=>{e with key:=act.eval i,val:=act.eval x}).map (·.born)=ms.toList.map (·.born):=by
     apply List.ext_getElem?
     intro a
     simp only[List.getElem?_map,List.getElem?_modify]
     split
     ·cases ms.toList[a]?<;>rfl
     ·cases ms.toList[a]?<;>rfl
    rw[this];exact h5)
   (by
    intro m hm
    rw[hmod]at hm
    obtain⟨a,ha⟩:=List.getElem?_of_mem hm
    rw[List.getElem?_modify]at ha
    cases hma:ms.toList[a]? with
    |none=>rw[hma]at ha;simp at ha
    |some m0=>
     rw[hma]at ha
     have hlt:=h6 m0 (List.mem_of_getElem? hma)
     split at ha<;>(injection ha with ha;subst ha;exact hlt))
  refine⟨undef,_,.inr ⟨?_,rfl⟩,hpost⟩
  simp only[execOp,ho,Instr.mapUpdate,Sem.run_bind,run_underlying ht,Result.andThen_ok,q3,Go.MapKept.run_getObj_map h2,Sem.run_pure,hck,hfk,hme,Instr.keyThatStays,e3,if_true,Go.MapKept.run_setObj_map _ h2]
 ·have hfk:=keyTy_run hkt e1
  have hpost:=map_set (n:=n) (clock':=clock+1) (ms':=ms.push {key:=act.eval i,val:=act.eval x,born:=clock}) hr hl ⟨h1,h2,h3,h4,h5,h6⟩ hall (by rw[Array.toList_push];exact e2)
   (by
    rw[Array.toList_push,List.map_append,List.pairwise_append]
    refine⟨h5,by simp,λa ha b hb=>?_⟩
    simp only[List.map_cons,List.map_nil,List.mem_singleton]at hb
    subst hb
    obtain⟨m,hm,rfl⟩:=List.mem_map.1 ha
    exact h6 m hm)
   (by
    intro m hm
    rw[Array.toList_push,List.mem_append]at hm
    rcases hm with hm|hm
    ·have:=h6 m hm;omega
    ·simp only[List.mem_singleton]at hm;subst hm;exact Nat.lt_succ_self _)
  refine⟨undef,_,.inr ⟨?_,rfl⟩,hpost⟩
  simp only[execOp,ho,Instr.mapUpdate,Sem.run_bind,run_underlying ht,Result.andThen_ok,q3,Go.MapKept.run_getObj_map h2,Sem.run_pure,hck,hfk,Go.MapKept.run_setObj_map _ h2]
theorem sound_mins {t k e:TypeId} {m i x:Operand} {m' i' x':Od} {ks:Nat} {agg:Bool} {v id:Nat} {key:SV} {es es':List (SV×List SV)} {c:List SV} (ho:o.op=.insert t m i x)
 (ht:P.underlying t=some (.map k e)) (hkt:keyTy P k=some ks) (hm:od P m=some m') (hi:od P i=some i') (hx:od P x=some x') (em:ev tm m'=.one (.mp id)) (hkv:KeyV val (ev tm i') key) (hki:KeyIs ks key)
 (ex:(ev tm x').cells?=some c) (hag:isAg (ev tm x') agg=true) (hlen:c.length=v) (hkn:knownAll c=true) (hl:look mu id=some (.mk (mtag agg v)::flatE es)) (hv:∀e∈es,e.2.length=v) (hp:PutR key c es es'):
 Sound P val fz tm mu n o (.tp []) (putS mu id (.mk (mtag agg v)::flatE es')) n:=by
 refine sound_of_run (Nat.le_refl _) λρ w act hr hop _=>?_
 have g1:=hop m m' (by simp[ho,Op.operands]) hm
 have g2:=hop i i' (by simp[ho,Op.operands]) hi
 have g3:=hop x x' (by simp[ho,Op.operands]) hx
 rw[em]at g1
 have g2':=hkv.to (val:=val) (ρ:=ρ) (w:=w) (v:=act.eval i) g2
 have hck:=λe=>checkKey_run hkt hki g2' e
 obtain⟨q,q1,q2,q3⟩:=g1
 obtain⟨p,ms,clock,hma⟩:=(hr.rm id _ hl).map hv
 obtain⟨h1,h2,h3,h4,h5,h6⟩:=hma
 rw[h1]at q1;cases q1
 have hxv:∃vs:List Value,(if agg then act.eval x=.agg vs.toArray else vs=[act.eval x])∧All2 (VR val ρ w) c vs:=by
  generalize ev tm x'=a at g3 ex hag
  cases a with
  |one s=>
   simp[AV.cells?]at ex;subst ex
   have:agg=false:=by cases agg<;>first|rfl|cases hag
   subst this
   exact⟨[act.eval x],rfl,g3,trivial⟩
  |ag l=>
   simp[AV.cells?]at ex;subst ex
   have:agg=true:=by cases agg<;>first|rfl|cases hag
   subst this
   obtain⟨vs,e1,e2⟩:=g3
   exact⟨vs,by simpa using e1,e2⟩
  |tp l=>simp[AV.cells?]at ex
 obtain⟨vs,hvs1,hvs2⟩:=hxv
 have hall:∀e∈es',e.2.length=v∧(e.1.known=true∨e.1.isMk=true)∧knownAll e.2=true:=λe he=>by
  rcases hp.mem e he with rfl|he
  ·exact⟨hlen,hki.known,hkn⟩
  ·exact h3 e he
 rcases put_now (val:=val) (ρ:=ρ) (w:=w) hki hkt g2' hvs1 hvs2 hp 0 clock h4 with⟨j,me,e1,e2,e3,e4⟩|⟨e1,e2⟩
 ·have hfk:=keyTy_run hkt e2
  rw[Nat.zero_add]at hfk
  have hme:((ms[j]?).map (·.key)).getD (act.eval i)=me.key:=by
   have:ms[j]?=some me:=by simpa using e1
   rw[this];rfl
  have hmod:(ms.modify j λe=>{e with key:=act.eval i,val:=act.eval x}).toList=ms.toList.modify j λe=>{e with key:=act.eval i,val:=act.eval x}:=by simp
  have hpost:=map_set (n:=n) (clock':=clock) (ms':=ms.modify j λe=>{e with key:=act.eval i,val:=act.eval x}) hr hl ⟨h1,h2,h3,h4,h5,h6⟩ hall (by rw[hmod];exact e4)
   (by
    rw[hmod]
    have:(ms.toList.modify j λe=>{e with key:=act.eval i,val:=act.eval x}).map (·.born)=ms.toList.map (·.born):=by
     apply List.ext_getElem?
     intro a
     simp only[List.getElem?_map,List.getElem?_modify]
     split
     ·cases ms.toList[a]?<;>rfl
     ·cases ms.toList[a]?<;>rfl
    rw[this];exact h5)
   (by
    intro m hm
    rw[hmod]at hm
    obtain⟨a,ha⟩:=List.getElem?_of_mem hm
    rw[List.getElem?_modify]at ha
    cases hma:ms.toList[a]? with
    |none=>rw[hma]at ha;simp at ha
    |some m0=>
     rw[hma]at ha
     have hlt:=h6 m0 (List.mem_of_getElem? hma)
     split at ha<;>(injection ha with ha;subst ha;exact hlt))
  refine⟨undef,_,.inr ⟨?_,rfl⟩,hpost⟩
  simp only[execOp,ho,Instr.mapUpdate,Sem.run_bind,run_underlying ht,Result.andThen_ok,q3,Go.MapKept.run_getObj_map h2,Sem.run_pure,hck,hfk,hme,Instr.keyThatStays,e3,if_true,Go.MapKept.run_setObj_map _ h2]
 ·have hfk:=keyTy_run hkt e1
  have hpost:=map_set (n:=n) (clock':=clock+1) (ms':=ms.push {key:=act.eval i,val:=act.eval x,born:=clock}) hr hl ⟨h1,h2,h3,h4,h5,h6⟩ hall (by rw[Array.toList_push];exact e2)
   (by
    rw[Array.toList_push,List.map_append,List.pairwise_append]
    refine⟨h5,by simp,λa ha b hb=>?_⟩
    simp only[List.map_cons,List.map_nil,List.mem_singleton]at hb
    subst hb
    obtain⟨m,hm,rfl⟩:=List.mem_map.1 ha
    exact h6 m hm)
   (by
    intro m hm
    rw[Array.toList_push,List.mem_append]at hm
    rcases hm with hm|hm
    ·have:=h6 m hm;omega
    ·simp only[List.mem_singleton]at hm;subst hm;exact Nat.lt_succ_self _)
  refine⟨undef,_,.inr ⟨?_,rfl⟩,hpost⟩
  simp only[execOp,ho,Instr.mapUpdate,Sem.run_bind,run_underlying ht,Result.andThen_ok,q3,Go.MapKept.run_getObj_map h2,Sem.run_pure,hck,hfk,Go.MapKept.run_setObj_map _ h2]
end
end Go.Ev
namespace Go.Ev
section
variable {P:Program} {val:Nat→Int} {fz:Fz} {tm:TM} {mu:St} {n:Nat} {o:Oper}
theorem sound_mdel {c:Call} {t t2 k e:TypeId} {m i:Operand} {m' i':Od} {ks:Nat} {agg:Bool} {v id:Nat} {key:SV} {es es':List (SV×List SV)} (ho:o.op=.call c) (hc:c.callee=.builtin .delete) (hty:c.argTypes=#[t,t2]) (ha:c.args=#[m,i])
 (ht:P.underlying t=some (.map k e)) (hkt:keyTy P k=some ks) (hm:od P m=some m') (hi:od P i=some i') (em:ev tm m'=.one (.mp id)) (hkv:KeyV val (ev tm i') key) (hki:KeyIs ks key)
 (hl:look mu id=some (.mk (mtag agg v)::flatE es)) (hv:∀e∈es,e.2.length=v) (hp:DelR key es es'):
 Sound P val fz tm mu n o (.tp []) (putS mu id (.mk (mtag agg v)::flatE es')) n:=by
 refine sound_of_run (Nat.le_refl _) λρ w act hr hop _=>?_
 have g1:=hop m m' (by simp[ho,Op.operands,Call.operands,hc,ha]) hm
 have g2:=hop i i' (by simp[ho,Op.operands,Call.operands,hc,ha]) hi
 rw[em]at g1
 have g2':=hkv.to (val:=val) (ρ:=ρ) (w:=w) (v:=act.eval i) g2
 have hck:=λe=>checkKey_run hkt hki g2' e
 obtain⟨q,q1,q2,q3⟩:=g1
 obtain⟨p,ms,clock,hma⟩:=(hr.rm id _ hl).map hv
 obtain⟨h1,h2,h3,h4,h5,h6⟩:=hma
 rw[h1]at q1;cases q1
 have hall:∀e∈es',e.2.length=v∧(e.1.known=true∨e.1.isMk=true)∧knownAll e.2=true:=λe he=>h3 e (hp.mem e he)
 have fin:∀(w':World),(Builtin.delete_ #[t,t2] o.type #[act.eval m,act.eval i]).run P w=.ok (.tuple #[]) w'→(execOp act.eval o).run P w=.ok (.value (.tuple #[])) w':=by
  intro w' h
  simp[execOp,ho,resolve,hc,invoke,builtin,hty,ha,h]
 have conv:∀{w':World} {mu':St},Post val ρ fz mu n w (.tp []) mu' n undef w'→Post val ρ fz mu n w (.tp []) mu' n (.tuple #[]) w':=by
  rintro w' mu' ⟨ρ',p1,p2,_,p4,p5,p6⟩
  exact⟨ρ',p1,p2,⟨[],rfl,trivial⟩,p4,p5,p6⟩
 rcases del_now (val:=val) (ρ:=ρ) (w:=w) hki hkt g2' hp 0 h4 with⟨j,me,e1,e2,e4⟩|⟨e1,e2⟩
 ·have hfk:=keyTy_run hkt e2
  rw[Nat.zero_add]at hfk
  have hmod:(ms.eraseIdxIfInBounds j).toList=ms.toList.eraseIdx j:=by simp
  have hpost:=map_set (n:=n) (clock':=clock) (ms':=ms.eraseIdxIfInBounds j) hr hl ⟨h1,h2,h3,h4,h5,h6⟩ hall (by rw[hmod];exact e4)
   (by rw[hmod];exact h5.sublist ((List.eraseIdx_sublist _ j).map _))
   (λm hm=>h6 m (by rw[hmod]at hm;exact List.mem_of_mem_eraseIdx hm))
  refine⟨_,_,.inl (fin _ ?_),conv hpost⟩
  simp only[Builtin.delete_,List.getElem?_toArray,List.getElem?_cons_zero,List.getElem?_cons_succ,Sem.run_bind,run_underlying ht,Result.andThen_ok,q3,Go.MapKept.run_getObj_map h2,Sem.run_pure,hck,hfk,Go.MapKept.run_setObj_map _ h2]
 ·have hfk:=keyTy_run hkt e1
  subst e2
  have hpost:=map_set (n:=n) (clock':=clock) (ms':=ms) hr hl ⟨h1,h2,h3,h4,h5,h6⟩ h3 h4 h5 h6
  refine⟨_,_,.inl (fin _ ?_),conv hpost⟩
  simp only[Builtin.delete_,List.getElem?_toArray,List.getElem?_cons_zero,List.getElem?_cons_succ,Sem.run_bind,run_underlying ht,Result.andThen_ok,q3,Go.MapKept.run_getObj_map h2,Sem.run_pure,hck,hfk,Go.MapKept.run_setObj_map _ h2]
theorem sound_mclr {c:Call} {t k e:TypeId} {m:Operand} {m':Od} {agg:Bool} {v id:Nat} {es:List (SV×List SV)} (ho:o.op=.call c) (hc:c.callee=.builtin .clear) (hty:c.argTypes=#[t]) (ha:c.args=#[m])
 (ht:P.underlying t=some (.map k e)) (hm:od P m=some m') (em:ev tm m'=.one (.mp id)) (hl:look mu id=some (.mk (mtag agg v)::flatE es)) (hv:∀e∈es,e.2.length=v):
 Sound P val fz tm mu n o (.tp []) (putS mu id (.mk (mtag agg v)::flatE [])) n:=by
 refine sound_of_run (Nat.le_refl _) λρ w act hr hop _=>?_
 have g1:=hop m m' (by simp[ho,Op.operands,Call.operands,hc,ha]) hm
 rw[em]at g1
 obtain⟨q,q1,q2,q3⟩:=g1
 obtain⟨p,ms,clock,hma⟩:=(hr.rm id _ hl).map hv
 obtain⟨h1,h2,h3,h4,h5,h6⟩:=hma
 rw[h1]at q1;cases q1
 have hpost:=map_set (n:=n) (clock':=clock) (ms':=#[]) (es':=[]) hr hl ⟨h1,h2,h3,h4,h5,h6⟩ (λ_ h=>(by cases h)) trivial (by simp) (λ_ h=>(by simp at h))
 obtain⟨ρ',p1,p2,_,p4,p5,p6⟩:=hpost
 refine⟨_,_,.inl ?_,ρ',p1,p2,⟨[],rfl,trivial⟩,p4,p5,p6⟩
 have key:(Builtin.clear_ #[t] o.type #[act.eval m]).run P w=.ok (.tuple #[]) {w with heap:=w.heap.setIfInBounds p (.map #[] clock)}:=by
  simp only[Builtin.clear_,List.getElem?_toArray,List.getElem?_cons_zero,Sem.run_bind,run_underlying ht,Result.andThen_ok,q3,Go.MapKept.run_getObj_map h2,Sem.run_pure,Go.MapKept.run_setObj_map _ h2]
 simp[execOp,ho,resolve,hc,invoke,builtin,hty,ha,key]
theorem sound_mlen {c:Call} {t k e:TypeId} {m:Operand} {m':Od} {agg:Bool} {v:Nat} {sm:SV} {es:List (SV×List SV)} (ho:o.op=.call c) (hc:c.callee=.builtin .len) (hty:c.argTypes=#[t]) (ha:c.args=#[m])
 (ht:P.underlying t=some (.map k e)) (hm:od P m=some m') (em:ev tm m'=.one sm) (hs:MapSeen fz mu agg v sm es):
 Sound P val fz tm mu n o (.one (.int .i64 (Int.ofNat es.length))) mu n:=by
 refine sound_pure λρ w act hr hop=>?_
 have g1:=hop m m' (by simp[ho,Op.operands,Call.operands,hc,ha]) hm
 rw[em]at g1
 refine⟨.int .i64 (Int.ofNat es.length),?_,rfl⟩
 have key:(Builtin.len_ #[t] o.type #[act.eval m]).run P w=.ok (.int .i64 (Int.ofNat es.length)) w:=by
  rcases hs.entries hr g1 with⟨e1,e2⟩|⟨p,ms,clock,e1,e2,e3⟩
  ·subst e2;simp[Builtin.len_,run_underlying ht,e1,goInt]
  ·have:=e3.length
   have h2:ms.size=es.length:=by simpa using this.symm
   simp[Builtin.len_,run_underlying ht,e1,Go.MapKept.run_getObj_map e2,goInt,h2]
 simp[execOp,ho,resolve,hc,invoke,builtin,hty,ha,key]
theorem rep_VR {ρ:Rho} {w:World} {v:Value} {zs:List SV} (hz:toSVs v.cells.toList=some zs) (h0:zs.length≠0) (m:Nat):All2 (VR val ρ w) (rep zs m) (Builtin.zeroCells v.cells m).toList:=by
 have hl:zs.length=v.cells.size:=by have:=(toSVs_VR (val:=val) (ρ:=ρ) (w:=w) hz).1.length;simpa using this
 refine All2.of_get (by rw[rep_length];simp[Builtin.zeroCells,hl]) λi a b ha hb=>?_
 obtain⟨x,e1,e2⟩:=rep_zero (val:=val) (ρ:=ρ) (w:=w) hz h0 m m (Nat.le_refl _) i a ha
 rw[hl]at e1
 have:(Builtin.zeroCells v.cells m)[i]?=some b:=by simpa using hb
 unfold Builtin.zeroCells at this
 rw[e1]at this;cases this
 exact e2
theorem sound_clr {c:Call} {t e:TypeId} {x:Operand} {x':Od} {s id off len cap:Nat} {zs known:List SV} (ho:o.op=.call c) (hc:c.callee=.builtin .clear) (hty:c.argTypes=#[t]) (ha:c.args=#[x])
 (ht:P.underlying t=some (.slice e)) (hs:szOf P e=some s) (hs0:s≠0) (hzs:zeroOf P e=some zs) (hx:od P x=some x') (ex:ev tm x'=.one (.osl id off len cap s)) (hkn:knownAll (rep zs len)=true) (hl:look mu id=some known) (hm:mkd known=false)
 (hb:off+(rep zs len).length≤known.length):Sound P val fz tm mu n o (.tp []) (putS mu id (over known off (rep zs len))) n:=by
 refine sound_of_run (Nat.le_refl _) λρ w act hr hop _=>?_
 have g1:=hop x x' (by simp[ho,Op.operands,Call.operands,hc,ha]) hx
 rw[ex]at g1
 obtain⟨p,cc,hp,g1',q1,q2,q3,q4⟩:=g1
 obtain⟨v,i,z1,z2,z3,z4,z5⟩:=zeroOf_run hzs
 have hz0:zs.length≠0:=by
  have:i.size=s:=by unfold szOf at hs;rw[z1]at hs;simpa using hs
  omega
 have hv:=rep_VR (val:=val) (ρ:=ρ) (w:=w) z3 hz0 len
 obtain⟨q,w',e1,e2,e3,e4,e5,e6,e7⟩:=put_block (P:=P) (n:=n) (n':=n) hr hl hm hb hv (known_all hv hkn)
 rw[hp]at e1;cases e1
 refine⟨.tuple #[],w',.inl ?_,ρ,Ext.refl _ _ _,e3,⟨[],rfl,trivial⟩,e4,e5,e6⟩
 have key:(Builtin.clear_ #[t] o.type #[act.eval x]).run P w=.ok (.tuple #[]) w':=by
  by_cases h0:len=0
  ·subst h0
   have hw:w'=w:=by
    have:(Builtin.zeroCells v.cells 0).toList=[]:=by simp[Builtin.zeroCells]
    rw[this]at e2
    have h2:(storeCells ⟨p.1,p.2+off,none⟩ []).run P w=.ok () w:=rfl
    rw[h2]at e2
    injection e2 with _ h3
    exact h3.symm
   subst hw
   simp[Builtin.clear_,run_underlying ht,g1']
  ·obtain⟨m,rfl⟩:∃m,len=m+1:=⟨len-1,by omega⟩
   simp only[Builtin.clear_,List.getElem?_toArray,List.getElem?_cons_zero,Sem.run_bind,run_underlying ht,Result.andThen_ok,g1',z5,e2,Sem.run_pure]
 simp[execOp,ho,resolve,hc,invoke,builtin,hty,ha,key]
theorem sound_clr0 {c:Call} {t e:TypeId} {x:Operand} {x':Od} {sx:SV} (ho:o.op=.call c) (hc:c.callee=.builtin .clear) (hty:c.argTypes=#[t]) (ha:c.args=#[x])
 (ht:P.underlying t=some (.slice e)) (hx:od P x=some x') (ex:ev tm x'=.one sx) (hk:sx=.nsl∨sx=.esl∨sx=.zsl):Sound P val fz tm mu n o (.tp []) mu n:=by
 refine sound_pure λρ w act hr hop=>?_
 have g1:=hop x x' (by simp[ho,Op.operands,Call.operands,hc,ha]) hx
 rw[ex]at g1
 refine⟨.tuple #[],?_,[],rfl,trivial⟩
 have key:(Builtin.clear_ #[t] o.type #[act.eval x]).run P w=.ok (.tuple #[]) w:=by
  rcases hk with rfl|rfl|rfl
  ·have g:act.eval x=.slice none 0 0:=g1
   simp[Builtin.clear_,run_underlying ht,g]
  ·obtain⟨a,g⟩:=g1;simp[Builtin.clear_,run_underlying ht,g]
  ·obtain⟨a,cc,g⟩:=g1;simp[Builtin.clear_,run_underlying ht,g]
 simp[execOp,ho,resolve,hc,invoke,builtin,hty,ha,key]
theorem sound_slcA {t e:TypeId} {x:Operand} {x':Od} {s len id off:Nat} {cs:List SV} (ho:o.op=.slice t x none none none) (ht:P.underlying t=some (.array len e)) (hs:szOf P e=some s) (hlen:len≤9223372036854775807) (hx:od P x=some x') (ex:ev tm x'=.one (.optr id off))
 (hl:(look mu id=some cs∨look mu id=none∧fz id=some cs)∧mkd cs=false) (hb:off+len*s≤cs.length):Sound P val fz tm mu n o (.one (.osl id off len len s)) mu n:=by
 refine sound_pure λρ w act hr hop=>?_
 have g1:=hop x x' (by simp[ho,Op.operands]) hx
 rw[ex]at g1
 obtain⟨p,hp,g⟩:=g1
 obtain⟨q,C,ty,fr,h1,h2,h4,h5⟩:=seen hr hl
 rw[hp]at h1;cases h1
 refine⟨.slice (some ⟨p.1,p.2+off,none⟩) len len,?_,p,len,hp,rfl,Nat.le_refl _,Nat.le_refl _,?_,hlen⟩
 ·have hsz:=szOf_run hs w
  have hbd:(Instr.sliceBounds false len len none none none).run P w=.ok (0,len,len) w:=by simp[Instr.sliceBounds]
  have haddr:(if len=0 then(⟨p.1,p.2+off,none⟩:Addr)else(⟨p.1,p.2+off,none⟩:Addr).add (0*s))=⟨p.1,p.2+off,none⟩:=by
   split
   ·rfl
   ·rw[Nat.zero_mul,addr_add];rfl
  have:(Instr.sliceAt t (.pointer (some ⟨p.1,p.2+off,none⟩)) none none none).run P w=.ok (.slice (some ⟨p.1,p.2+off,none⟩) len len) w:=by
   simp only[Instr.sliceAt,Sem.run_bind,run_underlying ht,Result.andThen_ok,Instr.sureAddr,Sem.run_pure,hbd,hsz,haddr,Nat.sub_zero]
  simp[execOp,ho,g,this]
 ·unfold bsize;rw[h2];show p.2+off+len*s≤C.size;omega
theorem sound_appIn {c:Call} {x y:Operand} {x' y':Od} {s b id off len cap:Nat} {sT xT e:TypeId} {i:TypeInfo} {zv:Value} {sy:SV} {src known:List SV} {cnt:Nat} (ht:AppT P c x y s b sT xT e i zv) (ho:o.op=.call c)
 (hx:od P x=some x') (hy:od P y=some y') (ex:ev tm x'=.one (.osl id off len cap s)) (ey:ev tm y'=.one sy) (hsrc:SrcOk P val fz mu s sy src cnt) (hks:knownAll src=true) (hcap:len+cnt≤cap)
 (hl:look mu id=some known) (hm:mkd known=false) (hkl:off+len*s+src.length≤known.length):
 Sound P val fz tm mu n o (.one (.osl id off (len+cnt) cap s)) (putS mu id (over known (off+len*s) src)) n:=by
 refine sound_of_run (Nat.le_refl _) λρ w a hr hop _=>?_
 have g1:=hop x x' (by simp[ho,Op.operands,Call.operands,ht.callee,ht.args]) hx
 have g2:=hop y y' (by simp[ho,Op.operands,Call.operands,ht.callee,ht.args]) hy
 rw[ex]at g1;rw[ey]at g2
 obtain⟨p,cc,hp,g1',q1,q2,q3,q4⟩:=g1
 obtain⟨hlen,_,news,hv,hf⟩:=hsrc.2 ρ w _ hr g2
 have hnl:news.length=cnt*s:=by rw[←hv.length,hsrc.1]
 have hf1:=hf cnt (Nat.le_refl _) w (Like.refl w)
 rw[←hnl,List.take_length,←ht.size]at hf1
 obtain⟨q,w',e1,e2,e3,e4,e5,e6,e7⟩:=put_block (P:=P) (n:=n) (n':=n) hr hl hm hkl hv (known_all hv hks)
 rw[hp]at e1;cases e1
 have hst:(storeCells ((⟨p.1,p.2+off,none⟩:Addr).add (len*i.size)) news).run P w=.ok () w':=by rw[addr_add,ht.size,Nat.add_assoc];exact e2
 have hap:=append_fits (P:=P) (ty:=o.type) (sCap:=cc) ht.under ht.src ht.info (hlen w) (by omega) hf1 hst
 rw[←g1']at hap
 exact⟨_,_,.inl (app_exec ht ho hap),ρ,Ext.refl _ _ _,e3,⟨p,cc,hp,rfl,hcap,q2,by rw[e7];exact q3,q4⟩,e4,e5,e6⟩
end
end Go.Ev
namespace Go.Ev
section
variable {R:Type} {T:R→Prop} {z:R} {P:Program} {val:Nat→Int} {fz:Fz} {tm:TM} {mu:St} {n:Nat} {o:Oper} {orc:Orc R} {call:CallT R}
theorem aop_builtin (hz:¬T z) (hk:OrcOk T val orc) {ro:Bool} {c:Call} {b:Builtin} {ys:List Od} {op:AOp} {k:KT R} (ho:o.op=.call c) (hcal:c.callee=.builtin b) (hys:ods P c.args.toList=some ys)
 (hp:prepBuiltin P b c.argTypes.toList ys=some op) (h:T (aop orc z call fz tm mu n ro op k)):∃v mu' n',T (k v mu' n')∧Sound P val fz tm mu n o v mu' n':=by
 have arg1:∀y,ys=[y]→∃x,c.args=#[x]∧od P x=some y:=by
  rintro y rfl
  cases hl:c.args.toList with
  |nil=>rw[hl]at hys;simp[ods]at hys
  |cons x r=>
   rw[hl]at hys
   simp only[ods]at hys
   split at hys
   ·rename_i a l h1 h2
    cases hys
    cases r with
    |nil=>exact⟨x,by apply Array.ext';simpa using hl,h1⟩
    |cons u v=>simp only[ods]at h2;split at h2<;>cases h2
   ·cases hys
 have arg2:∀y y',ys=[y,y']→∃x x',c.args=#[x,x']∧od P x=some y∧od P x'=some y':=by
  rintro y y' rfl
  cases hl:c.args.toList with
  |nil=>rw[hl]at hys;simp[ods]at hys
  |cons x r=>
   rw[hl]at hys
   simp only[ods]at hys
   split at hys
   ·rename_i a l h1 h2
    cases hys
    cases r with
    |nil=>simp[ods]at h2
    |cons u v=>
     simp only[ods]at h2
     split at h2
     ·rename_i a' l' h3 h4
      cases h2
      cases v with
      |nil=>exact⟨x,u,by apply Array.ext';simpa using hl,h1,h3⟩
      |cons _ _=>simp only[ods]at h4;split at h4<;>cases h4
     ·cases h2
   ·cases hys
 have appCase:∀(t u:TypeId) (x y:Od) (e:TypeId) (s bb:Nat) (zs:List SV),c.argTypes.toList=[t,u]→ys=[x,y]→P.underlying t=some (.slice e)→((∃e',P.underlying u=some (.slice e'))∨P.underlying u=some .string)→
  szOf P e=some s→byOf P e=some bb→zeroOf P e=some zs→s≠0→b=.append→T (oAppend z fz tm mu n s bb x y k)→∃v mu' n',T (k v mu' n')∧Sound P val fz tm mu n o v mu' n':=by
  intro t u x y e s bb zs hts hys' hut huu hs hb hzs hs0 hbb h
  obtain⟨x0,y0,ha,hx0,hy0⟩:=arg2 x y hys'
  obtain⟨zv,i,i1,i2,i3,i4,i5⟩:=zeroOf_run hzs
  have hsi:i.size=s:=by unfold szOf at hs;rw[i1]at hs;simpa using hs
  have hbi:i.bytes=bb:=by unfold byOf at hb;rw[i1]at hb;simpa using hb
  have hzl:zv.cells.size=s:=by
   have:=(toSVs_VR (val:=val) (ρ:=λ_=>none) (w:=default) i3).1.length
   rw[←hsi,←i4];simpa using this.symm
  have ht:AppT P c x0 y0 s bb t u e i zv:=⟨by rw[hcal,hbb],by apply Array.ext';simpa using hts,ha,hut,huu,i1,hsi,hbi,i5,hzl⟩
  obtain⟨sx,ex,h1⟩:=onOne_elim hz h
  obtain⟨sy,ey,h2⟩:=onOne_elim hz h1
  obtain⟨src,cnt,hsrc,h3⟩:=srcK_elim (P:=P) (val:=val) hz h2
  obtain⟨hk,h4⟩:=cond_elim hz h3
  have new:(sx=.nsl∨sx=.esl)→T (appNew z mu n s bb sx src cnt k)→∃v mu' n',T (k v mu' n')∧Sound P val fz tm mu n o v mu' n':=by
   intro hsx h
   unfold appNew at h
   cases hc0:Nat.beq cnt 0 with
   |true=>
    rw[hc0]at h
    have:cnt=0:=beq_yes hc0
    subst this
    exact⟨_,_,_,h,sound_appZero ht ho hx0 hy0 ex ey hsrc (hsx.elim .inl λh=>.inr (.inl h))⟩
   |false=>
    rw[hc0]at h
    obtain⟨hr,h⟩:=cond_elim hz h
    rw[fN_eq]at h
    have hne:cnt≠0:=λe=>by subst e;cases hc0
    exact⟨_,_,_,h,sound_appNew ht ho hx0 hy0 ex ey hsrc hsx hne hr⟩
  cases sx with
  |nsl=>exact new (.inl rfl) h4
  |esl=>exact new (.inr rfl) h4
  |osl id off len cap s'=>
   have h5:T (appOwn z mu n s bb (.osl id off len cap s') id off len cap s' src cnt k):=h4
   unfold appOwn at h5
   cases hc0:Nat.beq cnt 0 with
   |true=>
    rw[hc0]at h5
    have:cnt=0:=beq_yes hc0
    subst this
    exact⟨_,_,_,h5,sound_appZero ht ho hx0 hy0 ex ey hsrc (.inr (.inr ⟨_,_,_,_,_,rfl⟩))⟩
   |false=>
    rw[hc0]at h5
    have hne:cnt≠0:=λe=>by subst e;cases hc0
    obtain⟨hr,h6⟩:=cond_elim hz h5
    simp only[Bool.and_eq_true]at hr
    have hss:s'=s:=beq_yes hr.1
    subst hss
    obtain⟨known,hl,hmk,h7⟩:=onLook_elim hz h6
    rw[fN_eq]at h7
    obtain⟨h8,h9⟩:=subK_elim hz h7
    rw[lenK_eq]at h9
    cases h10:Nat.beq (0+known.length) (Nat.add off (Nat.mul len s'))with
    |true=>
     rw[h10]at h9
     have h11:T (appK ((known.drop off).take (Nat.mul len s')) src λcs=>killK mu id λmu=>fN (Nat.add len cnt) λl=>fN (Nat.succ n) λn'=>k (.one (.osl n 0 l l s')) ((n,cs)::mu) n'):=h9
     simp only[appK_eq,killK_eq,fN_eq]at h11
     have hkl:known.length=off+len*s':=by have:=beq_yes h10;simpa using this
     have hd:(known.drop off).take (Nat.mul len s')=known.drop off:=List.take_of_length_le (by simp[hkl])
     rw[hd]at h11
     exact⟨_,_,_,h11,sound_appOwn ht ho hx0 hy0 ex ey hsrc hk hne hr.2 hl hmk hkl⟩
    |false=>
     rw[h10]at h9
     obtain⟨h11,h12⟩:=cond_elim hz h9
     rw[fN_eq]at h12
     obtain⟨h13,h14⟩:=overK_elim hz h12
     rw[putK_eq,fN_eq]at h14
     exact⟨_,_,_,h14,sound_appIn ht ho hx0 hy0 ex ey hsrc hk (Nat.le_of_ble_eq_true h11) hl hmk h13⟩
  |_=>exact(hz h4).elim
 have tys1:∀t,c.argTypes.toList=[t]→c.argTypes=#[t]:=λt h=>by apply Array.ext';simpa using h
 have tys2:∀t u,c.argTypes.toList=[t,u]→c.argTypes=#[t,u]:=λt u h=>by apply Array.ext';simpa using h
 generalize hts:c.argTypes.toList=ts at hp
 unfold prepBuiltin at hp
 split at hp
 ·rename_i t x
  obtain⟨x0,ha,hx0⟩:=arg1 x rfl
  have hty:=tys1 t hts
  split at hp
  ·rename_i e hu
   cases hp
   obtain⟨s,ex,h1⟩:=onOne_elim hz (show T (oLen z tm mu n false x k)from h)
   obtain⟨hst,h2⟩:=cond_elim hz h1
   have hns:∀l b,s≠.str l b:=λl b e=>by subst e;cases hst
   have fin:∀m,lenOf s=some m→T (k (.one (.int .i64 (Int.ofNat m))) mu n)→∃v mu' n',T (k v mu' n')∧Sound P val fz tm mu n o v mu' n':=λm hm h=>⟨_,_,_,h,sound_len ho hcal hty ha (.inl ⟨e,hu,hns⟩) hx0 ex hm⟩
   cases s<;>first|exact(hz h2).elim|exact fin _ rfl h2|exact(hns _ _ rfl).elim
  ·rename_i hu
   cases hp
   obtain⟨s,ex,h1⟩:=onOne_elim hz (show T (oLen z tm mu n true x k)from h)
   obtain⟨hst,h2⟩:=cond_elim hz h1
   cases s<;>first|(cases hst;done)|skip
   rename_i l b
   exact⟨_,_,_,h2,sound_len ho hcal hty ha (.inr ⟨hu,l,b,rfl⟩) hx0 ex rfl⟩
  ·rename_i kt e hu
   split at hp
   ·rename_i a v ha0 hs0
    cases hp
    obtain⟨sm,em,h1⟩:=onOne_elim hz (show T ((ev tm x).onOne z λm=>readM z fz mu a v m λes=>fN es.length λl=>k (.one (.int .i64 (Int.ofNat l))) mu n)from h)
    obtain⟨es,hes,h2⟩:=readM_elim hz h1
    rw[fN_eq]at h2
    exact⟨_,_,_,h2,sound_mlen ho hcal hty ha hu hx0 em hes⟩
   ·cases hp
  ·cases hp
 ·rename_i t x
  obtain⟨x0,ha,hx0⟩:=arg1 x rfl
  have hty:=tys1 t hts
  split at hp
  ·rename_i e hu
   split at hp
   ·rename_i s zs hs hzs
    split at hp
    ·rename_i hs0
     cases hp
     obtain⟨sx,ex,h1⟩:=onOne_elim hz (show T ((ev tm x).onOne z λx=>SV.rec (motive:=λ_=>R) z (λ_ _=>z) (λ_=>z) (λ_ _=>z) (k noVal mu n) z z (λ_ _=>z)
      (λid off len _ s'=>cond (Nat.beq s' s) (copyK (rep zs len) λcs=>oPut z mu id off cs λmu=>k noVal mu n) z) (k noVal mu n) (k noVal mu n) (λ_ _=>z) (λ_ _=>z) z (λ_=>z) z (λ_=>z) x)from h)
     cases sx with
     |nsl=>exact⟨_,_,_,h1,sound_clr0 ho hcal hty ha hu hx0 ex (.inl rfl)⟩
     |esl=>exact⟨_,_,_,h1,sound_clr0 ho hcal hty ha hu hx0 ex (.inr (.inl rfl))⟩
     |zsl=>exact⟨_,_,_,h1,sound_clr0 ho hcal hty ha hu hx0 ex (.inr (.inr rfl))⟩
     |osl id off len cap s'=>
      obtain⟨hss,h2⟩:=cond_elim hz (show T (cond (Nat.beq s' s) (copyK (rep zs len) λcs=>oPut z mu id off cs λmu=>k noVal mu n) z)from h1)
      have hss':s'=s:=beq_yes hss
      subst hss'
      rw[copyK_eq]at h2
      obtain⟨hkn,h3⟩:=cond_elim hz (show T (cond (knownAll (rep zs len)) (onLook mu id z λcs=>overK cs off (rep zs len) z λcs=>putK mu id cs λmu=>k noVal mu n) z)from h2)
      obtain⟨known,hl,hmk,h4⟩:=onLook_elim hz h3
      obtain⟨hb,h5⟩:=overK_elim hz h4
      rw[putK_eq]at h5
      exact⟨_,_,_,h5,sound_clr ho hcal hty ha hu hs (by simpa using hs0) hzs hx0 ex hkn hl hmk hb⟩
     |_=>exact(hz h1).elim
    ·cases hp
   ·cases hp
  ·rename_i kt e hu
   split at hp
   ·rename_i a v ha0 hs0
    cases hp
    obtain⟨sm,em,h1⟩:=onOne_elim hz (show T ((ev tm x).onOne z λm=>ownM z mu a v m λid _=>setM mu a v id [] λmu=>k noVal mu n)from h)
    obtain⟨id,es,rfl,hl,hv,h2⟩:=ownM_elim hz h1
    rw[setM_eq]at h2
    exact⟨_,_,_,h2,sound_mclr ho hcal hty ha hu hx0 em hl hv⟩
   ·cases hp
  ·cases hp
 ·rename_i t t2 x y
  obtain⟨x0,y0,ha,hx0,hy0⟩:=arg2 x y rfl
  have hty:=tys2 t t2 hts
  split at hp
  ·rename_i kt e hu
   split at hp
   ·rename_i ks a v hkt ha0 hs0
    cases hp
    obtain⟨sm,em,h1⟩:=onOne_elim hz (show T ((ev tm x).onOne z λm=>keyK orc z ks (ev tm y) λkey=>ownM z mu a v m λid es=>delE z key es λes=>setM mu a v id es λmu=>k noVal mu n)from h)
    obtain⟨key,hkv,hki,h2⟩:=keyK_elim hz hk h1
    obtain⟨id,es,rfl,hl,hv,h3⟩:=ownM_elim hz h2
    obtain⟨es',hd,h4⟩:=delE_elim hz h3
    rw[setM_eq]at h4
    exact⟨_,_,_,h4,sound_mdel ho hcal hty ha hu hkt hx0 hy0 em hkv hki hl hv hd⟩
   ·cases hp
  ·cases hp
 ·rename_i t x
  obtain⟨x0,ha,hx0⟩:=arg1 x rfl
  have hty:=tys1 t hts
  split at hp
  ·rename_i e hu
   cases hp
   obtain⟨s,ex,h1⟩:=onOne_elim hz (show T (oCap z tm mu n x k)from h)
   cases s<;>first|exact(hz h1).elim|exact⟨_,_,_,h1,sound_cap ho hcal hty ha hu hx0 ex (.inl rfl)⟩|exact⟨_,_,_,h1,sound_cap ho hcal hty ha hu hx0 ex (.inr rfl)⟩
  ·cases hp
 ·rename_i t u x y
  split at hp
  ·rename_i e e' hut huu
   split at hp
   ·rename_i s bb zs hs hb hzs
    split at hp
    ·rename_i hs0
     cases hp
     exact appCase t u x y e s bb zs hts rfl hut (.inl ⟨e',huu⟩) hs hb hzs (by simpa using hs0) rfl h
    ·cases hp
   ·cases hp
  ·rename_i e hut huu
   split at hp
   ·rename_i s bb zs hs hb hzs
    split at hp
    ·rename_i hs0
     cases hp
     exact appCase t u x y e s bb zs hts rfl hut (.inr huu) hs hb hzs (by simpa using hs0) rfl h
    ·cases hp
   ·cases hp
  ·cases hp
 ·rename_i t u x y
  obtain⟨x0,y0,ha,hx0,hy0⟩:=arg2 x y rfl
  have hty:=tys2 t u hts
  split at hp
  ·rename_i e hu
   split at hp
   ·rename_i s hs
    split at hp
    ·rename_i hs0
     cases hp
     obtain⟨sx,ex,h1⟩:=onOne_elim hz (show T (oCopy z fz tm mu n s x y k)from h)
     obtain⟨id,off,len,cap,s',e2,h2⟩:=onSl_elim hz h1
     subst e2
     obtain⟨sy,ey,h3⟩:=onOne_elim hz h2
     obtain⟨hss,h4⟩:=cond_elim hz h3
     have hss':s'=s:=beq_yes hss
     subst hss'
     obtain⟨src,cnt,hsrc,h5⟩:=srcK_elim (P:=P) (val:=val) hz h4
     rw[fN_eq]at h5
     obtain⟨h6,h7⟩:=takeK_elim hz h5
     obtain⟨hk,h8⟩:=cond_elim hz (show T (cond (knownAll (src.take (Nat.mul (Nat.min cnt len) s'))) (onLook mu id z λcs=>overK cs off (src.take (Nat.mul (Nat.min cnt len) s')) z λcs=>putK mu id cs λmu=>k (.one (.int .i64 (Int.ofNat (Nat.min cnt len)))) mu n) z)from h7)
     obtain⟨known,hl,hmk,h9⟩:=onLook_elim hz h8
     obtain⟨hb,h10⟩:=overK_elim hz h9
     rw[putK_eq]at h10
     exact⟨_,_,_,h10,sound_copy ho hcal hty ha hu hs hx0 hy0 ex ey hsrc hk hl hmk hb⟩
    ·cases hp
   ·cases hp
  ·cases hp
 ·rename_i t ts' x xs
  split at hp
  ·cases hp
   obtain⟨s,ex,h1⟩:=onOne_elim hz (show T (oMax orc z tm mu n x xs k)from h)
   obtain⟨r,h3,h4⟩:=sound_max (P:=P) (val:=val) (fz:=fz) (mu:=mu) (n:=n) hz hk ho hcal hys ex h1
   exact⟨_,_,_,h3,h4⟩
  ·cases hp
 ·rename_i t ts' x xs
  split at hp
  ·cases hp
   obtain⟨s,ex,h1⟩:=onOne_elim hz (show T (oMin orc z tm mu n x xs k)from h)
   obtain⟨r,h3,h4⟩:=sound_min (P:=P) (val:=val) (fz:=fz) (mu:=mu) (n:=n) hz hk ho hcal hys ex h1
   exact⟨_,_,_,h3,h4⟩
  ·cases hp
 ·cases hp
theorem aop_bin (hz:¬T z) (hk:OrcOk T val orc) {ro:Bool} {op:BinOp} {t u:TypeId} {x y:Operand} {x' y':Od} {aopr:AOp} {k:KT R} (ho:o.op=.binOp op t x y u) (hx:od P x=some x') (hy:od P y=some y')
 (hp:prepBin P op t u x' y'=some aopr) (h:T (aop orc z call fz tm mu n ro aopr k)):∃v mu' n',T (k v mu' n')∧Sound P val fz tm mu n o v mu' n':=by
 have eqn:∀(sl neg:Bool),o.op=.binOp (if neg then .neq else .eql) t x y u→((sl=true∧∃e,P.underlying t=some (.slice e))∨(sl=false∧∃e,P.underlying t=some (.pointer e)))→T (oEqn z tm mu n sl neg x' y' k)→
  ∃v mu' n',T (k v mu' n')∧Sound P val fz tm mu n o v mu' n':=by
  intro sl neg ho hu h
  obtain⟨s1,e1,h1⟩:=onOne_elim hz h
  obtain⟨s2,e2,h2⟩:=onOne_elim hz h1
  obtain⟨a,ha,h3⟩:=option_elim hz h2
  obtain⟨b,hb,h4⟩:=option_elim hz h3
  obtain⟨hab,h5⟩:=cond_elim hz h4
  rw[fB_eq]at h5
  exact⟨_,_,_,h5,sound_eqn ho hu hx hy e1 e2 ha hb hab⟩
 have eqs:∀{fs:Array Field} {ks:List Nat} (neg:Bool),o.op=.binOp (if neg then .neq else .eql) t x y u→P.underlying t=some (.struct fs)→(P.stoodInHeld t||P.eqGuardType P.depth t)=false→eqKs P 0 fs.toList=some ks→
  T (oEqs z tm mu n ks neg x' y' k)→∃v mu' n',T (k v mu' n')∧Sound P val fz tm mu n o v mu' n':=by
  intro fs ks neg ho hu hg hk h
  obtain⟨a,e1,h1⟩:=onAg_elim hz h
  obtain⟨b,e2,h2⟩:=onAg_elim hz h1
  obtain⟨e,he,h3⟩:=option_elim hz h2
  rw[fB_eq]at h3
  exact⟨_,_,_,h3,sound_eqs ho hu hg hk hx hy e1 e2 he⟩
 have eqb:∀(neg:Bool),o.op=.binOp (if neg then .neq else .eql) t x y u→P.underlying t=some .bool→T (oEqb z tm mu n neg x' y' k)→∃v mu' n',T (k v mu' n')∧Sound P val fz tm mu n o v mu' n':=by
  intro neg ho hu h
  obtain⟨s1,e1,h1⟩:=onOne_elim hz h
  obtain⟨a,e2,h2⟩:=onBool_elim hz h1
  subst e2
  obtain⟨s2,e3,h3⟩:=onOne_elim hz h2
  obtain⟨b,e4,h4⟩:=onBool_elim hz h3
  subst e4
  rw[fB_eq]at h4
  exact⟨_,_,_,h4,sound_eqb ho hu hx hy e1 e3⟩
 have num:T (oBin orc z tm mu n op x' y' k)→∃v mu' n',T (k v mu' n')∧Sound P val fz tm mu n o v mu' n':=by
  intro h
  obtain⟨s1,e1,h1⟩:=onOne_elim hz h
  obtain⟨s2,e2,h2⟩:=onOne_elim hz h1
  cases s2 with
  |int kd' b=>
   cases s1 with
   |int kd a=>
    obtain⟨hkd,h4⟩:=cond_elim hz (show T (cond (IntKind.eqb kd kd') (binI op kd a b z λr=>k (.one r) mu n) z)from h2)
    have:=eqb_eq hkd
    subst this
    obtain⟨s,hs,h5⟩:=binI_elim hz h4
    exact⟨_,_,_,h5,sound_bin ho hx hy e1 e2 hs⟩
   |sym kd i=>
    obtain⟨hkd,h4⟩:=cond_elim hz (show T (cond (IntKind.eqb kd kd') (orc.bin op kd i b λr=>fSV r λr=>k (.one r) mu n) z)from h2)
    have:=eqb_eq hkd
    subst this
    obtain⟨s,s',hs,he,h5⟩:=hk.bin _ _ _ _ _ h4
    rw[fSV_eq]at h5
    exact⟨_,_,_,h5,sound_binS ho hx hy (.inr ⟨i,e1,rfl⟩) (.inl e2) hs he⟩
   |_=>exact(hz h2).elim
  |sym kd' j=>
   cases s1 with
   |int kd a=>
    obtain⟨hkd,h4⟩:=cond_elim hz (show T (cond (IntKind.eqb kd kd') (orc.nib op kd a j λr=>fSV r λr=>k (.one r) mu n) z)from h2)
    have:=eqb_eq hkd
    subst this
    obtain⟨s,s',hs,he,h5⟩:=hk.nib _ _ _ _ _ h4
    rw[fSV_eq]at h5
    exact⟨_,_,_,h5,sound_binS ho hx hy (.inl e1) (.inr ⟨j,e2,rfl⟩) hs he⟩
   |sym kd i=>
    obtain⟨hkd,h4⟩:=cond_elim hz (show T (cond (IntKind.eqb kd kd') (cond (Nat.beq i j) (selfK op (k (.one (.bool true)) mu n) (k (.one (.bool false)) mu n) (orc.force j λv=>orc.bin op kd i v λr=>fSV r λr=>k (.one r) mu n)) (orc.force j λv=>orc.bin op kd i v λr=>fSV r λr=>k (.one r) mu n)) z)from h2)
    have:=eqb_eq hkd
    subst this
    have old:T (orc.force j λv=>orc.bin op kd i v λr=>fSV r λr=>k (.one r) mu n)→∃v mu' n',T (k v mu' n')∧Sound P val fz tm mu n o v mu' n':=by
     intro h4
     obtain⟨s,s',hs,he,h5⟩:=hk.bin _ _ _ _ _ (hk.force _ _ h4)
     rw[fSV_eq]at h5
     exact⟨_,_,_,h5,sound_binS ho hx hy (.inr ⟨i,e1,rfl⟩) (.inr ⟨j,e2,rfl⟩) hs he⟩
    cases hij:Nat.beq i j with
    |false=>rw[hij]at h4;exact old h4
    |true=>
     rw[hij]at h4
     have:=Nat.eq_of_beq_eq_true hij
     subst this
     cases op with
     |eql=>exact⟨_,_,_,h4,sound_binS ho hx hy (.inr ⟨i,e1,rfl⟩) (.inr ⟨i,e2,rfl⟩) (show numOp .eql kd (val i) (val i)=some (.bool true) by simp[numOp]) (.inl rfl)⟩
     |neq=>exact⟨_,_,_,h4,sound_binS ho hx hy (.inr ⟨i,e1,rfl⟩) (.inr ⟨i,e2,rfl⟩) (show numOp .neq kd (val i) (val i)=some (.bool false) by simp[numOp]) (.inl rfl)⟩
     |_=>exact old h4
   |_=>exact(hz h2).elim
  |_=>exact(hz h2).elim
 have shf:∀left:Bool,o.op=.binOp (if left then .shl else .shr) t x y u→T (forceK orc tm x' λtm=>forceK orc tm y' λtm=>oShift z tm mu n left x' y' k)→∃v mu' n',T (k v mu' n')∧Sound P val fz tm mu n o v mu' n':=by
  intro left ho h
  obtain⟨tm1,h,hf1⟩:=forceK_elim hk h
  obtain⟨tm2,h,hf2⟩:=forceK_elim hk h
  obtain⟨s1,e1,h1⟩:=onOne_elim hz h
  obtain⟨kd,a,e2,h2⟩:=onInt_elim hz h1
  subst e2
  obtain⟨s2,e3,h3⟩:=onOne_elim hz h2
  obtain⟨kd',b,e4,h4⟩:=onInt_elim hz h3
  subst e4
  obtain⟨hb,h5⟩:=cond_elim' hz (show T (cond (ltI b 0) z (cond left (fI (kd.wrap (a*2^min b.toNat kd.bits)) λn'=>k (.one (.int kd n')) mu n) (fI (a.fdiv (2^min b.toNat kd.bits)) λn'=>k (.one (.int kd n')) mu n)))from h4)
  rw[ltI_eq]at hb
  have hb':¬b<0:=by simpa using hb
  simp only[fI_eq]at h5
  refine⟨_,_,_,?_,sound_fwd (hf1.trans hf2) (sound_shift ho hx hy e1 e3 hb')⟩
  cases left<;>exact h5
 unfold prepBin at hp
 split at hp
 ·split at hp
  ·cases hp;exact shf true ho h
  ·cases hp;exact shf false ho h
  ·cases hp
  ·cases hp
  ·cases hp;exact num h
 ·cases hp
  obtain⟨s1,e1,h1⟩:=onOne_elim hz (show T (oSbin z tm mu n op x' y' k)from h)
  obtain⟨la,a,e2,h2⟩:=onStr_elim hz h1
  subst e2
  obtain⟨s2,e3,h3⟩:=onOne_elim hz h2
  obtain⟨lb,b,e4,h4⟩:=onStr_elim hz h3
  subst e4
  obtain⟨s,hs,h5⟩:=strBinK_elim hz h4
  exact⟨_,_,_,h5,sound_sbin ho hx hy e1 e3 hs⟩
 ·rename_i hu
  split at hp
  ·cases hp;exact eqb false ho hu h
  ·cases hp;exact eqb true ho hu h
  ·cases hp
 ·rename_i e hu
  split at hp
  ·cases hp
  ·split at hp
   ·cases hp;exact eqn true false ho (.inl ⟨rfl,e,hu⟩) h
   ·cases hp;exact eqn true true ho (.inl ⟨rfl,e,hu⟩) h
   ·cases hp
 ·rename_i e hu
  split at hp
  ·cases hp
  ·split at hp
   ·cases hp;exact eqn false false ho (.inr ⟨rfl,e,hu⟩) h
   ·cases hp;exact eqn false true ho (.inr ⟨rfl,e,hu⟩) h
   ·cases hp
 ·rename_i fs hu
  split at hp
  ·cases hp
  ·rename_i hg
   have hg:(P.stoodInHeld t||P.eqGuardType P.depth t)=false:=by simpa using hg
   split at hp
   ·rename_i hk;cases hp;exact eqs false ho hu hg hk h
   ·rename_i hk;cases hp;exact eqs true ho hu hg hk h
   ·cases hp
 ·cases hp
end
end Go.Ev
namespace Go.Ev
section
variable {R:Type} {T:R→Prop} {z:R} {P:Program} {val:Nat→Int} {fz:Fz} {tm:TM} {mu:St} {n:Nat} {o:Oper} {orc:Orc R} {call:CallT R}
theorem sound_allocB {t:TypeId} {z:List SV} (ho:o.op=.alloc t) (hz:zeroOf P t=some z):Sound P val fz tm mu n o (.one (.optr n 0)) ((n,bldZ P t z)::mu) (n+1):=by
 by_cases hb:bldZ P t z=z
 ·rw[hb];exact sound_alloc ho hz
 ·have hz2:z=[.npt,.nsl]∧bldZ P t z=[.mk 3,.mk t,.npt,.nsl]:=by
   unfold bldZ at hb⊢
   split at hb
   ·cases hi:isBld P t with
    |true=>exact⟨rfl,rfl⟩
    |false=>rw[hi]at hb;exact(hb rfl).elim
   ·exact(hb rfl).elim
  obtain⟨h0,h00⟩:=hz2
  rw[h00]
  obtain⟨v,i,h1,h2,h3,h4,h5⟩:=zeroOf_run hz
  refine sound_of_run (Nat.le_succ _) λρ w a hr _ hf=>?_
  have hn:=hf n (Nat.le_refl _) (Nat.lt_succ_self _)
  have hv:v.cells=#[.pointer none,.slice none 0 0]:=by
   have h6:=(toSVs_VR (val:=val) (ρ:=ρ) (w:=w) h3).1
   subst h0
   match hc:v.cells.toList,h6 with
   |[x,y],h6=>
    obtain⟨e1,e2,_⟩:=h6
    have e1:x=.pointer none:=e1
    have e2:y=.slice none 0 0:=e2
    subst e1;subst e2
    apply Array.ext'
    rw[hc]
  obtain⟨b1,b2,b3,b4,b5⟩:=new_blockW (w':=w.alloc (.cells v.cells t)) (cs:=[.mk 3,.mk t,.npt,.nsl]) (n:=n) (val:=val) (ρ:=ρ) (fz:=fz) (mu:=mu) (w:=w) rfl rfl rfl
   (by show(w.heap.push _).size=_;simp) (λb' hb'=>alloc_old (w:=w) _ hb') hr hn
   (λ_=>.inr (.bld w.heap.size t .npt .nsl (.pointer none) (.slice none 0 0) (upd_same _ _ _) (by rw[hv];exact alloc_new (w:=w) _) (.inl ⟨rfl,rfl⟩) rfl))
  refine⟨.pointer (some ⟨w.heap.size,0,none⟩),w.alloc (.cells v.cells t),.inl ?_,_,b1,b2,⟨_,upd_same _ _ _,rfl⟩,b3,b4,b5⟩
  simp[execOp,ho,Instr.alloc,h5,newVar,newRow]
theorem aop_sound (hz:¬T z) (hc:CallSound T P val call) (hk:OrcOk T val orc) {ro:Bool} {op:AOp} {k:KT R} (hp:prepOp P o.op=some op) (h:T (aop orc z call fz tm mu n ro op k)):
 ∃v mu' n',T (k v mu' n')∧Sound P val fz tm mu n o v mu' n':=by
 cases ho:o.op with
 |move x=>
  rw[ho]at hp
  obtain⟨y,hy,rfl⟩:=Option.map_eq_some_iff.1 hp
  exact⟨_,_,_,h,sound_mv (.inl ho) hy⟩
 |assign x=>
  rw[ho]at hp
  obtain⟨y,hy,rfl⟩:=Option.map_eq_some_iff.1 hp
  exact⟨_,_,_,h,sound_mv (.inr ho) hy⟩
 |pick c a b=>
  rw[ho]at hp
  simp only[prepOp]at hp
  split at hp
  ·rename_i c' a' b' hc' ha hb
   cases hp
   obtain⟨s,e1,h1⟩:=onOne_elim hz (show T (oPick z tm mu n c' a' b' k)from h)
   obtain⟨t,e2,h2⟩:=onBool_elim hz h1
   subst e2
   refine⟨_,_,_,?_,sound_pick ho hc' ha hb e1⟩
   cases t<;>exact h2
  ·cases hp
 |alloc t=>
  rw[ho]at hp
  obtain⟨zs,hzs,rfl⟩:=Option.map_eq_some_iff.1 hp
  have h1:T (fN (Nat.succ n) λm=>k (.one (.optr n 0)) ((n,bldZ P t zs)::mu) m):=h
  rw[fN_eq]at h1
  exact⟨_,_,_,h1,sound_allocB ho hzs⟩
 |box t x=>
  rw[ho]at hp
  obtain⟨y,hy,rfl⟩:=Option.map_eq_some_iff.1 hp
  obtain⟨l,e1,h1⟩:=onCells_elim hz (show T (oBox z tm mu n y k)from h)
  obtain⟨hkn,h2⟩:=cond_elim hz h1
  have h3:T (fN (Nat.succ n) λm=>k (.one (.optr n 0)) ((n,l)::mu) m):=h2
  rw[fN_eq]at h3
  exact⟨_,_,_,h3,sound_box ho hy e1 hkn⟩
 |build t parts=>
  rw[ho]at hp
  simp only[prepOp]at hp
  split at hp
  ·rename_i fs zs hu hzs
   split at hp
   ·rename_i hall
    obtain⟨qs,hq,rfl⟩:=Option.map_eq_some_iff.1 hp
    obtain⟨cs,h1,h2⟩:=sound_build (P:=P) (val:=val) (fz:=fz) (mu:=mu) (n:=n) hz ho hu hzs hall hq (show T (fill z tm qs zs λcs=>k (.ag cs) mu n)from h)
    exact⟨_,_,_,h1,h2⟩
   ·cases hp
  ·cases hp
 |buildSlice t len parts=>
  rw[ho]at hp
  simp only[prepOp]at hp
  split at hp
  ·rename_i e hu
   split at hp
   ·rename_i s zs hs hzs
    split at hp
    ·rename_i hc0
     simp only[Bool.and_eq_true]at hc0
     obtain⟨qs,hq,rfl⟩:=Option.map_eq_some_iff.1 hp
     have h1:T (copyK (rep zs len) λcs=>fill z tm qs cs λcs=>fN (Nat.succ n) λm=>k (.one (.osl n 0 len len s)) ((n,cs)::mu) m):=h
     rw[copyK_eq]at h1
     obtain⟨cs,h2,h3⟩:=sound_bslice (P:=P) (val:=val) (fz:=fz) (mu:=mu) (n:=n) hz ho hu hs (by simpa using hc0.1) (Nat.le_of_ble_eq_true hc0.2) hzs hq h1
     rw[fN_eq]at h2
     exact⟨_,_,_,h2,h3⟩
    ·cases hp
   ·cases hp
  ·cases hp
 |load t x=>
  rw[ho]at hp
  simp only[prepOp]at hp
  split at hp
  ·rename_i a m y ha hs hy
   split at hp
   ·cases hp
    obtain⟨s,e1,h1⟩:=onOne_elim hz (show T (oLoad z fz tm mu n a m y k)from h)
    obtain⟨id,off,e2,h2⟩:=onPtr_elim hz h1
    subst e2
    obtain⟨cs,hl,h3⟩:=lookAll_elim hz h2
    obtain⟨hb,h4⟩:=subK_elim hz h3
    obtain⟨v,hv,h5⟩:=asRes_elim hz h4
    exact⟨_,_,_,h5,sound_load ho ha hs hy e1 hl hb hv⟩
   ·cases hp
  ·cases hp
 |store t x v=>
  rw[ho]at hp
  simp only[prepOp]at hp
  split at hp
  ·rename_i m y u hs hy hu
   cases hp
   obtain⟨s,e1,h1⟩:=onOne_elim hz (show T (oStore z tm mu n m y u k)from h)
   obtain⟨id,off,e2,h2⟩:=onPtr_elim hz h1
   subst e2
   obtain⟨vs,e3,h3⟩:=onCells_elim hz h2
   rw[lenK_eq]at h3
   obtain⟨hm,h4⟩:=cond_elim hz h3
   obtain⟨hkn,h5⟩:=cond_elim hz (show T (cond (knownAll vs) (onLook mu id z λcs=>overK cs off vs z λcs=>putK mu id cs λmu=>k noVal mu n) z)from h4)
   obtain⟨cs,hl,hmk,h6⟩:=onLook_elim hz h5
   obtain⟨hb,h7⟩:=overK_elim hz h6
   rw[putK_eq]at h7
   exact⟨_,_,_,h7,sound_store ho hs hy hu e1 e3 (by have:=beq_yes hm;omega) hkn hl hmk hb⟩
  ·cases hp
 |nilCheck x=>
  rw[ho]at hp
  obtain⟨y,hy,rfl⟩:=Option.map_eq_some_iff.1 hp
  obtain⟨s,e1,h1⟩:=onOne_elim hz (show T (oNilc z tm mu n y k)from h)
  cases s<;>first|exact(hz h1).elim|exact⟨_,_,_,h1,sound_nilc ho hy e1 (.inl ⟨_,_,rfl⟩)⟩|exact⟨_,_,_,h1,sound_nilc ho hy e1 (.inr ⟨_,_,rfl⟩)⟩
 |binOp op' t x y u=>
  rw[ho]at hp
  simp only[prepOp]at hp
  split at hp
  ·rename_i x' y' hx hy
   exact aop_bin hz hk ho hx hy hp h
  ·cases hp
 |unOp op' t x=>
  rw[ho]at hp
  simp only[prepOp]at hp
  split at hp
  ·rename_i y hy
   cases hp
   obtain⟨s,e1,h1⟩:=onOne_elim hz (show T (oNot z tm mu n y k)from h)
   obtain⟨b,e2,h2⟩:=onBool_elim hz h1
   subst e2
   rw[fB_eq]at h2
   exact⟨_,_,_,h2,sound_not ho hy e1⟩
  ·rename_i y hy
   cases hp
   obtain⟨tm1,h,hf⟩:=forceK_elim hk (show T (forceK orc tm y λtm=>oNeg z tm mu n y k)from h)
   obtain⟨s,e1,h1⟩:=onOne_elim hz (show T (oNeg z tm1 mu n y k)from h)
   obtain⟨kd,b,e2,h2⟩:=onInt_elim hz h1
   subst e2
   rw[fI_eq]at h2
   exact⟨_,_,_,h2,sound_fwd hf (sound_neg ho hy e1)⟩
  ·cases hp
 |convert t u x=>
  rw[ho]at hp
  simp only[prepOp]at hp
  split at hp
  ·rename_i k' kd y ht hu hy
   cases hp
   obtain⟨s,e1,h1⟩:=onOne_elim hz (show T (oConv orc z tm mu n kd y k)from h)
   cases s with
   |int ka a=>
    have h2:T (wrapK kd a λr=>k (.one (.int kd r)) mu n):=h1
    rw[wrapK_eq]at h2
    exact⟨_,_,_,h2,sound_conv ho ht hu hy e1⟩
   |sym ka i=>
    obtain⟨s,hs,h2⟩:=hk.conv _ _ _ (show T (orc.conv kd i λr=>fSV r λr=>k (.one r) mu n)from h1)
    rw[fSV_eq]at h2
    exact⟨_,_,_,h2,sound_convSym ho ht hu hy e1 hs⟩
   |_=>exact(hz h1).elim
  ·rename_i e y ht hu hy
   split at hp
   ·rename_i he
    cases hp
    obtain⟨sx,ex,h1⟩:=onOne_elim hz (show T ((ev tm y).onOne z λx=>cond x.isStr z (srcK fz mu 1 x z λcs m=>numK z cs 0 λb=>k (.one (.str m b)) mu n))from h)
    obtain⟨hns,h2⟩:=cond_elim' hz h1
    obtain⟨src,cnt,hsrc,h3⟩:=srcK_elim (P:=P) (val:=val) hz h2
    obtain⟨bs,rfl,h4⟩:=numK_elim hz h3
    have hun:sx≠.un:=λe=>by subst e;exact hz h2
    exact⟨_,_,_,h4,sound_b2s ho ht he hu hy ex hns hun hsrc⟩
   ·cases hp
  ·rename_i e y ht hu hy
   split at hp
   ·rename_i he
    obtain⟨hs2b,hp⟩:=of_cond_some hp
    cases hp
    obtain⟨sx,ex,h1⟩:=onOne_elim hz (show T ((ev tm y).onOne z λx=>x.onStr z λl b=>cond (Nat.ble l 140737488355328) (digK l b [] λcs=>fN (Nat.succ n) λn'=>k (.one (.osl n 0 l l 1)) ((n,cs)::mu) n') z)from h)
    obtain⟨l,b,rfl,h2⟩:=onStr_elim hz h1
    obtain⟨hr,h3⟩:=cond_elim hz h2
    rw[digK_eq,fN_eq,List.append_nil]at h3
    exact⟨_,_,_,h3,sound_s2b hs2b ho ht hu he hy ex (Nat.le_of_ble_eq_true hr)⟩
   ·cases hp
  ·cases hp
 |makeMap t r=>
  rw[ho]at hp
  cases r with
  |some _=>simp[prepOp]at hp
  |none=>
   simp only[prepOp]at hp
   split at hp
   ·rename_i kt e hu
    split at hp
    ·rename_i a v ha hs
     cases hp
     have h1:T (fN (Nat.succ n) λn'=>fN (mtag a v) λm=>k (.one (.mp n)) ((n,[.mk m])::mu) n'):=h
     rw[fN_eq,fN_eq]at h1
     exact⟨_,_,_,h1,sound_mkmap (k:=kt) (e:=e) ho⟩
    ·cases hp
   ·cases hp
 |lookup t x i ok=>
  rw[ho]at hp
  simp only[prepOp]at hp
  split at hp
  ·rename_i kt e x' i' hu hx hi
   split at hp
   ·rename_i ks a v zs hkt ha hs hzs
    split at hp
    ·rename_i hc0
     cases hp
     simp only[Bool.and_eq_true]at hc0
     obtain⟨sm,em,h1⟩:=onOne_elim hz (show T ((ev tm x').onOne z λm=>keyK orc z ks (ev tm i') λkey=>readM z fz mu a v m λes=>findE z key es λr=>
      Option.rec (motive:=λ_=>R) (mgetK z a ok zs false λx=>k x mu n) (λc=>mgetK z a ok c true λx=>k x mu n) r)from h)
     obtain⟨key,hkv,hki,h2⟩:=keyK_elim hz hk h1
     obtain⟨es,hes,h3⟩:=readM_elim hz h2
     obtain⟨r,hf,h4⟩:=findE_elim hz h3
     cases r with
     |none=>
      obtain⟨c,hc',h5⟩:=mgetK_elim hz (show T (mgetK z a ok zs false λx=>k x mu n)from h4)
      exact⟨_,_,_,h5,sound_mget (r:=none) ho hu hkt hzs hc0.2 hx hi em hkv hki hes hf hc'⟩
     |some c0=>
      obtain⟨c,hc',h5⟩:=mgetK_elim hz (show T (mgetK z a ok c0 true λx=>k x mu n)from h4)
      exact⟨_,_,_,h5,sound_mget (r:=some c0) ho hu hkt hzs hc0.2 hx hi em hkv hki hes hf hc'⟩
    ·cases hp
   ·cases hp
  ·cases hp
 |mapUpdate t m i x=>
  rw[ho]at hp
  simp only[prepOp]at hp
  split at hp
  ·rename_i kt e m' i' x' hu hm hi hx
   split at hp
   ·rename_i ks a v hkt ha hs
    cases hp
    obtain⟨sm,em,h1⟩:=onOne_elim hz (show T ((ev tm m').onOne z λm=>keyK orc z ks (ev tm i') λkey=>(ev tm x').onCells z λc=>lenK c 0 λl=>cond (Nat.beq l v) (cond (knownAll c) (cond (isAg (ev tm x') a) (ownM z mu a v m λid es=>putE z key c es λes=>setM mu a v id es λmu=>k noVal mu n) z) z) z)from h)
    obtain⟨key,hkv,hki,h2⟩:=keyK_elim hz hk h1
    obtain⟨c,ex,h3⟩:=onCells_elim hz h2
    rw[lenK_eq]at h3
    obtain⟨hlen,h4⟩:=cond_elim hz h3
    obtain⟨hkn,h5⟩:=cond_elim hz h4
    obtain⟨hag,h6⟩:=cond_elim hz h5
    obtain⟨id,es,rfl,hl,hv,h7⟩:=ownM_elim hz h6
    obtain⟨es',hput,h8⟩:=putE_elim hz h7
    rw[setM_eq]at h8
    exact⟨_,_,_,h8,sound_mput ho hu hkt hm hi hx em hkv hki ex hag (by have:=beq_yes hlen;omega) hkn hl hv hput⟩
   ·cases hp
  ·cases hp
 |insert t m i x=>
  rw[ho]at hp
  simp only[prepOp]at hp
  split at hp
  ·rename_i kt e m' i' x' hu hm hi hx
   split at hp
   ·rename_i ks a v hkt ha hs
    cases hp
    obtain⟨sm,em,h1⟩:=onOne_elim hz (show T ((ev tm m').onOne z λm=>keyK orc z ks (ev tm i') λkey=>(ev tm x').onCells z λc=>lenK c 0 λl=>cond (Nat.beq l v) (cond (knownAll c) (cond (isAg (ev tm x') a) (ownM z mu a v m λid es=>putE z key c es λes=>setM mu a v id es λmu=>k noVal mu n) z) z) z)from h)
    obtain⟨key,hkv,hki,h2⟩:=keyK_elim hz hk h1
    obtain⟨c,ex,h3⟩:=onCells_elim hz h2
    rw[lenK_eq]at h3
    obtain⟨hlen,h4⟩:=cond_elim hz h3
    obtain⟨hkn,h5⟩:=cond_elim hz h4
    obtain⟨hag,h6⟩:=cond_elim hz h5
    obtain⟨id,es,rfl,hl,hv,h7⟩:=ownM_elim hz h6
    obtain⟨es',hput,h8⟩:=putE_elim hz h7
    rw[setM_eq]at h8
    exact⟨_,_,_,h8,sound_mins ho hu hkt hm hi hx em hkv hki ex hag (by have:=beq_yes hlen;omega) hkn hl hv hput⟩
   ·cases hp
  ·cases hp
 |makeFunc f first caps=>
  rw[ho]at hp
  cases f with
  |func f=>
   simp only[prepOp]at hp
   split at hp
   ·rename_i hc0
    simp only[Bool.and_eq_true]at hc0
    obtain⟨ys,hy,rfl⟩:=Option.map_eq_some_iff.1 hp
    obtain⟨cs,h1,h2⟩:=capsK_elim hz (show T (capsK z tm ys λcs=>k (.one (.fn f cs)) mu n)from h)
    exact⟨_,_,_,h2,sound_mkfn ho hc0.1 hy h1⟩
   ·cases hp
  |_=>simp[prepOp]at hp
 |makeSlice t l c=>
  rw[ho]at hp
  simp only[prepOp]at hp
  split at hp
  ·rename_i e l' c' hu hl hc'
   split at hp
   ·rename_i s b zs hs hb hzs
    split at hp
    ·rename_i hs0
     cases hp
     obtain⟨tm1,h,hf1⟩:=forceK_elim hk (show T (forceK orc tm l' λtm=>forceK orc tm c' λtm=>oMkslice z tm mu n s b zs l' c' k)from h)
     obtain⟨tm2,h,hf2⟩:=forceK_elim hk h
     obtain⟨s1,e1,h1⟩:=onOne_elim hz (show T (oMkslice z tm2 mu n s b zs l' c' k)from h)
     obtain⟨ka,x,e2,h2⟩:=onInt_elim hz h1
     subst e2
     obtain⟨s2,e3,h3⟩:=onOne_elim hz h2
     obtain⟨kb,y,e4,h4⟩:=onInt_elim hz h3
     subst e4
     obtain⟨hcond,h5⟩:=cond_elim hz h4
     simp only[Bool.and_eq_true,ltI_eq,Bool.not_eq_true',decide_eq_false_iff_not]at hcond
     obtain⟨⟨⟨⟨k1,k2⟩,k3⟩,k4⟩,k5⟩:=hcond
     have hka:=eqb_eq k1
     have hkb:=eqb_eq k2
     subst hka;subst hkb
     simp only[fN_eq,copyK_eq]at h5
     exact⟨_,_,_,h5,sound_fwd (hf1.trans hf2) (sound_mkslice ho hu hs (by simpa using hs0) hb hzs hl hc' e1 e3 k3 k4 k5)⟩
    ·cases hp
   ·cases hp
  ·cases hp
 |slice t x lo hi mx=>
  rw[ho]at hp
  have hsome:∀{a:Option Operand} {b:Option Od},odO P a=some b→a.isSome=b.isSome:=by
   intro a b hab
   cases a with
   |none=>simp[odO]at hab;subst hab;rfl
   |some u=>simp only[odO]at hab;obtain⟨v,_,rfl⟩:=Option.map_eq_some_iff.1 hab;rfl
  simp only[prepOp]at hp
  split at hp
  ·rename_i e x' lo' hi' mx' hu hx hlo hhi hmx
   split at hp
   ·rename_i s hs
    split at hp
    ·cases hp
    ·rename_i hcond
     cases hp
     obtain⟨tm1,h,hf1⟩:=forceO_elim hk (show T (forceO orc tm lo' λtm=>forceO orc tm hi' λtm=>forceO orc tm mx' λtm=>oSlc z tm mu n false s x' lo' hi' mx' k)from h)
     obtain⟨tm2,h,hf2⟩:=forceO_elim hk h
     obtain⟨tm3,h,hf3⟩:=forceO_elim hk h
     obtain⟨sv,e1,h1⟩:=onOne_elim hz (show T (oSlc z tm3 mu n false s x' lo' hi' mx' k)from h)
     obtain⟨hst,h2⟩:=cond_elim hz h1
     obtain⟨r,hr,h3⟩:=option_elim hz h2
     rw[fSV_eq]at h3
     have hns:∀l b,sv≠.str l b:=λl b e=>by subst e;cases hst
     have hmi:mx.isSome=true→hi.isSome=true:=λhm=>by
      rw[hsome hmx]at hm
      rw[hsome hhi]
      cases hh:hi' with
      |none=>exact(hcond (by simp[hm,hh])).elim
      |some _=>rfl
     exact⟨_,_,_,h3,sound_fwd ((hf1.trans hf2).trans hf3) (sound_slc ho (.inl ⟨e,hu,hs,hns⟩) hmi hx hlo hhi hmx e1 hr)⟩
   ·cases hp
  ·rename_i x' lo' hi' mx' hu hx hlo hhi hmx
   split at hp
   ·cases hp
   ·rename_i hcond
    cases hp
    obtain⟨tm1,h,hf1⟩:=forceO_elim hk (show T (forceO orc tm lo' λtm=>forceO orc tm hi' λtm=>forceO orc tm mx' λtm=>oSlc z tm mu n true 0 x' lo' hi' mx' k)from h)
    obtain⟨tm2,h,hf2⟩:=forceO_elim hk h
    obtain⟨tm3,h,hf3⟩:=forceO_elim hk h
    obtain⟨sv,e1,h1⟩:=onOne_elim hz (show T (oSlc z tm3 mu n true 0 x' lo' hi' mx' k)from h)
    obtain⟨hst,h2⟩:=cond_elim hz h1
    obtain⟨r,hr,h3⟩:=option_elim hz h2
    rw[fSV_eq]at h3
    have hs:∃l b,sv=.str l b:=by cases sv<;>first|exact⟨_,_,rfl⟩|cases hst
    have hmi:mx.isSome=true→hi.isSome=true:=λhm=>by
     rw[hsome hmx]at hm
     exact(hcond hm).elim
    exact⟨_,_,_,h3,sound_fwd ((hf1.trans hf2).trans hf3) (sound_slc ho (.inr ⟨hu,hs⟩) hmi hx hlo hhi hmx e1 hr)⟩
  ·rename_i len e x' hu hx hlo hhi hmx
   have none_of:∀{a:Option Operand},odO P a=some none→a=none:=by
    intro a ha
    have:=hsome ha
    cases a with
    |none=>rfl
    |some _=>cases this
   have hlo':=none_of hlo
   have hhi':=none_of hhi
   have hmx':=none_of hmx
   subst hlo';subst hhi';subst hmx'
   split at hp
   ·rename_i s hs
    split at hp
    ·rename_i hc0
     cases hp
     simp only[Bool.and_eq_true]at hc0
     obtain⟨sx,ex,h1⟩:=onOne_elim hz (show T ((ev tm x').onOne z λx=>x.onPtr z λid off=>lookAll fz mu id z λcs=>cond (Nat.ble (Nat.add off (Nat.mul len s)) cs.length) (k (.one (.osl id off len len s)) mu n) z)from h)
     obtain⟨id,off,e2,h2⟩:=onPtr_elim hz h1
     subst e2
     obtain⟨cs,hl,h3⟩:=lookAll_elim hz h2
     obtain⟨hb,h4⟩:=cond_elim hz h3
     have:=Nat.le_of_ble_eq_true hc0.2
     exact⟨_,_,_,h4,sound_slcA ho hu hs (by omega) hx ex hl (Nat.le_of_ble_eq_true hb)⟩
    ·cases hp
   ·cases hp
  ·cases hp
 |fieldAddr t x i=>
  rw[ho]at hp
  simp only[prepOp]at hp
  split at hp
  ·rename_i fs y hu hy
   split at hp
   ·rename_i f hf
    split at hp
    ·rename_i m hs
     split at hp
     ·cases hp
     ·rename_i hm
      cases hp
      obtain⟨s,e1,h1⟩:=onOne_elim hz (show T (oFaddr z tm mu n f.offset y k)from h)
      obtain⟨id,off,e2,h2⟩:=onPtr_elim hz h1
      subst e2
      rw[fN_eq]at h2
      exact⟨_,_,_,h2,sound_faddr ho hu hf hs (by simpa using hm) hy e1⟩
    ·cases hp
   ·cases hp
  ·cases hp
 |field t x i=>
  rw[ho]at hp
  simp only[prepOp]at hp
  split at hp
  ·rename_i fs y hu hy
   split at hp
   ·rename_i f hf
    split at hp
    ·rename_i a m ha hs
     split at hp
     ·rename_i ham
      cases hp
      obtain⟨cs,e1,h1⟩:=onAg_elim hz (show T (oFld z tm mu n f.offset a m y k)from h)
      obtain⟨hb,h2⟩:=subK_elim hz h1
      obtain⟨v,hv,h3⟩:=asRes_elim hz h2
      exact⟨_,_,_,h3,sound_fld ho hu hf ha hs (λe=>by subst e;simpa using ham) hy e1 hb hv⟩
     ·cases hp
    ·cases hp
   ·cases hp
  ·cases hp
 |indexAddr t x i=>
  rw[ho]at hp
  simp only[prepOp]at hp
  split at hp
  ·rename_i e x' i' hu hx hi
   obtain⟨s,hs,rfl⟩:=Option.map_eq_some_iff.1 hp
   obtain⟨tm1,h,hf⟩:=forceK_elim hk (show T (forceK orc tm i' λtm=>oIaddr z tm mu n s x' i' k)from h)
   obtain⟨s1,e1,h1⟩:=onOne_elim hz (show T (oIaddr z tm1 mu n s x' i' k)from h)
   obtain⟨kd,j,e2,h2⟩:=onInt_elim hz h1
   subst e2
   obtain⟨s2,e3,h3⟩:=onOne_elim hz h2
   obtain⟨id,off,len,cap,s',e4,h4⟩:=onSl_elim hz h3
   subst e4
   obtain⟨hcond,h5⟩:=cond_elim hz h4
   simp only[Bool.and_eq_true,ltI_eq,Bool.not_eq_true',decide_eq_false_iff_not,Nat.blt_eq]at hcond
   have hss:s'=s:=beq_yes hcond.1.1
   subst hss
   rw[fN_eq]at h5
   exact⟨_,_,_,h5,sound_fwd hf (sound_iaddr ho hu hs hx hi e3 e1 hcond.1.2 hcond.2)⟩
  ·rename_i len e x' i' hu hx hi
   obtain⟨s,hs,rfl⟩:=Option.map_eq_some_iff.1 hp
   obtain⟨tm1,h,hf⟩:=forceK_elim hk (show T (forceK orc tm i' λtm=>oIaddrA z tm mu n s len x' i' k)from h)
   obtain⟨s1,e1,h1⟩:=onOne_elim hz (show T (oIaddrA z tm1 mu n s len x' i' k)from h)
   obtain⟨kd,j,e2,h2⟩:=onInt_elim hz h1
   subst e2
   obtain⟨s2,e3,h3⟩:=onOne_elim hz h2
   obtain⟨id,off,e4,h4⟩:=onPtr_elim hz h3
   subst e4
   obtain⟨hcond,h5⟩:=cond_elim hz h4
   simp only[Bool.and_eq_true,ltI_eq,Bool.not_eq_true',decide_eq_false_iff_not,Nat.blt_eq]at hcond
   rw[fN_eq]at h5
   exact⟨_,_,_,h5,sound_fwd hf (sound_iaddrA ho hu hs hx hi e3 e1 hcond.1 hcond.2)⟩
  ·cases hp
 |index t x i=>
  rw[ho]at hp
  simp only[prepOp]at hp
  split at hp
  ·rename_i x' i' hu hx hi
   cases hp
   obtain⟨tm1,h,hf⟩:=forceK_elim hk (show T (forceK orc tm i' λtm=>oIdx z tm mu n x' i' k)from h)
   obtain⟨s1,e1,h1⟩:=onOne_elim hz (show T (oIdx z tm1 mu n x' i' k)from h)
   obtain⟨kd,j,e2,h2⟩:=onInt_elim hz h1
   subst e2
   obtain⟨s2,e3,h3⟩:=onOne_elim hz h2
   obtain⟨l,b,e4,h4⟩:=onStr_elim hz h3
   subst e4
   obtain⟨h0,h5⟩:=cond_elim' hz h4
   rw[ltI_eq]at h0
   obtain⟨hc',h6⟩:=cond_elim hz h5
   rw[fN_eq]at h6
   exact⟨_,_,_,h6,sound_fwd hf (sound_idx ho hu hx hi e3 e1 (by simpa using h0) (Nat.le_of_ble_eq_true hc'))⟩
  ·cases hp
 |extract x i=>
  rw[ho]at hp
  obtain⟨y,hy,rfl⟩:=Option.map_eq_some_iff.1 hp
  obtain⟨l,e1,h1⟩:=onTp_elim hz (show T (oExtr z tm mu n y i k)from h)
  obtain⟨c,hl,h2⟩:=nthK_elim hz h1
  refine⟨cvAV c,mu,n,?_,sound_extr ho hy e1 hl⟩
  cases c<;>exact h2
 |call c=>
  rw[ho]at hp
  simp only[prepOp]at hp
  split at hp
  ·rename_i f args hcal hys
   obtain⟨f',hf,rfl⟩:=Option.map_eq_some_iff.1 hp
   exact sound_call hz hc ho hcal hf hys h
  ·rename_i b args hcal hys
   exact aop_builtin hz hk ho hcal hys hp h
  ·cases hp
 |_=>rw[ho]at hp;simp[prepOp]at hp
end
end Go.Ev
