/-
  ReplicaReceives: part 2 of what the proof is made of.
-/
import Derived.Test.YtnnjlnkoomeadaaGreatReplicaReceivesP1
import Derived.Laws.BytesString
import Derived.MapKept
import Derived.Scope
import Derived.LoopN
import Derived.RowKit3
import Derived.ChangeSame
set_option linter.unusedVariables false
set_option linter.unusedSimpArgs false
noncomputable section
namespace Go.Ev
section
variable {P:Program} {val:Nat->Int} {fz:Fz} {tm:TM} {mu:St} {n:Nat} {o:Oper}
theorem Qlr {w:World} {sT xT e ty:TypeId} {i:TypeInfo} {zv:Value} {base:Option Addr} {sLen sCap cnt:Nat} {x:Value} {old news:List Value}
 (hu:P.underlying sT=some (.slice e)) (hx:(∃e',P.underlying xT=some (.slice e'))\/P.underlying xT=some .string) (hi:P.info? e=some i) (hz:∀w,(zeroValue e).run P w=.ok zv w)
 (hlen:(Builtin.lenOf x).run P w=.ok cnt w) (hgrow:sCap<sLen+cnt) (hroom:fits (sLen+cnt) i.bytes=true)
 (hold:(Builtin.firstCells i.size sLen (.slice base sLen sCap)).run P w.drew=.ok old.toArray w.drew) (hnew:(Builtin.firstCells i.size cnt x).run P w.drew=.ok news.toArray w.drew):
 ∃newCap rest,(sLen+cnt<=newCap/\newCap<=9223372036854775807)/\rest=Builtin.zeroCells zv.cells (newCap-(sLen+cnt))/\
  (Builtin.append_ #[sT,xT] ty #[.slice base sLen sCap,x]).run P w=.ok (.slice (some ⟨w.heap.size,0,none⟩) (sLen+cnt) newCap) (w.drew.alloc (.cells (old.toArray++news.toArray++rest) e)):=by
 obtain⟨hneed,hbytes,hbb⟩:=Qq5 hroom;have hcap:=Qwf (need:=sLen+cnt) (old:=sCap) hgrow trivial;have hlim:¬Builtin.nextslicecap (sLen+cnt) sCap*i.bytes>2^48:=by
  have h3:(281474976710656:Nat)=2^48:=by decide
  have h1:Builtin.nextslicecap (sLen+cnt) sCap*i.bytes<=((sLen+cnt)+(sLen+cnt)/4+512)*i.bytes:=Nat.mul_le_mul_right _ hcap;have h2:((sLen+cnt)+(sLen+cnt)/4+512)*i.bytes=(sLen+cnt)*i.bytes+(sLen+cnt)/4*i.bytes+512*i.bytes:=by rw[Nat.add_mul,Nat.add_mul]
  have h4:4*((sLen+cnt)/4*i.bytes)<=(sLen+cnt)*i.bytes:=by
   rw[<-Nat.mul_assoc];exact Nat.mul_le_mul_right _ (by omega)
  rw[<-h3];rcases hbb with h0|⟨h5,h6⟩
  ·omega
  ·generalize (sLen+cnt)*i.bytes=q at*
   generalize (sLen+cnt)/4*i.bytes=r at*
   generalize Builtin.nextslicecap (sLen+cnt) sCap*i.bytes=s at*
   omega
 generalize hnc:Question.cut (.appendCap (sLen+cnt) sCap e) (w.tape w.drawn (.appendCap (sLen+cnt) sCap e))=newCap;have hle:sLen+cnt<=newCap:=by rw[<-hnc];simp only[Question.cut];omega
 have hmx:newCap<=9223372036854775807:=by
  rw[<-hnc];simp only[Question.cut];have:=Nat.mod_lt (w.tape w.drawn (.appendCap (sLen+cnt) sCap e)) (show 0<2^63-(sLen+cnt) by omega);omega
 refine⟨newCap,_,⟨hle,hmx⟩,rfl,?_⟩;have hnle:¬sLen+cnt<=sCap:=by omega
 have hmax:¬((9223372036854775807:Int)<(sLen:Int)+(cnt:Int)/\i.bytes=0):=by omega
 have hz':=hz w.drew;have hti:∀w1,(typeInfo e).run P w1=.ok i w1:=λw1=>by simp[typeInfo,hi]
 have hsz:∀w1,(sizeOf e).run P w1=.ok i.size w1:=λw1=>by simp[sizeOf,hti]
 have hund:∀w1,(underlying sT).run P w1=.ok (.slice e) w1:=λw1=>by simp[underlying,hu]
 have hch:(choose (.appendCap (sLen+cnt) sCap e)).run P w=.ok newCap w.drew:=by
  rw[run_choose];simp only[Question.forced,Bool.false_eq_true,if_false,hnc];rfl
 rcases hx with⟨e',hxd⟩|hxd
 ·have hunx:∀w1,(underlying xT).run P w1=.ok (.slice e') w1:=λw1=>by simp[underlying,hxd]
  simp only[Builtin.append_,List.getElem?_toArray,List.getElem?_cons_zero,List.getElem?_cons_succ,Sem.run_bind,hund,hunx,hsz,hlen,hnle,hti,hlim,hch,hold,hnew,hz',Result.andThen_ok,Sem.run_pure,Sem.run_ite,if_false,Bool.false_eq_true,run_askRoom,newRow,run_newObj,Bool.not_false,if_true];simp[hmax];rfl
 ·have hunx:∀w1,(underlying xT).run P w1=.ok .string w1:=λw1=>by simp[underlying,hxd]
  simp only[Builtin.append_,List.getElem?_toArray,List.getElem?_cons_zero,List.getElem?_cons_succ,Sem.run_bind,hund,hunx,hsz,hlen,hnle,hti,hlim,hch,hold,hnew,hz',Result.andThen_ok,Sem.run_pure,Sem.run_ite,if_false,Bool.false_eq_true,run_askRoom,newRow,run_newObj,Bool.not_false,if_true];simp[hmax];rfl
theorem Qiu {w w':World} {sT xT e ty:TypeId} {i:TypeInfo} {a:Addr} {sLen sCap cnt:Nat} {x:Value} {news:List Value}
 (hu:P.underlying sT=some (.slice e)) (hx:(∃e',P.underlying xT=some (.slice e'))\/P.underlying xT=some .string) (hi:P.info? e=some i)
 (hlen:(Builtin.lenOf x).run P w=.ok cnt w) (hfit:sLen+cnt<=sCap) (hnew:(Builtin.firstCells i.size cnt x).run P w=.ok news.toArray w) (hst:(storeCells (a.add (sLen*i.size)) news).run P w=.ok () w'):
 (Builtin.append_ #[sT,xT] ty #[.slice (some a) sLen sCap,x]).run P w=.ok (.slice (some a) (sLen+cnt) sCap) w':=by
 have hti:∀w1,(typeInfo e).run P w1=.ok i w1:=λw1=>by simp[typeInfo,hi]
 have hsz:∀w1,(sizeOf e).run P w1=.ok i.size w1:=λw1=>by simp[sizeOf,hti]
 have hund:∀w1,(underlying sT).run P w1=.ok (.slice e) w1:=λw1=>by simp[underlying,hu]
 rcases hx with⟨e',hxd⟩|hxd
 ·have hunx:∀w1,(underlying xT).run P w1=.ok (.slice e') w1:=λw1=>by simp[underlying,hxd]
  simp only[Builtin.append_,List.getElem?_toArray,List.getElem?_cons_zero,List.getElem?_cons_succ,Sem.run_bind,hund,hunx,hsz,hlen,hfit,hnew,Result.andThen_ok,Sem.run_pure,Sem.run_ite,Bool.false_eq_true,if_false,Bool.not_false,if_true,hst]
 ·have hunx:∀w1,(underlying xT).run P w1=.ok .string w1:=λw1=>by simp[underlying,hxd]
  simp only[Builtin.append_,List.getElem?_toArray,List.getElem?_cons_zero,List.getElem?_cons_succ,Sem.run_bind,hund,hunx,hsz,hlen,hfit,hnew,Result.andThen_ok,Sem.run_pure,Sem.run_ite,Bool.false_eq_true,if_false,Bool.not_false,if_true,hst]
theorem append_nil {w:World} {sT xT e ty:TypeId} {i:TypeInfo} {x:Value}
 (hu:P.underlying sT=some (.slice e)) (hx:(∃e',P.underlying xT=some (.slice e'))\/P.underlying xT=some .string) (hi:P.info? e=some i)
 (hlen:(Builtin.lenOf x).run P w=.ok 0 w) (hnew:(Builtin.firstCells i.size 0 x).run P w=.ok #[] w):
 (Builtin.append_ #[sT,xT] ty #[.slice none 0 0,x]).run P w=.ok (.slice none 0 0) w:=by
 have hti:∀w1,(typeInfo e).run P w1=.ok i w1:=λw1=>by simp[typeInfo,hi]
 have hsz:∀w1,(sizeOf e).run P w1=.ok i.size w1:=λw1=>by simp[sizeOf,hti]
 have hund:∀w1,(underlying sT).run P w1=.ok (.slice e) w1:=λw1=>by simp[underlying,hu]
 rcases hx with⟨e',hxd⟩|hxd
 ·have hunx:∀w1,(underlying xT).run P w1=.ok (.slice e') w1:=λw1=>by simp[underlying,hxd]
  simp[Builtin.append_,hund,hunx,hsz,hlen,hnew]
 ·have hunx:∀w1,(underlying xT).run P w1=.ok .string w1:=λw1=>by simp[underlying,hxd]
  simp[Builtin.append_,hund,hunx,hsz,hlen,hnew]
theorem Qt8 {ρ:Rho} {w:World} (hr:Rel val ρ fz mu w) {id:Nat} {known src:List SV} {off m:Nat} {p:Nat×Nat} {news:List Value} (hl:look mu id=some known) (hm:mkd known=false) (hn:ρ n=none) (hk:known.length=off+m) (hp:ρ id=some p)
 (hv:All2 (VR val ρ w) src news) (h1:∀x∈news,x.oneCell'=true) (hfit:p.2+off+m+src.length<=bsize w p.1):
 ∃w',(storeCells ⟨p.1,p.2+off+m,none⟩ news).run P w=.ok () w'/\Ext ρ (upd ρ n (p.1,p.2+off)) n (n+1)/\Rel val (upd ρ n (p.1,p.2+off)) fz ((n,known.drop off++src)::killS mu id) w'/\Fr ρ mu w w'/\
  NewB ρ (upd ρ n (p.1,p.2+off)) mu ((n,known.drop off++src)::killS mu id) w/\NewI mu ((n,known.drop off++src)::killS mu id) n (n+1)/\(∀b,bsize w' b=bsize w b):=by
 obtain⟨q,C,ty,fr,hq,hC,hfr,hsz,hcs⟩:=(hr.rm id known hl).plain hm;rw[hp]at hq;cases hq;have hlen:=hv.length;have hbs0:bsize w p.1=C.size:=by unfold bsize;rw[hC]
 rw[hbs0]at hfit;have hrun:=Qkb P p.1 (p.2+off+m) ty fr news 0 C w hC (λx _ h2=>hfr.no (by omega)) (by omega) h1;simp only[Nat.add_zero]at hrun;generalize hD:(C.toList.take (p.2+off+m)++news++C.toList.drop (p.2+off+m+news.length)).toArray=D at hrun;have hDs:D.size=C.size:=by rw[<-hD];simp;omega
 have hDget:∀i:Nat,D[i]?=if i<p.2+off+m then C[i]? else if i<p.2+off+m+news.length then news[i-(p.2+off+m)]? else C[i]?:=by
  intro i;rw[<-hD];simp only[List.getElem?_toArray];by_cases a1:i<p.2+off+m
  ·rw[List.append_assoc,List.getElem?_append_left (by simp;omega)];simp[a1]
  ·rw[List.append_assoc,List.getElem?_append_right (by simp;omega)];simp only[a1,if_false,List.length_take,Array.length_toList];rw[show min (p.2+off+m) C.size=p.2+off+m by omega];by_cases a2:i<p.2+off+m+news.length
   ·rw[List.getElem?_append_left (by omega)];simp[a2]
   ·rw[List.getElem?_append_right (by omega)];simp only[a2,if_false,List.getElem?_drop,Array.getElem?_toList];congr 1;omega
 have hbs:∀b,bsize (w.setRow p.1 D) b=bsize w b:=Qlx hC hDs;have hbs':∀b,bsize w b<=bsize (w.setRow p.1 D) b:=λb=>Nat.le_of_eq (hbs b).symm;have hother:∀b,b≠p.1->(w.setRow p.1 D).heap[b]?=w.heap[b]?:=λb hb=>setRow_other w p.1 b D hb;have hself:(w.setRow p.1 D).heap[p.1]?=some (.cells D ty fr):=setRow_heap w p.1 C D ty fr hC;have hup:=λid q hq=>Qk7 (p:=(p.1,p.2+off)) hn id q hq;have hfn:fz n=none:=by
  cases e:fz n with
  |none=>rfl
  |some c=>obtain⟨p,o,h1,_⟩:=(hr.rf n c e).at;rw[hn]at h1;cases h1
 have keepOwn:∀id' c,id'≠id->((look mu id').isSome\/(fz id').isSome)->OwnG val ρ w id' c->OwnG val (upd ρ n (p.1,p.2+off)) (w.setRow p.1 D) id' c:=by
  intro id' c hne hlv hown;refine hown.mono hup hbs' λq hq=>hother _ λe=>hne ?_;exact(hr.dj id id' p q (by simp[hl]) hlv hp hq e.symm).symm
 have keepF:∀id' c,id'≠id->((look mu id').isSome\/(fz id').isSome)->OwnF val ρ w id' c->OwnF val (upd ρ n (p.1,p.2+off)) (w.setRow p.1 D) id' c:=by
  intro id' c hne hlv hown;refine hown.mono hup hbs' λq hq=>hother _ λe=>hne ?_;exact(hr.dj id id' p q (by simp[hl]) hlv hp hq e.symm).symm
 have hlk:∀id' c,look ((n,known.drop off++src)::killS mu id) id'=some c->id'=n/\c=known.drop off++src\/id'≠n/\id'≠id/\look mu id'=some c:=by
  intro id' c h;rw[Qey]at h;by_cases e:n=id'
  ·simp only[e,if_true,Option.some.injEq]at h;exact .inl ⟨e.symm,h.symm⟩
  ·simp only[e,if_false,Qfe]at h;split at h
   ·cases h
   ·rename_i e2;exact .inr ⟨λx=>e x.symm,λx=>e2 x.symm,h⟩
 refine⟨w.setRow p.1 D,hrun,Qpa hn,⟨λid' c h=>?_,λid' c h=>?_,λid' c h=>?_,λa b q q' ha hb hq hq' he=>?_⟩,
  ⟨rfl,rfl,rfl,by simp,λb _ hb=>hother b λe=>hb id p (by simp[hl]) hp e.symm,hbs'⟩,λa q ha hq=>?_,λa ha=>?_,hbs⟩
 ·refine keepF id' c (λe=>?_) (.inr (by simp[h])) (hr.rf id' c h);subst e;have:=hr.dm id' known hl;rw[this]at h;cases h
 ·rcases hlk id' c h with⟨rfl,rfl⟩|⟨e1,e2,e3⟩
  ·refine .inl ⟨(p.1,p.2+off),D,ty,fr,upd_same _ _ _,hself,by rw[hDs];exact hfr,by simp;omega,λi s hi=>?_⟩;show∃v,D[p.2+off+i]?=some v/\_;rw[hDget];by_cases a1:i<m
   ·simp only[show p.2+off+i<p.2+off+m by omega,if_true];rw[List.getElem?_append_left (by simp;omega),List.getElem?_drop]at hi;obtain⟨v,e,r⟩:=hcs (off+i) s hi;exact⟨v,by rw[Nat.add_assoc];exact e,r.mono hup hbs'⟩
   ·simp only[show¬p.2+off+i<p.2+off+m by omega,if_false];rw[List.getElem?_append_right (by simp;omega)]at hi;simp only[List.length_drop,hk]at hi;obtain⟨v,e,r⟩:=hv.get hi;have hlt:=(List.getElem?_eq_some_iff.1 hi).1;simp only[show p.2+off+i<p.2+off+m+news.length by omega,if_true];exact⟨v,by rw[show p.2+off+i-(p.2+off+m)=i-(off+m-off) by omega];exact e,r.mono hup hbs'⟩
  ·exact keepOwn id' c e2 (.inl (by simp[e3])) (hr.rm id' c e3)
 ·rcases hlk id' c h with⟨rfl,rfl⟩|⟨e1,e2,e3⟩
  ·exact hfn
  ·exact hr.dm id' c e3
 ·have key:∀a q,((look ((n,known.drop off++src)::killS mu id) a).isSome\/(fz a).isSome)->upd ρ n (p.1,p.2+off) a=some q->a=n/\q.1=p.1\/a≠n/\a≠id/\ρ a=some q/\((look mu a).isSome\/(fz a).isSome):=by
   intro a q h hq;by_cases e:a=n
   ·left;subst e;rw[upd_same]at hq;cases hq;exact⟨rfl,rfl⟩
   ·right
    have hq2:ρ a=some q:=by simpa[upd,e]using hq
    rcases h with h|h
    ·obtain⟨c,hc⟩:=Option.isSome_iff_exists.1 h;rcases hlk a c hc with⟨x,_⟩|⟨_,x2,x3⟩
     ·exact(e x).elim
     ·exact⟨e,x2,hq2,.inl (by simp[x3])⟩
    ·refine⟨e,λx=>?_,hq2,.inr h⟩;subst x;have:=hr.dm a known hl;rw[this]at h;cases h
  rcases key a q (.inl ha) hq with⟨x1,x2⟩|⟨x1,x2,x3,x4⟩
  ·rcases key b q' hb hq' with⟨y1,y2⟩|⟨y1,y2,y3,y4⟩
   ·rw[x1,y1]
   ·exact(y2 (hr.dj id b p q' (by simp[hl]) y4 hp y3 (by omega)).symm).elim
  ·rcases key b q' hb hq' with⟨y1,y2⟩|⟨y1,y2,y3,y4⟩
   ·exact(x2 (hr.dj id a p q (by simp[hl]) x4 hp x3 (by omega)).symm).elim
   ·have hm:(look mu a).isSome:=by
     obtain⟨c,hc⟩:=Option.isSome_iff_exists.1 ha;rcases hlk a c hc with⟨x,_⟩|⟨_,_,z3⟩
     ·exact(x1 x).elim
     ·simp[z3]
    exact hr.dj a b q q' hm y4 x3 y3 he
 ·obtain⟨c,hc⟩:=Option.isSome_iff_exists.1 ha;rcases hlk a c hc with⟨rfl,_⟩|⟨x1,x2,x3⟩
  ·rw[upd_same]at hq;cases hq;exact .inr ⟨id,p,by simp[hl],hp,rfl⟩
  ·exact .inr ⟨a,q,by simp[x3],by simpa[upd,x1]using hq,rfl⟩
 ·obtain⟨c,hc⟩:=Option.isSome_iff_exists.1 ha;rcases hlk a c hc with⟨rfl,_⟩|⟨x1,x2,x3⟩
  ·exact .inr ⟨Nat.le_refl _,Nat.lt_succ_self _⟩
  ·exact .inl (by simp[x3])
theorem Rel.kill {ρ:Rho} {w:World} (hr:Rel val ρ fz mu w) (id:Nat):Rel val ρ fz (killS mu id) w:=by
 have h:∀a c,look (killS mu id) a=some c->look mu a=some c:=λa c h=>by
  rw[Qfe]at h;split at h
  ·cases h
  ·exact h
 have h':∀a,(look (killS mu id) a).isSome->(look mu a).isSome:=λa ha=>by
  obtain⟨c,hc⟩:=Option.isSome_iff_exists.1 ha;simp[h a c hc]
 exact⟨hr.rf,λa c hc=>hr.rm a c (h a c hc),λa c hc=>hr.dm a c (h a c hc),λa b p q ha hb=>hr.dj a b p q (h' a ha) (hb.imp (h' b) (λx=>x))⟩
end
end Go.Ev
namespace Go.Ev
section
variable {P:Program} {val:Nat->Int} {fz:Fz} {tm:TM} {mu:St} {n:Nat} {o:Oper}
theorem Fr.wider {ρ:Rho} {mu1:St} {w w':World} (h:Fr ρ mu1 w w') (hs:∀id,(look mu1 id).isSome->(look mu id).isSome):Fr ρ mu w w':=
 ⟨h.os,h.tape,h.output,h.size,λb hb hn=>h.keep b hb λid p hl hp=>hn id p (hs id hl) hp,h.shape⟩
theorem NewB.wider {ρ ρ':Rho} {mu1 mu':St} {w:World} (h:NewB ρ ρ' mu1 mu' w) (hs:∀id,(look mu1 id).isSome->(look mu id).isSome):NewB ρ ρ' mu mu' w:=
 λid p hl hp=>(h id p hl hp).imp (λx=>x) λ⟨a,q,h1,h2,h3⟩=>⟨a,q,hs a h1,h2,h3⟩
theorem NewI.wider {mu1 mu':St} {n':Nat} (h:NewI mu1 mu' n n') (hs:∀id,(look mu1 id).isSome->(look mu id).isSome):NewI mu mu' n n':=
 λid hl=>(h id hl).imp (hs id) (λx=>x)
theorem Qj5 (z:Array Value) (m:Nat):(Builtin.zeroCells z m).size=m*z.size:=by simp[Builtin.zeroCells]
structure AppT (P:Program) (c:Call) (x y:Operand) (s b:Nat) (sT xT e:TypeId) (i:TypeInfo) (zv:Value):Prop where
 callee:c.callee=.builtin .append
 types:c.argTypes=#[sT,xT]
 args:c.args=#[x,y]
 under:P.underlying sT=some (.slice e)
 src:(∃e',P.underlying xT=some (.slice e'))\/P.underlying xT=some .string
 info:P.info? e=some i
 size:i.size=s
 bytes:i.bytes=b
 zero:∀w,(zeroValue e).run P w=.ok zv w
 zsize:zv.cells.size=s
theorem Qks {c:Call} {x y:Operand} {s b:Nat} {sT xT e:TypeId} {i:TypeInfo} {zv:Value} (ht:AppT P c x y s b sT xT e i zv) (ho:o.op=.call c) {a:Act} {w w':World} {v:Value}
 (h:(Builtin.append_ #[sT,xT] o.type #[a.eval x,a.eval y]).run P w=.ok v w'):(execOp a.eval o).run P w=.ok (.value v) w':=by
 simp[execOp,ho,resolve,ht.callee,invoke,builtin,ht.types,ht.args,h]
theorem Qko {c:Call} {x y:Operand} {x' y':Od} {s b:Nat} {sT xT e:TypeId} {i:TypeInfo} {zv:Value} {sx sy:SV} {src:List SV} (ht:AppT P c x y s b sT xT e i zv) (ho:o.op=.call c)
 (hx:od P x=some x') (hy:od P y=some y') (ex:ev tm x'=.one sx) (ey:ev tm y'=.one sy) (hsrc:SrcOk P val fz mu s sy src 0) (hk:sx=.nsl\/sx=.esl\/∃id off len cap s',sx=.osl id off len cap s'):Sound P val fz tm mu n o (.one sx) mu n:=by
 refine Qex λρ w a hr hop=>?_;have g1:=hop x x' (by simp[ho,Op.operands,Call.operands,ht.callee,ht.args]) hx;have g2:=hop y y' (by simp[ho,Op.operands,Call.operands,ht.callee,ht.args]) hy;rw[ex]at g1;rw[ey]at g2;obtain⟨hl,_,news,hv,hf⟩:=hsrc.2 ρ w _ hr g2;have hf0:=hf 0 (Nat.le_refl _) w (Like.refl w);simp only[Nat.zero_mul,List.take_zero]at hf0;rw[<-ht.size]at hf0;refine⟨a.eval x,Qks ht ho ?_,g1⟩;rcases hk with rfl|rfl|⟨id,off,len,cap,s',rfl⟩
 ·have g1':a.eval x=.slice none 0 0:=g1;rw[g1'];exact append_nil ht.under ht.src ht.info (hl w) hf0
 ·obtain⟨ad,g1'⟩:=g1;rw[g1'];exact Qiu ht.under ht.src ht.info (hl w) (Nat.le_refl _) hf0 (by simp[storeCells])
 ·obtain⟨p,c',_,g1',h1,h2,_⟩:=g1;rw[g1'];exact Qiu ht.under ht.src ht.info (hl w) (by omega) hf0 (by simp[storeCells])
theorem Qps {c:Call} {x y:Operand} {x' y':Od} {s b:Nat} {sT xT e:TypeId} {i:TypeInfo} {zv:Value} {sx sy:SV} {src:List SV} {cnt:Nat} (ht:AppT P c x y s b sT xT e i zv) (ho:o.op=.call c)
 (hx:od P x=some x') (hy:od P y=some y') (ex:ev tm x'=.one sx) (ey:ev tm y'=.one sy) (hsrc:SrcOk P val fz mu s sy src cnt) (hk:sx=.nsl\/sx=.esl) (h0:cnt≠0) (hroom:fits cnt b=true):
 Sound P val fz tm mu n o (.one (.osl n 0 cnt cnt s)) ((n,src)::mu) (n+1):=by
 refine Qft (Nat.le_succ _) λρ w a hr hop hfr=>?_;have g1:=hop x x' (by simp[ho,Op.operands,Call.operands,ht.callee,ht.args]) hx;have g2:=hop y y' (by simp[ho,Op.operands,Call.operands,ht.callee,ht.args]) hy;rw[ex]at g1;rw[ey]at g2;obtain⟨hl,_,news,hv,hf⟩:=hsrc.2 ρ w _ hr g2;have hnl:news.length=cnt*s:=by rw[<-hv.length,hsrc.1]
 have hf1:=hf cnt (Nat.le_refl _) w.drew (Like.drew w);rw[<-hnl,List.take_length,<-ht.size]at hf1;have hbase:∃base:Option Addr,a.eval x=.slice base 0 0:=by
  rcases hk with rfl|rfl
  ·exact⟨none,g1⟩
  ·obtain⟨ad,g⟩:=g1;exact⟨some ad,g⟩
 obtain⟨base,hbase⟩:=hbase;have hold:(Builtin.firstCells i.size 0 (.slice base 0 0)).run P w.drew=.ok ([]:List Value).toArray w.drew:=by
  cases base<;>simp[Builtin.firstCells,loadCells,loadCellsFrom]
 obtain⟨newCap,rest,⟨c1,c1'⟩,c2,c3⟩:=Qlr (P:=P) (w:=w) (ty:=o.type) (sLen:=0) (sCap:=0) (base:=base) ht.under ht.src ht.info ht.zero (hl w) (by omega) (by rw[ht.bytes];simpa using hroom) hold hf1;rw[<-hbase]at c3;simp only[Nat.zero_add]at c1 c2 c3;have hn:=hfr n (Nat.le_refl _) (Nat.lt_succ_self _);have hsz:(([]:List Value).toArray++news.toArray++rest).size=newCap*s:=by
  rw[c2];simp only[Array.size_append,Qj5,ht.zsize,List.size_toArray,List.length_nil,hnl];rw[Nat.zero_add,<-Nat.add_mul];congr 1;omega
 obtain⟨b1,b2,b3,b4,b5,b6⟩:=Qhd (ty:=e) (Like.drew w) hr hn (cs:=src) (C:=([]:List Value).toArray++news.toArray++rest) (by rw[hsrc.1,hsz];exact Nat.mul_le_mul_right _ c1)
  (λj s' hj=>by
   obtain⟨v,ev',rv⟩:=hv.get hj;refine⟨v,?_,rv⟩;have hlt:=(List.getElem?_eq_some_iff.1 ev').1;rw[Array.getElem?_append_left (by simpa using hlt)];simpa using ev')
 refine⟨_,_,.inl (Qks ht ho c3),_,b1,b2,⟨(w.heap.size,0),newCap,upd_same _ _ _,rfl,Nat.le_refl _,c1,?_,c1'⟩,b3,b4,b5⟩;rw[b6,hsz];simp
theorem Qp7 {c:Call} {x y:Operand} {x' y':Od} {s b id off len cap:Nat} {sT xT e:TypeId} {i:TypeInfo} {zv:Value} {sy:SV} {src known:List SV} {cnt:Nat} (ht:AppT P c x y s b sT xT e i zv) (ho:o.op=.call c)
 (hx:od P x=some x') (hy:od P y=some y') (ex:ev tm x'=.one (.osl id off len cap s)) (ey:ev tm y'=.one sy) (hsrc:SrcOk P val fz mu s sy src cnt) (hks:Qeq src=true) (h0:cnt≠0) (hroom:fits (len+cnt) b=true)
 (hl:look mu id=some known) (hm:mkd known=false) (hkl:known.length=off+len*s):
 Sound P val fz tm mu n o (.one (.osl n 0 (len+cnt) (len+cnt) s)) ((n,known.drop off++src)::killS mu id) (n+1):=by
 refine Qft (Nat.le_succ _) λρ w a hr hop hfr=>?_;have g1:=hop x x' (by simp[ho,Op.operands,Call.operands,ht.callee,ht.args]) hx;have g2:=hop y y' (by simp[ho,Op.operands,Call.operands,ht.callee,ht.args]) hy;rw[ex]at g1;rw[ey]at g2;obtain⟨p,cc,hp,g1',q1,q2,q3,q4⟩:=g1;obtain⟨hlen,_,news,hv,hf⟩:=hsrc.2 ρ w _ hr g2;have hnl:news.length=cnt*s:=by rw[<-hv.length,hsrc.1]
 have hn:=hfr n (Nat.le_refl _) (Nat.lt_succ_self _);by_cases hfit:len+cnt<=cc
 ·have hf1:=hf cnt (Nat.le_refl _) w (Like.refl w);rw[<-hnl,List.take_length,<-ht.size]at hf1;have hfits:p.2+off+len*s+src.length<=bsize w p.1:=by
   rw[hsrc.1];have h1:len*s+cnt*s=(len+cnt)*s:=by rw[Nat.add_mul]
   have h2:(len+cnt)*s<=cc*s:=Nat.mul_le_mul_right _ hfit;omega
  obtain⟨w',m1,m2,m3,m4,m5,m6,m7⟩:=Qt8 (P:=P) hr hl hm hn hkl hp hv (Qgq hv hks) hfits;have hst:(storeCells ((⟨p.1,p.2+off,none⟩:Addr).add (len*i.size)) news).run P w=.ok () w':=by rw[addr_add,ht.size];exact m1
  have hap:=Qiu (P:=P) (ty:=o.type) ht.under ht.src ht.info (hlen w) hfit hf1 hst;rw[<-g1']at hap;refine⟨_,_,.inl (Qks ht ho hap),_,m2,m3,⟨(p.1,p.2+off),cc,upd_same _ _ _,rfl,Nat.le_refl _,hfit,?_,q4⟩,m4,m5,m6⟩;rw[m7];simpa using q3
 ·have hf1:=hf cnt (Nat.le_refl _) w.drew (Like.drew w);rw[<-hnl,List.take_length,<-ht.size]at hf1;obtain⟨old,o1,o2,o3,o4⟩:=((hr.rm id known hl).plain hm).r.read (P:=P) hp (off:=off) (n:=len*s) (by omega);have hold:(Builtin.firstCells i.size len (.slice (some ⟨p.1,p.2+off,none⟩) len cc)).run P w.drew=.ok old.toArray w.drew:=by
   have:=run_loadCells_list (P:=P) w.drew ⟨p.1,p.2+off,none⟩ old (λj v hj=>by rw[addr_add];exact o3 j v hj);rw[o1]at this;simp only[Builtin.firstCells,ht.size];exact this
  have o2':All2 (VR val ρ w) (known.drop off) old:=by
   have:(known.drop off).take (len*s)=known.drop off:=List.take_of_length_le (by simp;omega);rwa [this]at o2
  obtain⟨newCap,rest,⟨c1,c1'⟩,c2,c3⟩:=Qlr (P:=P) (w:=w) (ty:=o.type) ht.under ht.src ht.info ht.zero (hlen w) (by omega) (by rw[ht.bytes];exact hroom) hold hf1;rw[<-g1']at c3;have hsz:(old.toArray++news.toArray++rest).size=newCap*s:=by
   rw[c2];simp only[Array.size_append,Qj5,ht.zsize,List.size_toArray,hnl,o1];rw[<-Nat.add_mul,<-Nat.add_mul];congr 1;omega
  have hall:All2 (VR val ρ w) (known.drop off++src) (old++news):=o2'.append hv;have hkmono:∀a,(look (killS mu id) a).isSome->(look mu a).isSome:=λa ha=>by
   rw[Qfe]at ha;split at ha
   ·cases ha
   ·exact ha
  obtain⟨b1,b2,b3,b4,b5,b6⟩:=Qhd (ty:=e) (Like.drew w) (hr.kill id) hn (cs:=known.drop off++src) (C:=old.toArray++news.toArray++rest) (by
   rw[hsz];simp only[List.length_append,List.length_drop,hkl,hsrc.1];have:off+len*s-off+cnt*s=(len+cnt)*s:=by rw[Nat.add_mul];omega
   rw[this];exact Nat.mul_le_mul_right _ c1)
   (λj s' hj=>by
    obtain⟨v,ev',rv⟩:=hall.get hj;refine⟨v,?_,rv⟩;have hlt:=(List.getElem?_eq_some_iff.1 ev').1;rw[Array.getElem?_append_left (by simpa using hlt)];simpa using ev')
  refine⟨_,_,.inl (Qks ht ho c3),_,b1,b2,⟨(w.heap.size,0),newCap,upd_same _ _ _,rfl,Nat.le_refl _,c1,?_,c1'⟩,b3.wider hkmono,b4.wider hkmono,b5.wider hkmono⟩;rw[b6,hsz];simp
theorem Qus {c:Call} {x y:Operand} {x' y':Od} {s id off len cap:Nat} {sT xT e:TypeId} {sy:SV} {src known:List SV} {cnt:Nat} (ho:o.op=.call c) (hc:c.callee=.builtin .copy) (hty:c.argTypes=#[sT,xT]) (hargs:c.args=#[x,y])
 (hu:P.underlying sT=some (.slice e)) (hs:szOf P e=some s) (hx:od P x=some x') (hy:od P y=some y') (ex:ev tm x'=.one (.osl id off len cap s)) (ey:ev tm y'=.one sy) (hsrc:SrcOk P val fz mu s sy src cnt)
 (hks:Qeq (src.take (Nat.min cnt len*s))=true) (hl:look mu id=some known) (hm:mkd known=false) (hb:off+(src.take (Nat.min cnt len*s)).length<=known.length):
 Sound P val fz tm mu n o (.one (.int .i64 (Int.ofNat (Nat.min cnt len)))) (putS mu id (over known off (src.take (Nat.min cnt len*s)))) n:=by
 refine Qft (Nat.le_refl _) λρ w a hr hop _=>?_;have g1:=hop x x' (by simp[ho,Op.operands,Call.operands,hc,hargs]) hx;have g2:=hop y y' (by simp[ho,Op.operands,Call.operands,hc,hargs]) hy;rw[ex]at g1;rw[ey]at g2;obtain⟨p,cc,hp,g1',q1,q2,q3,q4⟩:=g1;obtain⟨hlen,_,news,hv,hf⟩:=hsrc.2 ρ w _ hr g2;have hf1:=hf (Nat.min cnt len) (Nat.min_le_left _ _) w (Like.refl w);have hv':=hv.take (Nat.min cnt len*s);obtain⟨q,w',e1,e2,e3,e4,e5,e6,e7⟩:=Qmq (P:=P) (n:=n) (n':=n) hr hl hm hb hv' (Qgq hv' hks);rw[hp]at e1;cases e1;have hszr:=Qg6 hs w;refine⟨.int .i64 (Int.ofNat (Nat.min cnt len)),w',.inl ?_,ρ,Ext.refl _ _ _,e3,rfl,e4,e5,e6⟩;have hund:(underlying sT).run P w=.ok (.slice e) w:=by simp[underlying,hu]
 have key:(Builtin.copy_ #[sT,xT] o.type #[.slice (some ⟨p.1,p.2+off,none⟩) len cc,a.eval y]).run P w=.ok (goInt (Nat.min cnt len)) w':=by
  simp only[Builtin.copy_,List.getElem?_toArray,List.getElem?_cons_zero,List.getElem?_cons_succ,Sem.run_bind,hund,Result.andThen_ok,hlen w,hszr,hf1,e2,Sem.run_pure]
 rw[<-g1']at key;simp[execOp,ho,resolve,hc,invoke,builtin,hty,hargs,key,goInt]
end
end Go.Ev
namespace Go.Ev
section
variable {R:Type} {T:R->Prop} {z:R} {P:Program} {val:Nat->Int} {fz:Fz} {tm:TM} {mu:St} {n:Nat} {o:Oper}
def Qf6 (T:R->Prop) (P:Program) (val:Nat->Int) (call:CallT R):Prop:=
 ∀f args fz mu n k,T (call f args fz mu n k)->∃v mu' n',T (k v mu' n')/\Qgw P f=true/\n<=n'/\∀ρ w (xs:List Value),Rel val ρ fz mu w->All2 (AVR val ρ w) args xs->Qgi ρ n n'->
  Calls P f xs.toArray w λe w'=>∃x,e=.returned x/\Post val ρ fz mu n w v mu' n' x w'
theorem Qli {n0 m:Nat}:∀{s:St} {k:St->R},T (keepM n0 m s k)->∃s',T (k s')/\∀id,look s' id=if Nat.ble n0 id&&!(bitIs n0 m id)then none else look s id
 |[],k,h=>⟨[],h,λid=>by simp[look_nil]⟩
 |p::s,k,h=>by
  have h':T (cond (Nat.ble n0 p.1) (cond (bitIs n0 m p.1) (keepM n0 m s λr=>k (p::r)) (keepM n0 m s k)) (keepM n0 m s λr=>k (p::r))):=h;have yes:(Nat.ble n0 p.1&&!(bitIs n0 m p.1))=false->T (keepM n0 m s λr=>k (p::r))->∃s',T (k s')/\∀id,look s' id=if Nat.ble n0 id&&!(bitIs n0 m id)then none else look (p::s) id:=by
   intro hp h;obtain⟨s',h1,h2⟩:=Qli (k:=λr=>k (p::r)) h;refine⟨p::s',h1,λid=>?_⟩;rw[Qey,Qey,h2];by_cases he:p.1=id
   ·subst he;simp only[if_true,hp,Bool.false_eq_true,if_false]
   ·simp only[he,if_false]
  cases e1:Nat.ble n0 p.1 with
  |false=>rw[e1]at h';exact yes (by rw[e1];rfl) h'
  |true=>
   rw[e1]at h';cases e2:bitIs n0 m p.1 with
   |true=>rw[e2]at h';exact yes (by rw[e1,e2];rfl) h'
   |false=>
    rw[e2]at h';obtain⟨s',h1,h2⟩:=Qli h';refine⟨s',h1,λid=>?_⟩;rw[Qey,h2];by_cases he:p.1=id
    ·subst he;simp[e1,e2]
    ·simp only[he,if_false]
theorem Qlh {n0:Nat}:∀{l:List (Nat×Nat)} {m:Nat} {k:Nat->R},T (capsM n0 l m k)->∃m,T (k m)
 |[],m,k,h=>⟨m,h⟩
 |p::l,m,k,h=>by
  have h':T (cond (Nat.ble n0 p.1) (fN (Nat.lor m (Nat.shiftLeft 1 (Nat.sub p.1 n0))) λm=>capsM n0 l m k) (capsM n0 l m k)):=h;cases e:Nat.ble n0 p.1 with
  |true=>rw[e]at h';have h'':T (fN (Nat.lor m (Nat.shiftLeft 1 (Nat.sub p.1 n0))) λm=>capsM n0 l m k):=h';rw[fN_eq]at h'';exact Qlh h''
  |false=>rw[e]at h';exact Qlh h'
theorem Qgo {n0:Nat}:∀{l:List SV} {m:Nat} {k:Nat->R},T (idsM n0 l m k)->∃m,T (k m)
 |[],m,k,h=>⟨m,h⟩
 |v::l,m,k,h=>by
  have bit:∀id,T (bitK n0 id m λm=>idsM n0 l m k)->∃m,T (k m):=by
   intro id h;have h':T (cond (Nat.ble n0 id) (fN (Nat.lor m (Nat.shiftLeft 1 (Nat.sub id n0))) λm=>idsM n0 l m k) (idsM n0 l m k)):=h;cases e:Nat.ble n0 id with
   |true=>rw[e]at h';have h'':T (fN (Nat.lor m (Nat.shiftLeft 1 (Nat.sub id n0))) λm=>idsM n0 l m k):=h';rw[fN_eq]at h'';exact Qgo h''
   |false=>rw[e]at h';exact Qgo h'
  cases v with
  |optr id o=>exact bit id h
  |osl id o a b c=>exact bit id h
  |mp id=>exact bit id h
  |fn f cs=>
   obtain⟨m',h1⟩:=Qlh (show T (capsM n0 cs m λm=>idsM n0 l m k)from h);exact Qgo h1
  |_=>exact Qgo (l:=l) h
theorem Quv {n0:Nat} {v:AV} {k:Nat->R} (h:T (v.idsM n0 k)):∃m,T (k m):=by
 cases v with
 |one s=>exact Qgo (l:=[s]) h
 |ag l=>exact Qgo (l:=l) h
 |tp l=>
  have key:∀(l:List CV) (m:Nat),T (List.rec (motive:=λ_=>Nat->R) k (λc _ ih m=>CV.rec (motive:=λ_=>R) (λs=>Ev.idsM n0 [s] m ih) (λl=>Ev.idsM n0 l m ih) c) l m)->∃m,T (k m):=by
   intro l;induction l with
   |nil=>exactλm h=>⟨m,h⟩
   |cons c l ih=>
    intro m h;cases c with
    |one s=>obtain⟨m',h1⟩:=Qgo (l:=[s]) h;exact ih m' h1
    |ag l'=>obtain⟨m',h1⟩:=Qgo (l:=l') h;exact ih m' h1
  exact key l 0 h
theorem Qkf {n0:Nat}:∀{s:St} {m:Nat} {k:Nat->R},T (Qsv n0 s m k)->∃m,T (k m)
 |[],m,k,h=>⟨m,h⟩
 |p::s,m,k,h=>by
  have h':T (cond (Nat.ble n0 p.1) (Qsv n0 s m k) (idsM n0 p.2 m λm=>Qsv n0 s m k)):=h;cases e:Nat.ble n0 p.1 with
  |true=>rw[e]at h';exact Qkf (s:=s) h'
  |false=>rw[e]at h';obtain⟨m',h1⟩:=Qgo h';exact Qkf (s:=s) h1
theorem Qju {n0:Nat}:∀{s:St} {m:Nat} {k:Nat->R},T (passM n0 s m k)->∃m,T (k m)
 |[],m,k,h=>⟨m,h⟩
 |p::s,m,k,h=>by
  have h':T (cond (Nat.ble n0 p.1) (cond (bitIs n0 m p.1) (idsM n0 p.2 m λm=>passM n0 s m k) (passM n0 s m k)) (passM n0 s m k)):=h;cases e:Nat.ble n0 p.1 with
  |false=>rw[e]at h';exact Qju (s:=s) h'
  |true=>
   rw[e]at h';cases e2:bitIs n0 m p.1 with
   |false=>rw[e2]at h';exact Qju (s:=s) h'
   |true=>rw[e2]at h';obtain⟨m',h1⟩:=Qgo h';exact Qju (s:=s) h1
theorem Qq8 {n0:Nat} {s:St}:∀{d m:Nat} {k:Nat->R},T (fixM n0 s d m k)->∃m,T (k m)
 |0,m,k,h=>⟨m,h⟩
 |d+1,m,k,h=>by
  obtain⟨m',h1⟩:=Qju (show T (passM n0 s m λm'=>cond (Nat.beq m m') (k m) (fixM n0 s d m' k))from h);cases e:Nat.beq m m' with
  |true=>rw[e]at h1;exact⟨m,h1⟩
  |false=>rw[e]at h1;exact Qq8 h1
theorem Qru {n0:Nat} {v:AV} {s:St} {k:St->R} (h:T (sweepK n0 v s k)):∃s',T (k s')/\∀id c,look s' id=some c->look s id=some c:=by
 obtain⟨m1,h1⟩:=Quv h;obtain⟨m2,h2⟩:=Qkf h1;obtain⟨m3,h3⟩:=Qq8 h2;obtain⟨s',h4,h5⟩:=Qli h3;refine⟨s',h4,λid c hc=>?_⟩;rw[h5]at hc;split at hc
 ·cases hc
 ·exact hc
theorem Qr5 {sw:Bool} {n0:Nat} {v:AV} {s:St} {k:St->R} (h:T (sweepG sw n0 v s k)):∃s',T (k s')/\∀id c,look s' id=some c->look s id=some c:=by
 cases sw with
 |true=>exact Qru h
 |false=>exact⟨s,h,λ_ _ h=>h⟩
theorem Qoj {l:List Od} {c:List AV} {k:List AV->R}:argsK tm l c k=k (l.map (ev tm)++c):=by
 induction l generalizing k with
 |nil=>rfl
 |cons h t ih=>exact ih
theorem Qwh {ρ:Rho} {w:World} {cs:List (Nat×Nat)} {vs:List Value} (h:All2 (CapR ρ) cs vs):All2 (AVR val ρ w) (Qij cs) vs:=by
 induction cs generalizing vs with
 |nil=>cases vs with
  |nil=>trivial
  |cons _ _=>exact h.elim
 |cons c cs ih=>cases vs with
  |nil=>exact h.elim
  |cons v vs=>
   obtain⟨q,hq,e⟩:=h.1;exact⟨⟨q,hq,e⟩,ih h.2⟩
theorem Rel.ro {ρ:Rho} {w:World} (hr:Rel val ρ fz mu w):Rel val ρ (with' mu fz) [] w:=by
 refine⟨λid cs h=>?_,λid cs h=>(by cases h),λid cs h=>(by cases h),λid id' p p' h=>(by cases h)⟩;rw[Qe5]at h;cases e:look mu id with
 |some c=>rw[e]at h;simp only[Option.some.injEq]at h;subst h;exact(hr.rm id c e).f
 |none=>rw[e]at h;exact hr.rf id cs h
theorem join_new {ρ ρ':Rho} {w w':World} {new new':St} {n':Nat} (hr:Rel val ρ fz mu w) (he:Ext ρ ρ' n n') (hr':Rel val ρ' (with' mu fz) new w') (hf:Fr ρ [] w w') (hb:NewB ρ ρ' [] new w) (hi:NewI [] new n n')
 (hsub:∀id c,look new' id=some c->look new id=some c):
 Rel val ρ' fz (new'++mu) w'/\Fr ρ mu w w'/\NewB ρ ρ' mu (new'++mu) w/\NewI mu (new'++mu) n n':=by
 have hsubI:∀id,(look new' id).isSome->(look new id).isSome:=λid h=>by
  obtain⟨c,hc⟩:=Option.isSome_iff_exists.1 h;simp[hsub id c hc]
 have hlk:∀id c,look (new'++mu) id=some c->look new id=some c\/look mu id=some c:=λid c h=>by
  rw[Qe1]at h;cases e:look new' id with
  |some d=>rw[e]at h;simp only[Option.some.injEq]at h;subst h;exact .inl (hsub id d e)
  |none=>rw[e]at h;exact .inr h
 have hlkI:∀id,(look (new'++mu) id).isSome->(look new id).isSome\/(look mu id).isSome:=λid h=>by
  obtain⟨c,hc⟩:=Option.isSome_iff_exists.1 h;rcases hlk id c hc with h|h
  ·exact .inl (by simp[h])
  ·exact .inr (by simp[h])
 have hw:∀id c,look mu id=some c->with' mu fz id=some c:=λid c h=>by rw[Qe5,h]
 have hwf:∀id c,fz id=some c->with' mu fz id=some c:=λid c h=>by
  rw[Qe5];cases e:look mu id with
  |some d=>rw[hr.dm id d e]at h;cases h
  |none=>exact h
 have hwI:∀id,((look mu id).isSome\/(fz id).isSome)->(with' mu fz id).isSome:=λid h=>by
  rcases h with h|h
  ·obtain⟨c,hc⟩:=Option.isSome_iff_exists.1 h;simp[hw id c hc]
  ·obtain⟨c,hc⟩:=Option.isSome_iff_exists.1 h;simp[hwf id c hc]
 refine⟨⟨λid c h=>hr'.rf id c (hwf id c h),λid c h=>?_,λid c h=>?_,λa b p q ha hb' hp hq hpq=>?_⟩,hf.wider (λid h=>(by cases h)),λid p hl hp=>?_,λid hl=>?_⟩
 ·rcases hlk id c h with h|h
  ·exact hr'.rm id c h
  ·exact(hr.rm id c h).mono he.old hf.shape λp hp=>hf.keep _ ((hr.rm id c h).lt hp) λid p hl=>(by cases hl)
 ·rcases hlk id c h with h|h
  ·have:=hr'.dm id c h;rw[Qe5]at this;cases e:look mu id with
   |some d=>rw[e]at this;cases this
   |none=>rw[e]at this;exact this
  ·exact hr.dm id c h
 ·have hb2:(look new b).isSome\/(with' mu fz b).isSome:=by
   rcases hb' with h|h
   ·rcases hlkI b h with h|h
    ·exact .inl h
    ·exact .inr (hwI b (.inl h))
   ·exact .inr (hwI b (.inr h))
  rcases hlkI a ha with h|h
  ·exact hr'.dj a b p q h hb2 hp hq hpq
  ·rcases hb2 with h2|h2
   ·exact(hr'.dj b a q p h2 (.inr (hwI a (.inl h))) hq hp hpq.symm).symm
   ·have hb3:(look mu b).isSome\/(fz b).isSome:=by
     rw[Qe5]at h2;cases e:look mu b with
     |some d=>exact .inl rfl
     |none=>rw[e]at h2;exact .inr h2
    have old:∀x y,((look mu x).isSome\/(fz x).isSome)->ρ' x=some y->ρ x=some y:=by
     intro x y hx hxy;have:∃y',ρ x=some y':=by
      rcases hx with hx|hx
      ·obtain⟨c,hc⟩:=Option.isSome_iff_exists.1 hx;obtain⟨p,o,h1,_⟩:=(hr.rm x c hc).at;exact⟨p,h1⟩
      ·obtain⟨c,hc⟩:=Option.isSome_iff_exists.1 hx;obtain⟨p,o,h1,_⟩:=(hr.rf x c hc).at;exact⟨p,h1⟩
     obtain⟨y',hy'⟩:=this;have:=he.old x y' hy';rw[hxy]at this;cases this;exact hy'
    exact hr.dj a b p q h hb3 (old a p (.inl h) hp) (old b q hb3 hq) hpq
 ·rcases hlkI id hl with h|h
  ·rcases hb id p h hp with h1|⟨_,_,h1,_⟩
   ·exact .inl h1
   ·cases h1
  ·obtain⟨c,hc⟩:=Option.isSome_iff_exists.1 h;obtain⟨q,o,h1,_⟩:=(hr.rm id c hc).at
   have:=he.old id q h1;rw[hp]at this;cases this;exact .inr ⟨id,p,h,h1,rfl⟩
 ·rcases hlkI id hl with h|h
  ·rcases hi id h with h1|h1
   ·cases h1
   ·exact .inr h1
  ·exact .inl h
theorem Qut {call:CallT R} (hz:¬T z) (hc:Qf6 T P val call) {ro:Bool} {c:Call} {f:Operand} {f':Od} {ys:List Od} {k:KT R} (ho:o.op=.call c) (hcal:c.callee=.value f) (hf:od P f=some f') (hys:ods P c.args.toList=some ys)
 {orc:Orc R} (h:T (oCall orc z call fz tm mu n ro f' ys k)):∃v mu' n',T (k v mu' n')/\Sound P val fz tm mu n o v mu' n':=by
 obtain⟨s,e1,h1⟩:=Qes hz h;obtain⟨g,cs,e2,h2⟩:=Qxs hz h1;subst e2;rw[Qoj]at h2;have exec:∀(ρ:Rho) (w:World) (a:Act),OperR P val ρ w tm a o.op->Qgw P g=true->∃xs:List Value,All2 (AVR val ρ w) (ys.map (ev tm)++Qij cs) xs/\(execOp a.eval o).run P w=.ok (.enter g xs.toArray) w:=by
  intro ρ w a hop hb;have gf:=hop f f' (by simp[ho,Op.operands,Call.operands,hcal]) hf;rw[e1]at gf;obtain⟨vs,gf',hvs⟩:=gf;have hR:=ods_R (val:=val) (tm:=tm) (a:=a) hys λx y hx' hy=>hop x y (by simp[ho,Op.operands,Call.operands,hcal];exact .inr (Array.mem_toList_iff.1 hx')) hy;refine⟨c.args.toList.map a.eval++vs,hR.append (Qwh hvs),?_⟩;unfold Qgw at hb;cases hg:P.funcs[g]? with
  |none=>rw[hg]at hb;cases hb
  |some fn=>
   rw[hg]at hb;simp only[Bool.and_eq_true,Bool.not_eq_true']at hb;have hbn:¬fn.body=none:=by cases hbd:fn.body<;>simp_all
   have hnm:¬fn.name= "runtime.NumGoroutine" :=by have:=hb.2;simpa using this
   have harr:c.args.map a.eval++vs.toArray=(c.args.toList.map a.eval++vs).toArray:=by
    apply Array.ext';simp
   simp[execOp,ho,resolve,hcal,gf',Deferred.ofValue,invoke,callFunc,hg,hnm,hbn,harr]
 cases ro with
 |false=>
  obtain⟨v,mu',n',q1,q2,q3,q4⟩:=hc g _ fz mu n k h2;refine⟨v,mu',n',q1,q3,λρ w a hr hop hfr K Q hK=>?_⟩;obtain⟨xs,x1,x2⟩:=exec ρ w a hop q2;unfold Oper.wp;rw[x2];refine(q4 ρ w xs hr x1 hfr).mono ?_;rintro e w' ⟨x,rfl,hp⟩;exact hK x w' hp
 |true=>
  obtain⟨v,new,n',q1,q2,q3,q4⟩:=hc g _ (with' mu fz) [] n _ h2;obtain⟨new',q5,q6⟩:=Qr5 q1;rw[Qig]at q5;refine⟨v,new'++mu,n',q5,q3,λρ w a hr hop hfr K Q hK=>?_⟩;obtain⟨xs,x1,x2⟩:=exec ρ w a hop q2;unfold Oper.wp;rw[x2];refine(q4 ρ w xs hr.ro x1 hfr).mono ?_;rintro e w' ⟨x,rfl,ρ',p1,p2,p3,p4,p5,p6⟩;obtain⟨r1,r2,r3,r4⟩:=join_new hr p1 p2 p4 p5 p6 q6;exact hK x w' ⟨ρ',p1,r1,p3,r2,r3,r4⟩
end
end Go.Ev
namespace Go.Ev
section
variable {val:Nat->Int} {ρ:Rho} {fz:Fz} {mu:St} {w:World} {n n':Nat}
theorem Qtr {w':World} {cs:List SV} (hos:w'.os=w.os) (htp:w'.tape=w.tape) (hou:w'.output=w.output) (hsz:w'.heap.size=w.heap.size+1) (hold:∀b,b<w.heap.size->w'.heap[b]?=w.heap[b]?)
 (hr:Rel val ρ fz mu w) (hn:ρ n=none) (hown:(∀b,bsize w b<=bsize w' b)->OwnG val (upd ρ n (w.heap.size,0)) w' n cs):
 Ext ρ (upd ρ n (w.heap.size,0)) n (n+1)/\Rel val (upd ρ n (w.heap.size,0)) fz ((n,cs)::mu) w'/\Fr ρ mu w w'/\
  NewB ρ (upd ρ n (w.heap.size,0)) mu ((n,cs)::mu) w/\NewI mu ((n,cs)::mu) n (n+1):=by
 have hbs:∀b,bsize w b<=bsize w' b:=λb=>by
  by_cases hb:b<w.heap.size
  ·unfold bsize;rw[hold b hb];exact Nat.le_refl _
  ·have:bsize w b=0:=by unfold bsize;rw[Array.getElem?_eq_none (by omega)]
   omega
 have hown:=hown hbs;have hup:=λid q hq=>Qk7 (p:=(w.heap.size,0)) hn id q hq;have keepOwn:∀id c,OwnG val ρ w id c->OwnG val (upd ρ n (w.heap.size,0)) w' id c:=λid c ho=>
  ho.mono hup hbs λp hp=>hold _ (ho.lt hp)
 have keepF:∀id c,OwnF val ρ w id c->OwnF val (upd ρ n (w.heap.size,0)) w' id c:=λid c ho=>
  ho.mono hup hbs λp hp=>hold _ (ho.lt hp)
 have hfn:fz n=none:=by
  cases e:fz n with
  |none=>rfl
  |some c=>obtain⟨p,o,h1,_⟩:=(hr.rf n c e).at;rw[hn]at h1;cases h1
 have hmn:look mu n=none:=by
  cases e:look mu n with
  |none=>rfl
  |some c=>obtain⟨p,o,h1,_⟩:=(hr.rm n c e).at;rw[hn]at h1;cases h1
 refine⟨Qpa hn,⟨λid c h=>keepF id c (hr.rf id c h),λid c h=>?_,λid c h=>?_,λid id' p p' h h' hp hp' he=>?_⟩,
  ⟨hos,htp,hou,by omega,λb hb _=>hold b hb,hbs⟩,λid p h hp=>?_,λid h=>?_⟩
 ·rw[Qey]at h;split at h
  ·rename_i e;cases h;subst e;exact hown
  ·exact keepOwn id c (hr.rm id c h)
 ·rw[Qey]at h;split at h
  ·rename_i e;subst e;exact hfn
  ·exact hr.dm id c h
 ·have key:∀id p,((look ((n,cs)::mu) id).isSome\/(fz id).isSome)->upd ρ n (w.heap.size,0) id=some p->id=n/\p.1=w.heap.size\/id≠n/\ρ id=some p/\((look mu id).isSome\/(fz id).isSome)/\p.1<w.heap.size:=by
   intro id p h hp;by_cases e:id=n
   ·left;subst e;rw[upd_same]at hp;cases hp;exact⟨rfl,rfl⟩
   ·right
    have hp':ρ id=some p:=by simpa[upd,e]using hp
    have hl':(look mu id).isSome\/(fz id).isSome:=by
     rcases h with h|h
     ·rw[Qey]at h;simp only[show¬n=id fromλx=>e x.symm,if_false]at h;exact .inl h
     ·exact .inr h
    refine⟨e,hp',hl',?_⟩;rcases hl' with h|h
    ·obtain⟨c,hc⟩:=Option.isSome_iff_exists.1 h;exact(hr.rm id c hc).lt hp'
    ·obtain⟨c,hc⟩:=Option.isSome_iff_exists.1 h;exact(hr.rf id c hc).lt hp'
  rcases key id p (.inl h) hp with⟨e1,e2⟩|⟨e1,e2,e3,e4⟩
  ·rcases key id' p' h' hp' with⟨f1,f2⟩|⟨f1,f2,f3,f4⟩
   ·rw[e1,f1]
   ·omega
  ·rcases key id' p' h' hp' with⟨f1,f2⟩|⟨f1,f2,f3,f4⟩
   ·omega
   ·have hm:(look mu id).isSome:=by
     rw[Qey]at h;simpa[show¬n=id fromλx=>e1 x.symm]using h
    exact hr.dj id id' p p' hm f3 e2 f2 he
 ·rw[Qey]at h;by_cases e:id=n
  ·subst e;rw[upd_same]at hp;cases hp;exact .inl (Nat.le_refl _)
  ·simp only[show¬n=id fromλx=>e x.symm,if_false]at h;exact .inr ⟨id,p,h,by simpa[upd,e]using hp,rfl⟩
 ·rw[Qey]at h;by_cases e:id=n
  ·subst e;exact .inr ⟨Nat.le_refl _,Nat.lt_succ_self _⟩
  ·simp only[show¬n=id fromλx=>e x.symm,if_false]at h;exact .inl h
theorem Qtt {w':World} {id:Nat} {cs cs':List SV} {p:Nat×Nat} (hr:Rel val ρ fz mu w) (hl:look mu id=some cs) (hp:ρ id=some p) (hos:w'.os=w.os) (htp:w'.tape=w.tape) (hou:w'.output=w.output)
 (hsz:w'.heap.size=w.heap.size) (hother:∀b,b≠p.1->w'.heap[b]?=w.heap[b]?) (hbs:∀b,bsize w b<=bsize w' b) (hown:OwnG val ρ w' id cs'):
 Rel val ρ fz (putS mu id cs') w'/\Fr ρ mu w w'/\NewB ρ ρ mu (putS mu id cs') w/\NewI mu (putS mu id cs') n n':=by
 have hlk:∀id',(look (putS mu id cs') id').isSome=(look mu id').isSome:=by
  intro id';rw[Qen];split
  ·subst_vars;simp[hl]
  ·rfl
 have keepOwn:∀id' c,id'≠id->((look mu id').isSome\/(fz id').isSome)->OwnG val ρ w id' c->OwnG val ρ w' id' c:=by
  intro id' c hne hlv hown;refine hown.mono (λ_ _ h=>h) hbs λq hq=>hother _ λe=>hne ?_;exact(hr.dj id id' p q (by simp[hl]) hlv hp hq e.symm).symm
 have keepF:∀id' c,id'≠id->((look mu id').isSome\/(fz id').isSome)->OwnF val ρ w id' c->OwnF val ρ w' id' c:=by
  intro id' c hne hlv hown;refine hown.mono (λ_ _ h=>h) hbs λq hq=>hother _ λe=>hne ?_;exact(hr.dj id id' p q (by simp[hl]) hlv hp hq e.symm).symm
 refine⟨⟨λid' c h=>?_,λid' c h=>?_,λid' c h=>?_,λa b q q' ha hb hq hq' he=>?_⟩,
  ⟨hos,htp,hou,by omega,λb _ hb=>hother b λe=>hb id p (by simp[hl]) hp e.symm,hbs⟩,λa q ha hq=>.inr ⟨a,q,by rwa [hlk]at ha,hq,rfl⟩,λa ha=>.inl (by rwa [hlk]at ha)⟩
 ·refine keepF id' c (λe=>?_) (.inr (by simp[h])) (hr.rf id' c h);subst e;have:=hr.dm id' cs hl;rw[this]at h;cases h
 ·rw[Qen]at h;split at h
  ·rename_i e;subst e;simp only[hl,Option.map_some,Option.some.injEq]at h;subst h;exact hown
  ·rename_i e;exact keepOwn id' c (λx=>e x.symm) (.inl (by simp[h])) (hr.rm id' c h)
 ·have:=hlk id';rw[h]at this;obtain⟨c',hc'⟩:=Option.isSome_iff_exists.1 this.symm;exact hr.dm id' c' hc'
 ·rw[hlk]at ha hb;exact hr.dj a b q q' ha hb hq hq' he
end
section
variable {P:Program} {val:Nat->Int} {fz:Fz} {tm:TM} {mu:St} {n:Nat} {o:Oper}
end
end Go.Ev
namespace Go.Ev
section
variable {P:Program} {val:Nat->Int} {fz:Fz} {tm:TM} {mu:St} {n:Nat} {o:Oper}
theorem Qrd {c:Call} {x y:Operand} {x' y':Od} {s b id off len cap:Nat} {sT xT e:TypeId} {i:TypeInfo} {zv:Value} {sy:SV} {src known:List SV} {cnt:Nat} (ht:AppT P c x y s b sT xT e i zv) (ho:o.op=.call c)
 (hx:od P x=some x') (hy:od P y=some y') (ex:ev tm x'=.one (.osl id off len cap s)) (ey:ev tm y'=.one sy) (hsrc:SrcOk P val fz mu s sy src cnt) (hks:Qeq src=true) (hcap:len+cnt<=cap)
 (hl:look mu id=some known) (hm:mkd known=false) (hkl:off+len*s+src.length<=known.length):
 Sound P val fz tm mu n o (.one (.osl id off (len+cnt) cap s)) (putS mu id (over known (off+len*s) src)) n:=by
 refine Qft (Nat.le_refl _) λρ w a hr hop _=>?_;have g1:=hop x x' (by simp[ho,Op.operands,Call.operands,ht.callee,ht.args]) hx;have g2:=hop y y' (by simp[ho,Op.operands,Call.operands,ht.callee,ht.args]) hy;rw[ex]at g1;rw[ey]at g2;obtain⟨p,cc,hp,g1',q1,q2,q3,q4⟩:=g1;obtain⟨hlen,_,news,hv,hf⟩:=hsrc.2 ρ w _ hr g2;have hnl:news.length=cnt*s:=by rw[<-hv.length,hsrc.1]
 have hf1:=hf cnt (Nat.le_refl _) w (Like.refl w);rw[<-hnl,List.take_length,<-ht.size]at hf1;obtain⟨q,w',e1,e2,e3,e4,e5,e6,e7⟩:=Qmq (P:=P) (n:=n) (n':=n) hr hl hm hkl hv (Qgq hv hks);rw[hp]at e1;cases e1;have hst:(storeCells ((⟨p.1,p.2+off,none⟩:Addr).add (len*i.size)) news).run P w=.ok () w':=by rw[addr_add,ht.size,Nat.add_assoc];exact e2
 have hap:=Qiu (P:=P) (ty:=o.type) (sCap:=cc) ht.under ht.src ht.info (hlen w) (by omega) hf1 hst;rw[<-g1']at hap;exact⟨_,_,.inl (Qks ht ho hap),ρ,Ext.refl _ _ _,e3,⟨p,cc,hp,rfl,hcap,q2,by rw[e7];exact q3,q4⟩,e4,e5,e6⟩
end
end Go.Ev
namespace Go.Ev
section
variable {R:Type} {T:R->Prop} {z:R} {P:Program} {val:Nat->Int} {fz:Fz} {tm:TM} {mu:St} {n:Nat} {o:Oper} {orc:Orc R} {call:CallT R}
theorem Qra (hz:¬T z) (hk:OrcOk T val orc) {ro:Bool} {c:Call} {b:Builtin} {ys:List Od} {op:AOp} {k:KT R} (ho:o.op=.call c) (hcal:c.callee=.builtin b) (hys:ods P c.args.toList=some ys)
 (hp:Qkd P b c.argTypes.toList ys=some op) (h:T (aop orc z call fz tm mu n ro op k)):∃v mu' n',T (k v mu' n')/\Sound P val fz tm mu n o v mu' n':=by
 have arg1:∀y,ys=[y]->∃x,c.args=#[x]/\od P x=some y:=by
  rintro y rfl;cases hl:c.args.toList with
  |nil=>rw[hl]at hys;simp[ods]at hys
  |cons x r=>
   rw[hl]at hys;simp only[ods]at hys;split at hys
   ·rename_i a l h1 h2;cases hys;cases r with
    |nil=>exact⟨x,by apply Array.ext';simpa using hl,h1⟩
    |cons u v=>simp only[ods]at h2;split at h2<;>cases h2
   ·cases hys
 have arg2:∀y y',ys=[y,y']->∃x x',c.args=#[x,x']/\od P x=some y/\od P x'=some y':=by
  rintro y y' rfl;cases hl:c.args.toList with
  |nil=>rw[hl]at hys;simp[ods]at hys
  |cons x r=>
   rw[hl]at hys;simp only[ods]at hys;split at hys
   ·rename_i a l h1 h2;cases hys;cases r with
    |nil=>simp[ods]at h2
    |cons u v=>
     simp only[ods]at h2;split at h2
     ·rename_i a' l' h3 h4;cases h2;cases v with
      |nil=>exact⟨x,u,by apply Array.ext';simpa using hl,h1,h3⟩
      |cons _ _=>simp only[ods]at h4;split at h4<;>cases h4
     ·cases h2
   ·cases hys
 have appCase:∀(t u:TypeId) (x y:Od) (e:TypeId) (s bb:Nat) (zs:List SV),c.argTypes.toList=[t,u]->ys=[x,y]->P.underlying t=some (.slice e)->((∃e',P.underlying u=some (.slice e'))\/P.underlying u=some .string)->
  szOf P e=some s->byOf P e=some bb->zeroOf P e=some zs->s≠0->b=.append->T (Qwn z fz tm mu n s bb x y k)->∃v mu' n',T (k v mu' n')/\Sound P val fz tm mu n o v mu' n':=by
  intro t u x y e s bb zs hts hys' hut huu hs hb hzs hs0 hbb h;obtain⟨x0,y0,ha,hx0,hy0⟩:=arg2 x y hys';obtain⟨zv,i,i1,i2,i3,i4,i5⟩:=Qhv hzs;have hsi:i.size=s:=by unfold szOf at hs;rw[i1]at hs;simpa using hs
  have hbi:i.bytes=bb:=by unfold byOf at hb;rw[i1]at hb;simpa using hb
  have hzl:zv.cells.size=s:=by
   have:=(Qjq (val:=val) (ρ:=λ_=>none) (w:=default) i3).1.length;rw[<-hsi,<-i4];simpa using this.symm
  have ht:AppT P c x0 y0 s bb t u e i zv:=⟨by rw[hcal,hbb],by apply Array.ext';simpa using hts,ha,hut,huu,i1,hsi,hbi,i5,hzl⟩
  obtain⟨sx,ex,h1⟩:=Qes hz h;obtain⟨sy,ey,h2⟩:=Qes hz h1;obtain⟨src,cnt,hsrc,h3⟩:=Qpj (P:=P) (val:=val) hz h2;obtain⟨hk,h4⟩:=Qew hz h3;have new:(sx=.nsl\/sx=.esl)->T (Qln z mu n s bb sx src cnt k)->∃v mu' n',T (k v mu' n')/\Sound P val fz tm mu n o v mu' n':=by
   intro hsx h;unfold Qln at h;cases hc0:Nat.beq cnt 0 with
   |true=>
    rw[hc0]at h;have:cnt=0:=Qgv hc0;subst this;exact⟨_,_,_,h,Qko ht ho hx0 hy0 ex ey hsrc (hsx.elim .inl λh=>.inr (.inl h))⟩
   |false=>
    rw[hc0]at h;obtain⟨hr,h⟩:=Qew hz h;rw[fN_eq]at h;have hne:cnt≠0:=λe=>by subst e;cases hc0
    exact⟨_,_,_,h,Qps ht ho hx0 hy0 ex ey hsrc hsx hne hr⟩
  cases sx with
  |nsl=>exact new (.inl rfl) h4
  |esl=>exact new (.inr rfl) h4
  |osl id off len cap s'=>
   have h5:T (appOwn z mu n s bb (.osl id off len cap s') id off len cap s' src cnt k):=h4;unfold appOwn at h5;cases hc0:Nat.beq cnt 0 with
   |true=>
    rw[hc0]at h5;have:cnt=0:=Qgv hc0;subst this;exact⟨_,_,_,h5,Qko ht ho hx0 hy0 ex ey hsrc (.inr (.inr ⟨_,_,_,_,_,rfl⟩))⟩
   |false=>
    rw[hc0]at h5;have hne:cnt≠0:=λe=>by subst e;cases hc0
    obtain⟨hr,h6⟩:=Qew hz h5;simp only[Bool.and_eq_true]at hr;have hss:s'=s:=Qgv hr.1;subst hss;obtain⟨known,hl,hmk,h7⟩:=Qh4 hz h6;rw[fN_eq]at h7;obtain⟨h8,h9⟩:=Qin hz h7;rw[Qlb]at h9;cases h10:Nat.beq (0+known.length) (Nat.add off (Nat.mul len s'))with
    |true=>
     rw[h10]at h9;have h11:T (appK ((known.drop off).take (Nat.mul len s')) src λcs=>killK mu id λmu=>fN (Nat.add len cnt) λl=>fN (Nat.succ n) λn'=>k (.one (.osl n 0 l l s')) ((n,cs)::mu) n'):=h9;simp only[Qvc,Qjs,fN_eq]at h11;have hkl:known.length=off+len*s':=by have:=Qgv h10;simpa using this
     have hd:(known.drop off).take (Nat.mul len s')=known.drop off:=List.take_of_length_le (by simp[hkl]);rw[hd]at h11;exact⟨_,_,_,h11,Qp7 ht ho hx0 hy0 ex ey hsrc hk hne hr.2 hl hmk hkl⟩
    |false=>
     rw[h10]at h9;obtain⟨h11,h12⟩:=Qew hz h9;rw[fN_eq]at h12;obtain⟨h13,h14⟩:=Qjz hz h12;rw[Qmv,fN_eq]at h14;exact⟨_,_,_,h14,Qrd ht ho hx0 hy0 ex ey hsrc hk (Nat.le_of_ble_eq_true h11) hl hmk h13⟩
  |_=>exact(hz h4).elim
 have tys1:∀t,c.argTypes.toList=[t]->c.argTypes=#[t]:=λt h=>by apply Array.ext';simpa using h
 have tys2:∀t u,c.argTypes.toList=[t,u]->c.argTypes=#[t,u]:=λt u h=>by apply Array.ext';simpa using h
 generalize hts:c.argTypes.toList=ts at hp;unfold Qkd at hp;split at hp
 ·rename_i t x;obtain⟨x0,ha,hx0⟩:=arg1 x rfl;have hty:=tys1 t hts;split at hp
  ·rename_i e hu;cases hp;obtain⟨s,ex,h1⟩:=Qes hz (show T (oLen z tm mu n false x k)from h);obtain⟨hst,h2⟩:=Qew hz h1;have hns:∀l b,s≠.str l b:=λl b e=>by subst e;cases hst
   have fin:∀m,lenOf s=some m->T (k (.one (.int .i64 (Int.ofNat m))) mu n)->∃v mu' n',T (k v mu' n')/\Sound P val fz tm mu n o v mu' n':=λm hm h=>⟨_,_,_,h,Qpr ho hcal hty ha (.inl ⟨e,hu,hns⟩) hx0 ex hm⟩
   cases s<;>first|exact(hz h2).elim|exact fin _ rfl h2|exact(hns _ _ rfl).elim
  ·rename_i hu;cases hp;obtain⟨s,ex,h1⟩:=Qes hz (show T (oLen z tm mu n true x k)from h);obtain⟨hst,h2⟩:=Qew hz h1;cases s<;>first|(cases hst;done)|skip
   rename_i l b;exact⟨_,_,_,h2,Qpr ho hcal hty ha (.inr ⟨hu,l,b,rfl⟩) hx0 ex rfl⟩
  ·cases hp
 ·rename_i t x;obtain⟨x0,ha,hx0⟩:=arg1 x rfl;have hty:=tys1 t hts;split at hp
  ·rename_i e hu;cases hp;obtain⟨s,ex,h1⟩:=Qes hz (show T (oCap z tm mu n x k)from h);cases s<;>first|exact(hz h1).elim|exact⟨_,_,_,h1,Qph ho hcal hty ha hu hx0 ex (.inl rfl)⟩|exact⟨_,_,_,h1,Qph ho hcal hty ha hu hx0 ex (.inr rfl)⟩
  ·cases hp
 ·rename_i t u x y;split at hp
  ·rename_i e e' hut huu;split at hp
   ·rename_i s bb zs hs hb hzs;split at hp
    ·rename_i hs0;cases hp;exact appCase t u x y e s bb zs hts rfl hut (.inl ⟨e',huu⟩) hs hb hzs (by simpa using hs0) rfl h
    ·cases hp
   ·cases hp
  ·rename_i e hut huu;split at hp
   ·rename_i s bb zs hs hb hzs;split at hp
    ·rename_i hs0;cases hp;exact appCase t u x y e s bb zs hts rfl hut (.inr huu) hs hb hzs (by simpa using hs0) rfl h
    ·cases hp
   ·cases hp
  ·cases hp
 ·rename_i t u x y;obtain⟨x0,y0,ha,hx0,hy0⟩:=arg2 x y rfl;have hty:=tys2 t u hts;split at hp
  ·rename_i e hu;split at hp
   ·rename_i s hs;split at hp
    ·rename_i hs0;cases hp;obtain⟨sx,ex,h1⟩:=Qes hz (show T (oCopy z fz tm mu n s x y k)from h);obtain⟨id,off,len,cap,s',e2,h2⟩:=Qp1 hz h1;subst e2;obtain⟨sy,ey,h3⟩:=Qes hz h2;obtain⟨hss,h4⟩:=Qew hz h3;have hss':s'=s:=Qgv hss;subst hss';obtain⟨src,cnt,hsrc,h5⟩:=Qpj (P:=P) (val:=val) hz h4;rw[fN_eq]at h5;obtain⟨h6,h7⟩:=Qn9 hz h5;obtain⟨hk,h8⟩:=Qew hz (show T (cond (Qeq (src.take (Nat.mul (Nat.min cnt len) s'))) (Qh7 mu id z λcs=>overK cs off (src.take (Nat.mul (Nat.min cnt len) s')) z λcs=>putK mu id cs λmu=>k (.one (.int .i64 (Int.ofNat (Nat.min cnt len)))) mu n) z)from h7);obtain⟨known,hl,hmk,h9⟩:=Qh4 hz h8;obtain⟨hb,h10⟩:=Qjz hz h9;rw[Qmv]at h10;exact⟨_,_,_,h10,Qus ho hcal hty ha hu hs hx0 hy0 ex ey hsrc hk hl hmk hb⟩
    ·cases hp
   ·cases hp
  ·cases hp
 ·rename_i t ts' x xs;split at hp
  ·cases hp;obtain⟨s,ex,h1⟩:=Qes hz (show T (oMax orc z tm mu n x xs k)from h);obtain⟨r,h3,h4⟩:=Qxv (P:=P) (val:=val) (fz:=fz) (mu:=mu) (n:=n) hz hk ho hcal hys ex h1;exact⟨_,_,_,h3,h4⟩
  ·cases hp
 ·rename_i t ts' x xs;split at hp
  ·cases hp;obtain⟨s,ex,h1⟩:=Qes hz (show T (oMin orc z tm mu n x xs k)from h);obtain⟨r,h3,h4⟩:=Qxb (P:=P) (val:=val) (fz:=fz) (mu:=mu) (n:=n) hz hk ho hcal hys ex h1;exact⟨_,_,_,h3,h4⟩
  ·cases hp
 ·cases hp
theorem aop_bin (hz:¬T z) (hk:OrcOk T val orc) {ro:Bool} {op:BinOp} {t u:TypeId} {x y:Operand} {x' y':Od} {aopr:AOp} {k:KT R} (ho:o.op=.binOp op t x y u) (hx:od P x=some x') (hy:od P y=some y')
 (hp:Qrl P op t u x' y'=some aopr) (h:T (aop orc z call fz tm mu n ro aopr k)):∃v mu' n',T (k v mu' n')/\Sound P val fz tm mu n o v mu' n':=by
 have eqn:∀(sl neg:Bool),o.op=.binOp (if neg then .neq else .eql) t x y u->((sl=true/\∃e,P.underlying t=some (.slice e))\/(sl=false/\∃e,P.underlying t=some (.pointer e)))->T (oEqn z tm mu n sl neg x' y' k)->
  ∃v mu' n',T (k v mu' n')/\Sound P val fz tm mu n o v mu' n':=by
  intro sl neg ho hu h;obtain⟨s1,e1,h1⟩:=Qes hz h;obtain⟨s2,e2,h2⟩:=Qes hz h1;obtain⟨a,ha,h3⟩:=Qgt hz h2;obtain⟨b,hb,h4⟩:=Qgt hz h3;obtain⟨hab,h5⟩:=Qew hz h4;rw[fB_eq]at h5;exact⟨_,_,_,h5,Qu3 ho hu hx hy e1 e2 ha hb hab⟩
 have eqs:∀{fs:Array Field} {ks:List Nat} (neg:Bool),o.op=.binOp (if neg then .neq else .eql) t x y u->P.underlying t=some (.struct fs)->(P.stoodInHeld t||P.eqGuardType P.depth t)=false->eqKs P 0 fs.toList=some ks->
  T (oEqs z tm mu n ks neg x' y' k)->∃v mu' n',T (k v mu' n')/\Sound P val fz tm mu n o v mu' n':=by
  intro fs ks neg ho hu hg hk h;obtain⟨a,e1,h1⟩:=Qmc hz h;obtain⟨b,e2,h2⟩:=Qmc hz h1;obtain⟨e,he,h3⟩:=Qgt hz h2;rw[fB_eq]at h3;exact⟨_,_,_,h3,Qx3 ho hu hg hk hx hy e1 e2 he⟩
 have eqb:∀(neg:Bool),o.op=.binOp (if neg then .neq else .eql) t x y u->P.underlying t=some .bool->T (oEqb z tm mu n neg x' y' k)->∃v mu' n',T (k v mu' n')/\Sound P val fz tm mu n o v mu' n':=by
  intro neg ho hu h;obtain⟨s1,e1,h1⟩:=Qes hz h;obtain⟨a,e2,h2⟩:=Qf3 hz h1;subst e2;obtain⟨s2,e3,h3⟩:=Qes hz h2;obtain⟨b,e4,h4⟩:=Qf3 hz h3;subst e4;rw[fB_eq]at h4;exact⟨_,_,_,h4,Qvu ho hu hx hy e1 e3⟩
 have num:T (oBin orc z tm mu n op x' y' k)->∃v mu' n',T (k v mu' n')/\Sound P val fz tm mu n o v mu' n':=by
  intro h;obtain⟨s1,e1,h1⟩:=Qes hz h;obtain⟨s2,e2,h2⟩:=Qes hz h1;cases s2 with
  |int kd' b=>
   cases s1 with
   |int kd a=>
    obtain⟨hkd,h4⟩:=Qew hz (show T (cond (IntKind.eqb kd kd') (binI op kd a b z λr=>k (.one r) mu n) z)from h2);have:=Qi8 hkd;subst this;obtain⟨s,hs,h5⟩:=Qyc hz h4;exact⟨_,_,_,h5,Qxm ho hx hy e1 e2 hs⟩
   |sym kd i=>
    obtain⟨hkd,h4⟩:=Qew hz (show T (cond (IntKind.eqb kd kd') (orc.bin op kd i b λr=>fSV r λr=>k (.one r) mu n) z)from h2);have:=Qi8 hkd;subst this;obtain⟨s,s',hs,he,h5⟩:=hk.bin _ _ _ _ _ h4;rw[Qm6]at h5;exact⟨_,_,_,h5,Qk6 ho hx hy (.inr ⟨i,e1,rfl⟩) (.inl e2) hs he⟩
   |_=>exact(hz h2).elim
  |sym kd' j=>
   cases s1 with
   |int kd a=>
    obtain⟨hkd,h4⟩:=Qew hz (show T (cond (IntKind.eqb kd kd') (orc.nib op kd a j λr=>fSV r λr=>k (.one r) mu n) z)from h2);have:=Qi8 hkd;subst this;obtain⟨s,s',hs,he,h5⟩:=hk.nib _ _ _ _ _ h4;rw[Qm6]at h5;exact⟨_,_,_,h5,Qk6 ho hx hy (.inl e1) (.inr ⟨j,e2,rfl⟩) hs he⟩
   |sym kd i=>
    obtain⟨hkd,h4⟩:=Qew hz (show T (cond (IntKind.eqb kd kd') (orc.force j λv=>orc.bin op kd i v λr=>fSV r λr=>k (.one r) mu n) z)from h2);have:=Qi8 hkd;subst this;obtain⟨s,s',hs,he,h5⟩:=hk.bin _ _ _ _ _ (hk.force _ _ h4);rw[Qm6]at h5;exact⟨_,_,_,h5,Qk6 ho hx hy (.inr ⟨i,e1,rfl⟩) (.inr ⟨j,e2,rfl⟩) hs he⟩
   |_=>exact(hz h2).elim
  |_=>exact(hz h2).elim
 have shf:∀left:Bool,o.op=.binOp (if left then .shl else .shr) t x y u->T (Qfj orc tm x' λtm=>Qfj orc tm y' λtm=>oShift z tm mu n left x' y' k)->∃v mu' n',T (k v mu' n')/\Sound P val fz tm mu n o v mu' n':=by
  intro left ho h;obtain⟨tm1,h,hf1⟩:=Qf2 hk h;obtain⟨tm2,h,hf2⟩:=Qf2 hk h;obtain⟨s1,e1,h1⟩:=Qes hz h;obtain⟨kd,a,e2,h2⟩:=Qgz hz h1;subst e2;obtain⟨s2,e3,h3⟩:=Qes hz h2;obtain⟨kd',b,e4,h4⟩:=Qgz hz h3;subst e4;obtain⟨hb,h5⟩:=Qir hz (show T (cond (ltI b 0) z (cond left (fI (kd.wrap (a*2^min b.toNat kd.bits)) λn'=>k (.one (.int kd n')) mu n) (fI (a.fdiv (2^min b.toNat kd.bits)) λn'=>k (.one (.int kd n')) mu n)))from h4);rw[Qhe]at hb;have hb':¬b<0:=by simpa using hb
  simp only[fI_eq]at h5;refine⟨_,_,_,?_,Qhq (hf1.trans hf2) (Qrq ho hx hy e1 e3 hb')⟩;cases left<;>exact h5
 unfold Qrl at hp;split at hp
 ·split at hp
  ·cases hp;exact shf true ho h
  ·cases hp;exact shf false ho h
  ·cases hp
  ·cases hp
  ·cases hp;exact num h
 ·cases hp;obtain⟨s1,e1,h1⟩:=Qes hz (show T (oSbin z tm mu n op x' y' k)from h);obtain⟨la,a,e2,h2⟩:=Qk9 hz h1;subst e2;obtain⟨s2,e3,h3⟩:=Qes hz h2;obtain⟨lb,b,e4,h4⟩:=Qk9 hz h3;subst e4;obtain⟨s,hs,h5⟩:=Qqi hz h4;exact⟨_,_,_,h5,Qtu ho hx hy e1 e3 hs⟩
 ·rename_i hu;split at hp
  ·cases hp;exact eqb false ho hu h
  ·cases hp;exact eqb true ho hu h
  ·cases hp
 ·rename_i e hu;split at hp
  ·cases hp
  ·split at hp
   ·cases hp;exact eqn true false ho (.inl ⟨rfl,e,hu⟩) h
   ·cases hp;exact eqn true true ho (.inl ⟨rfl,e,hu⟩) h
   ·cases hp
 ·rename_i e hu;split at hp
  ·cases hp
  ·split at hp
   ·cases hp;exact eqn false false ho (.inr ⟨rfl,e,hu⟩) h
   ·cases hp;exact eqn false true ho (.inr ⟨rfl,e,hu⟩) h
   ·cases hp
 ·rename_i fs hu;split at hp
  ·cases hp
  ·rename_i hg;have hg:(P.stoodInHeld t||P.eqGuardType P.depth t)=false:=by simpa using hg
   split at hp
   ·rename_i hk;cases hp;exact eqs false ho hu hg hk h
   ·rename_i hk;cases hp;exact eqs true ho hu hg hk h
   ·cases hp
 ·cases hp
end
end Go.Ev
namespace Go.Ev
section
variable {R:Type} {T:R->Prop} {z:R} {P:Program} {val:Nat->Int} {fz:Fz} {tm:TM} {mu:St} {n:Nat} {o:Oper} {orc:Orc R} {call:CallT R}
theorem Qpc {t:TypeId} {z:List SV} (ho:o.op=.alloc t) (hz:zeroOf P t=some z):Sound P val fz tm mu n o (.one (.optr n 0)) ((n,bldZ P t z)::mu) (n+1):=by
 by_cases hb:bldZ P t z=z
 ·rw[hb];exact Qr2 ho hz
 ·have hz2:z=[.npt,.nsl]/\bldZ P t z=[.mk 3,.mk t,.npt,.nsl]:=by
   unfold bldZ at hb⊢;split at hb
   ·cases hi:isBld P t with
    |true=>exact⟨rfl,rfl⟩
    |false=>rw[hi]at hb;exact(hb rfl).elim
   ·exact(hb rfl).elim
  obtain⟨h0,h00⟩:=hz2;rw[h00];obtain⟨v,i,h1,h2,h3,h4,h5⟩:=Qhv hz;refine Qft (Nat.le_succ _) λρ w a hr _ hf=>?_;have hn:=hf n (Nat.le_refl _) (Nat.lt_succ_self _);have hv:v.cells=#[.pointer none,.slice none 0 0]:=by
   have h6:=(Qjq (val:=val) (ρ:=ρ) (w:=w) h3).1;subst h0;match hc:v.cells.toList,h6 with
   |[x,y],h6=>
    obtain⟨e1,e2,_⟩:=h6;have e1:x=.pointer none:=e1;have e2:y=.slice none 0 0:=e2;subst e1;subst e2;apply Array.ext';rw[hc]
  obtain⟨b1,b2,b3,b4,b5⟩:=Qtr (w':=w.alloc (.cells v.cells t)) (cs:=[.mk 3,.mk t,.npt,.nsl]) (n:=n) (val:=val) (ρ:=ρ) (fz:=fz) (mu:=mu) (w:=w) rfl rfl rfl
   (by show(w.heap.push _).size=_;simp) (λb' hb'=>alloc_old (w:=w) _ hb') hr hn
   (λ_=>.inr (.bld w.heap.size t .npt .nsl (.pointer none) (.slice none 0 0) (upd_same _ _ _) (by rw[hv];exact Qkl (w:=w) _) (.inl ⟨rfl,rfl⟩) rfl))
  refine⟨.pointer (some ⟨w.heap.size,0,none⟩),w.alloc (.cells v.cells t),.inl ?_,_,b1,b2,⟨_,upd_same _ _ _,rfl⟩,b3,b4,b5⟩;simp[execOp,ho,Instr.alloc,h5,newVar,newRow]
theorem Qiq (hz:¬T z) (hc:Qf6 T P val call) (hk:OrcOk T val orc) {ro:Bool} {op:AOp} {k:KT R} (hp:Qgk P o.op=some op) (h:T (aop orc z call fz tm mu n ro op k)):
 ∃v mu' n',T (k v mu' n')/\Sound P val fz tm mu n o v mu' n':=by
 cases ho:o.op with
 |move x=>
  rw[ho]at hp;obtain⟨y,hy,rfl⟩:=Option.map_eq_some_iff.1 hp;exact⟨_,_,_,h,Qtj (.inl ho) hy⟩
 |assign x=>
  rw[ho]at hp;obtain⟨y,hy,rfl⟩:=Option.map_eq_some_iff.1 hp;exact⟨_,_,_,h,Qtj (.inr ho) hy⟩
 |pick c a b=>
  rw[ho]at hp;simp only[Qgk]at hp;split at hp
  ·rename_i c' a' b' hc' ha hb;cases hp;obtain⟨s,e1,h1⟩:=Qes hz (show T (oPick z tm mu n c' a' b' k)from h);obtain⟨t,e2,h2⟩:=Qf3 hz h1;subst e2;refine⟨_,_,_,?_,Qub ho hc' ha hb e1⟩;cases t<;>exact h2
  ·cases hp
 |alloc t=>
  rw[ho]at hp;obtain⟨zs,hzs,rfl⟩:=Option.map_eq_some_iff.1 hp;have h1:T (fN (Nat.succ n) λm=>k (.one (.optr n 0)) ((n,bldZ P t zs)::mu) m):=h;rw[fN_eq]at h1;exact⟨_,_,_,h1,Qpc ho hzs⟩
 |box t x=>
  rw[ho]at hp;obtain⟨y,hy,rfl⟩:=Option.map_eq_some_iff.1 hp;obtain⟨l,e1,h1⟩:=Qi5 hz (show T (oBox z tm mu n y k)from h);obtain⟨hkn,h2⟩:=Qew hz h1;have h3:T (fN (Nat.succ n) λm=>k (.one (.optr n 0)) ((n,l)::mu) m):=h2;rw[fN_eq]at h3;exact⟨_,_,_,h3,Qwt ho hy e1 hkn⟩
 |build t parts=>
  rw[ho]at hp;simp only[Qgk]at hp;split at hp
  ·rename_i fs zs hu hzs;split at hp
   ·rename_i hall;obtain⟨qs,hq,rfl⟩:=Option.map_eq_some_iff.1 hp;obtain⟨cs,h1,h2⟩:=Qrb (P:=P) (val:=val) (fz:=fz) (mu:=mu) (n:=n) hz ho hu hzs hall hq (show T (fill z tm qs zs λcs=>k (.ag cs) mu n)from h);exact⟨_,_,_,h1,h2⟩
   ·cases hp
  ·cases hp
 |buildSlice t len parts=>
  rw[ho]at hp;simp only[Qgk]at hp;split at hp
  ·rename_i e hu;split at hp
   ·rename_i s zs hs hzs;split at hp
    ·rename_i hc0;simp only[Bool.and_eq_true]at hc0;obtain⟨qs,hq,rfl⟩:=Option.map_eq_some_iff.1 hp;have h1:T (copyK (rep zs len) λcs=>fill z tm qs cs λcs=>fN (Nat.succ n) λm=>k (.one (.osl n 0 len len s)) ((n,cs)::mu) m):=h;rw[Qjx]at h1;obtain⟨cs,h2,h3⟩:=Qql (P:=P) (val:=val) (fz:=fz) (mu:=mu) (n:=n) hz ho hu hs (by simpa using hc0.1) (Nat.le_of_ble_eq_true hc0.2) hzs hq h1;rw[fN_eq]at h2;exact⟨_,_,_,h2,h3⟩
    ·cases hp
   ·cases hp
  ·cases hp
 |load t x=>
  rw[ho]at hp;simp only[Qgk]at hp;split at hp
  ·rename_i a m y ha hs hy;split at hp
   ·cases hp;obtain⟨s,e1,h1⟩:=Qes hz (show T (oLoad z fz tm mu n a m y k)from h);obtain⟨id,off,e2,h2⟩:=Qhu hz h1;subst e2;obtain⟨cs,hl,h3⟩:=Qjd hz h2;obtain⟨hb,h4⟩:=Qin hz h3;obtain⟨v,hv,h5⟩:=Qk8 hz h4;exact⟨_,_,_,h5,Qtw ho ha hs hy e1 hl hb hv⟩
   ·cases hp
  ·cases hp
 |store t x v=>
  rw[ho]at hp;simp only[Qgk]at hp;split at hp
  ·rename_i m y u hs hy hu;cases hp;obtain⟨s,e1,h1⟩:=Qes hz (show T (oStore z tm mu n m y u k)from h);obtain⟨id,off,e2,h2⟩:=Qhu hz h1;subst e2;obtain⟨vs,e3,h3⟩:=Qi5 hz h2;rw[Qlb]at h3;obtain⟨hm,h4⟩:=Qew hz h3;obtain⟨hkn,h5⟩:=Qew hz (show T (cond (Qeq vs) (Qh7 mu id z λcs=>overK cs off vs z λcs=>putK mu id cs λmu=>k noVal mu n) z)from h4);obtain⟨cs,hl,hmk,h6⟩:=Qh4 hz h5;obtain⟨hb,h7⟩:=Qjz hz h6;rw[Qmv]at h7;exact⟨_,_,_,h7,Qrm ho hs hy hu e1 e3 (by have:=Qgv hm;omega) hkn hl hmk hb⟩
  ·cases hp
 |nilCheck x=>
  rw[ho]at hp;obtain⟨y,hy,rfl⟩:=Option.map_eq_some_iff.1 hp;obtain⟨s,e1,h1⟩:=Qes hz (show T (oNilc z tm mu n y k)from h);cases s<;>first|exact(hz h1).elim|exact⟨_,_,_,h1,Qn3 ho hy e1 (.inl ⟨_,_,rfl⟩)⟩|exact⟨_,_,_,h1,Qn3 ho hy e1 (.inr ⟨_,_,rfl⟩)⟩
 |binOp op' t x y u=>
  rw[ho]at hp;simp only[Qgk]at hp;split at hp
  ·rename_i x' y' hx hy;exact aop_bin hz hk ho hx hy hp h
  ·cases hp
 |unOp op' t x=>
  rw[ho]at hp;simp only[Qgk]at hp;split at hp
  ·rename_i y hy;cases hp;obtain⟨s,e1,h1⟩:=Qes hz (show T (oNot z tm mu n y k)from h);obtain⟨b,e2,h2⟩:=Qf3 hz h1;subst e2;rw[fB_eq]at h2;exact⟨_,_,_,h2,Qv8 ho hy e1⟩
  ·rename_i y hy;cases hp;obtain⟨tm1,h,hf⟩:=Qf2 hk (show T (Qfj orc tm y λtm=>oNeg z tm mu n y k)from h);obtain⟨s,e1,h1⟩:=Qes hz (show T (oNeg z tm1 mu n y k)from h);obtain⟨kd,b,e2,h2⟩:=Qgz hz h1;subst e2;rw[fI_eq]at h2;exact⟨_,_,_,h2,Qhq hf (Qxz ho hy e1)⟩
  ·cases hp
 |convert t u x=>
  rw[ho]at hp;simp only[Qgk]at hp;split at hp
  ·rename_i k' kd y ht hu hy;cases hp;obtain⟨s,e1,h1⟩:=Qes hz (show T (oConv orc z tm mu n kd y k)from h);cases s with
   |int ka a=>
    have h2:T (wrapK kd a λr=>k (.one (.int kd r)) mu n):=h1;rw[Qih]at h2;exact⟨_,_,_,h2,Qt1 ho ht hu hy e1⟩
   |sym ka i=>
    obtain⟨s,hs,h2⟩:=hk.conv _ _ _ (show T (orc.conv kd i λr=>fSV r λr=>k (.one r) mu n)from h1);rw[Qm6]at h2;exact⟨_,_,_,h2,Qoy ho ht hu hy e1 hs⟩
   |_=>exact(hz h1).elim
  ·cases hp
 |makeFunc f first caps=>
  rw[ho]at hp;cases f with
  |func f=>
   simp only[Qgk]at hp;split at hp
   ·rename_i hc0;simp only[Bool.and_eq_true]at hc0;obtain⟨ys,hy,rfl⟩:=Option.map_eq_some_iff.1 hp;obtain⟨cs,h1,h2⟩:=Qtx hz (show T (capsK z tm ys λcs=>k (.one (.fn f cs)) mu n)from h);exact⟨_,_,_,h2,Qt7 ho hc0.1 hy h1⟩
   ·cases hp
  |_=>simp[Qgk]at hp
 |makeSlice t l c=>
  rw[ho]at hp;simp only[Qgk]at hp;split at hp
  ·rename_i e l' c' hu hl hc';split at hp
   ·rename_i s b zs hs hb hzs;split at hp
    ·rename_i hs0;cases hp;obtain⟨tm1,h,hf1⟩:=Qf2 hk (show T (Qfj orc tm l' λtm=>Qfj orc tm c' λtm=>Qoo z tm mu n s b zs l' c' k)from h);obtain⟨tm2,h,hf2⟩:=Qf2 hk h;obtain⟨s1,e1,h1⟩:=Qes hz (show T (Qoo z tm2 mu n s b zs l' c' k)from h);obtain⟨ka,x,e2,h2⟩:=Qgz hz h1;subst e2;obtain⟨s2,e3,h3⟩:=Qes hz h2;obtain⟨kb,y,e4,h4⟩:=Qgz hz h3;subst e4;obtain⟨hcond,h5⟩:=Qew hz h4;simp only[Bool.and_eq_true,Qhe,Bool.not_eq_true',decide_eq_false_iff_not]at hcond;obtain⟨⟨⟨⟨k1,k2⟩,k3⟩,k4⟩,k5⟩:=hcond;have hka:=Qi8 k1;have hkb:=Qi8 k2;subst hka;subst hkb;simp only[fN_eq,Qjx]at h5;exact⟨_,_,_,h5,Qhq (hf1.trans hf2) (Qox ho hu hs (by simpa using hs0) hb hzs hl hc' e1 e3 k3 k4 k5)⟩
    ·cases hp
   ·cases hp
  ·cases hp
 |slice t x lo hi mx=>
  rw[ho]at hp;have hsome:∀{a:Option Operand} {b:Option Od},odO P a=some b->a.isSome=b.isSome:=by
   intro a b hab;cases a with
   |none=>simp[odO]at hab;subst hab;rfl
   |some u=>simp only[odO]at hab;obtain⟨v,_,rfl⟩:=Option.map_eq_some_iff.1 hab;rfl
  simp only[Qgk]at hp;split at hp
  ·rename_i e x' lo' hi' mx' hu hx hlo hhi hmx;split at hp
   ·rename_i s hs;split at hp
    ·cases hp
    ·rename_i hcond;cases hp;obtain⟨tm1,h,hf1⟩:=Qhl hk (show T (Qhf orc tm lo' λtm=>Qhf orc tm hi' λtm=>Qhf orc tm mx' λtm=>oSlc z tm mu n false s x' lo' hi' mx' k)from h);obtain⟨tm2,h,hf2⟩:=Qhl hk h;obtain⟨tm3,h,hf3⟩:=Qhl hk h;obtain⟨sv,e1,h1⟩:=Qes hz (show T (oSlc z tm3 mu n false s x' lo' hi' mx' k)from h);obtain⟨hst,h2⟩:=Qew hz h1;obtain⟨r,hr,h3⟩:=Qgt hz h2;rw[Qm6]at h3;have hns:∀l b,sv≠.str l b:=λl b e=>by subst e;cases hst
     have hmi:mx.isSome=true->hi.isSome=true:=λhm=>by
      rw[hsome hmx]at hm;rw[hsome hhi];cases hh:hi' with
      |none=>exact(hcond (by simp[hm,hh])).elim
      |some _=>rfl
     exact⟨_,_,_,h3,Qhq ((hf1.trans hf2).trans hf3) (Qqv ho (.inl ⟨e,hu,hs,hns⟩) hmi hx hlo hhi hmx e1 hr)⟩
   ·cases hp
  ·rename_i x' lo' hi' mx' hu hx hlo hhi hmx;split at hp
   ·cases hp
   ·rename_i hcond;cases hp;obtain⟨tm1,h,hf1⟩:=Qhl hk (show T (Qhf orc tm lo' λtm=>Qhf orc tm hi' λtm=>Qhf orc tm mx' λtm=>oSlc z tm mu n true 0 x' lo' hi' mx' k)from h);obtain⟨tm2,h,hf2⟩:=Qhl hk h;obtain⟨tm3,h,hf3⟩:=Qhl hk h;obtain⟨sv,e1,h1⟩:=Qes hz (show T (oSlc z tm3 mu n true 0 x' lo' hi' mx' k)from h);obtain⟨hst,h2⟩:=Qew hz h1;obtain⟨r,hr,h3⟩:=Qgt hz h2;rw[Qm6]at h3;have hs:∃l b,sv=.str l b:=by cases sv<;>first|exact⟨_,_,rfl⟩|cases hst
    have hmi:mx.isSome=true->hi.isSome=true:=λhm=>by
     rw[hsome hmx]at hm;exact(hcond hm).elim
    exact⟨_,_,_,h3,Qhq ((hf1.trans hf2).trans hf3) (Qqv ho (.inr ⟨hu,hs⟩) hmi hx hlo hhi hmx e1 hr)⟩
  ·cases hp
 |fieldAddr t x i=>
  rw[ho]at hp;simp only[Qgk]at hp;split at hp
  ·rename_i fs y hu hy;split at hp
   ·rename_i f hf;split at hp
    ·rename_i m hs;split at hp
     ·cases hp
     ·rename_i hm;cases hp;obtain⟨s,e1,h1⟩:=Qes hz (show T (oFaddr z tm mu n f.offset y k)from h);obtain⟨id,off,e2,h2⟩:=Qhu hz h1;subst e2;rw[fN_eq]at h2;exact⟨_,_,_,h2,Qry ho hu hf hs (by simpa using hm) hy e1⟩
    ·cases hp
   ·cases hp
  ·cases hp
 |field t x i=>
  rw[ho]at hp;simp only[Qgk]at hp;split at hp
  ·rename_i fs y hu hy;split at hp
   ·rename_i f hf;split at hp
    ·rename_i a m ha hs;split at hp
     ·rename_i ham;cases hp;obtain⟨cs,e1,h1⟩:=Qmc hz (show T (oFld z tm mu n f.offset a m y k)from h);obtain⟨hb,h2⟩:=Qin hz h1;obtain⟨v,hv,h3⟩:=Qk8 hz h2;exact⟨_,_,_,h3,Qv1 ho hu hf ha hs (λe=>by subst e;simpa using ham) hy e1 hb hv⟩
     ·cases hp
    ·cases hp
   ·cases hp
  ·cases hp
 |indexAddr t x i=>
  rw[ho]at hp;simp only[Qgk]at hp;split at hp
  ·rename_i e x' i' hu hx hi;obtain⟨s,hs,rfl⟩:=Option.map_eq_some_iff.1 hp;obtain⟨tm1,h,hf⟩:=Qf2 hk (show T (Qfj orc tm i' λtm=>Qxl z tm mu n s x' i' k)from h);obtain⟨s1,e1,h1⟩:=Qes hz (show T (Qxl z tm1 mu n s x' i' k)from h);obtain⟨kd,j,e2,h2⟩:=Qgz hz h1;subst e2;obtain⟨s2,e3,h3⟩:=Qes hz h2;obtain⟨id,off,len,cap,s',e4,h4⟩:=Qp1 hz h3;subst e4;obtain⟨hcond,h5⟩:=Qew hz h4;simp only[Bool.and_eq_true,Qhe,Bool.not_eq_true',decide_eq_false_iff_not,Nat.blt_eq]at hcond;have hss:s'=s:=Qgv hcond.1.1;subst hss;rw[fN_eq]at h5;exact⟨_,_,_,h5,Qhq hf (Qsa ho hu hs hx hi e3 e1 hcond.1.2 hcond.2)⟩
  ·rename_i len e x' i' hu hx hi;obtain⟨s,hs,rfl⟩:=Option.map_eq_some_iff.1 hp;obtain⟨tm1,h,hf⟩:=Qf2 hk (show T (Qfj orc tm i' λtm=>Qr3 z tm mu n s len x' i' k)from h);obtain⟨s1,e1,h1⟩:=Qes hz (show T (Qr3 z tm1 mu n s len x' i' k)from h);obtain⟨kd,j,e2,h2⟩:=Qgz hz h1;subst e2;obtain⟨s2,e3,h3⟩:=Qes hz h2;obtain⟨id,off,e4,h4⟩:=Qhu hz h3;subst e4;obtain⟨hcond,h5⟩:=Qew hz h4;simp only[Bool.and_eq_true,Qhe,Bool.not_eq_true',decide_eq_false_iff_not,Nat.blt_eq]at hcond;rw[fN_eq]at h5;exact⟨_,_,_,h5,Qhq hf (Qqq ho hu hs hx hi e3 e1 hcond.1 hcond.2)⟩
  ·cases hp
 |index t x i=>
  rw[ho]at hp;simp only[Qgk]at hp;split at hp
  ·rename_i x' i' hu hx hi;cases hp;obtain⟨tm1,h,hf⟩:=Qf2 hk (show T (Qfj orc tm i' λtm=>oIdx z tm mu n x' i' k)from h);obtain⟨s1,e1,h1⟩:=Qes hz (show T (oIdx z tm1 mu n x' i' k)from h);obtain⟨kd,j,e2,h2⟩:=Qgz hz h1;subst e2;obtain⟨s2,e3,h3⟩:=Qes hz h2;obtain⟨l,b,e4,h4⟩:=Qk9 hz h3;subst e4;obtain⟨h0,h5⟩:=Qir hz h4;rw[Qhe]at h0;obtain⟨hc',h6⟩:=Qew hz h5;rw[fN_eq]at h6;exact⟨_,_,_,h6,Qhq hf (Qwl ho hu hx hi e3 e1 (by simpa using h0) (Nat.le_of_ble_eq_true hc'))⟩
  ·cases hp
 |extract x i=>
  rw[ho]at hp;obtain⟨y,hy,rfl⟩:=Option.map_eq_some_iff.1 hp;obtain⟨l,e1,h1⟩:=Qw3 hz (show T (oExtr z tm mu n y i k)from h);obtain⟨c,hl,h2⟩:=Qxi hz h1;refine⟨cvAV c,mu,n,?_,Qul ho hy e1 hl⟩;cases c<;>exact h2
 |call c=>
  rw[ho]at hp;simp only[Qgk]at hp;split at hp
  ·rename_i f args hcal hys;obtain⟨f',hf,rfl⟩:=Option.map_eq_some_iff.1 hp;exact Qut hz hc ho hcal hf hys h
  ·rename_i b args hcal hys;exact Qra hz hk ho hcal hys hp h
  ·cases hp
 |_=>rw[ho]at hp;simp[Qgk]at hp
end
end Go.Ev
namespace Go.Ev
structure TmR (val:Nat->Int) (ρ:Rho) (w:World) (tm:TM) (a:Act):Prop where
 rng:∀t,inR tm (t/16) (t%16)->t<a.tmps.size
 vals:∀t,AVR val ρ w (get tm (t/16) (t%16)) (a.tmps.getD t undef)
section
variable {val:Nat->Int} {ρ ρ':Rho} {w w':World} {tm:TM} {a:Act}
theorem TmR.mono (h:TmR val ρ w tm a) (ho:∀id p,ρ id=some p->ρ' id=some p) (hs:∀b,bsize w b<=bsize w' b):TmR val ρ' w' tm a:=
 ⟨h.rng,λt=>(h.vals t).mono ho hs⟩
theorem TmR.set (h:TmR val ρ w tm a) (t:Nat) {v:AV} {x:Value} (hv:AVR val ρ w v x):TmR val ρ w (setT tm (t/16) (t%16) v) (a.put (some t) x):=by
 have hput:∀t',(a.put (some t) x).tmps.getD t' undef=if t'=t/\t<a.tmps.size then x else a.tmps.getD t' undef:=by
  intro t';simp only[Act.put,Array.getD_eq_getD_getElem?,Array.getElem?_setIfInBounds];by_cases e:t=t'
  ·subst e;by_cases hl:t<a.tmps.size
   ·simp[hl]
   ·simp[hl,Array.getElem?_eq_none (Nat.le_of_not_lt hl)]
  ·have e':¬t'=t:=λx=>e x.symm;simp[e,e']
 refine⟨λt' ht=>?_,λt'=>?_⟩
 ·simpa[Act.put]using h.rng t' (Qso ht)
 ·rw[hput];by_cases e:t'=t
  ·subst e;rcases Qg7 (tm:=tm) (q:=t'/16) (r:=t'%16) (v:=v)with⟨h1,h2⟩|⟨h1,h2⟩
   ·rw[h2];simp[h.rng t' h1,hv]
   ·rw[h2];trivial
  ·have hne:¬(t'/16=t/16/\t'%16=t%16):=by omega
   rw[Qik hne];simp only[e,false_and,if_false];exact h.vals t'
def setDT (tm:TM) (dst:Option (Nat×Nat)) (v:AV):TM:=match dst with|none=>tm|some p=>setT tm p.1 p.2 v
theorem Qho {R:Type} (tm:TM) (dst:Option (Nat×Nat)) (v:AV) (k:TM->R):Qe8 tm dst v k=k (setDT tm dst v):=by
 cases dst with
 |none=>rfl
 |some p=>exact Qoz _ _ _ _ _
theorem TmR.put (h:TmR val ρ w tm a) (dst:Option Nat) {v:AV} {x:Value} (hv:AVR val ρ w v x):TmR val ρ w (setDT tm (dst.map slot) v) (a.put dst x):=by
 cases dst with
 |none=>exact h
 |some t=>exact h.set t hv
theorem TmR.oper {P:Program} (h:TmR val ρ w tm a) (op:Op):OperR P val ρ w tm a op:=by
 intro x y _ hy;cases x with
 |tmp t=>simp[od]at hy;subst hy;exact h.vals t
 |const v=>
  obtain⟨v',hv',rfl⟩:=Option.map_eq_some_iff.1 hy;exact toAV_AVR hv'
 |global g=>cases hy
 |func f=>
  simp only[od]at hy;split at hy
  ·cases hy;exact⟨[],rfl,trivial⟩
  ·cases hy
theorem TmR.ev {P:Program} (h:TmR val ρ w tm a) {x:Operand} {y:Od} (hy:od P x=some y):AVR val ρ w (Ev.ev tm y) (a.eval x):=h.oper (P:=P) (.move x) x y (by simp[Op.operands]) hy
end
def PostS (val:Nat->Int) (ρ:Rho) (fz:Fz) (mu:St) (n:Nat) (w:World) (a:Act) (tm':TM) (mu':St) (n':Nat) (a':Act) (w':World):Prop:=
 a'.defers=a.defers/\∃ρ',Ext ρ ρ' n n'/\Rel val ρ' fz mu' w'/\TmR val ρ' w' tm' a'/\Fr ρ mu w w'/\NewB ρ ρ' mu mu' w/\NewI mu mu' n n'
theorem PostS.refl {val:Nat->Int} {ρ:Rho} {fz:Fz} {mu:St} {n:Nat} {w:World} {a:Act} {tm:TM} (hr:Rel val ρ fz mu w) (ht:TmR val ρ w tm a):PostS val ρ fz mu n w a tm mu n a w:=
 ⟨rfl,ρ,Ext.refl _ _ _,hr,ht,Fr.refl _ _ _,NewB.refl,NewI.refl⟩
theorem PostS.trans {val:Nat->Int} {ρ ρ1:Rho} {fz:Fz} {mu mu1 mu2:St} {n n1 n2:Nat} {w w1 w2:World} {a a1 a2:Act} {tm2:TM} (hd:a1.defers=a.defers) (he:Ext ρ ρ1 n n1) (hf:Fr ρ mu w w1) (hb:NewB ρ ρ1 mu mu1 w) (hi:NewI mu mu1 n n1)
 (h1:n<=n1) (h2:n1<=n2) (h:PostS val ρ1 fz mu1 n1 w1 a1 tm2 mu2 n2 a2 w2):PostS val ρ fz mu n w a tm2 mu2 n2 a2 w2:=by
 obtain⟨d,ρ2,e2,r2,t2,f2,b2,i2⟩:=h;exact⟨d.trans hd,ρ2,he.trans e2 h1 h2,r2,t2,hf.trans hb f2,hb.trans b2 hf.size,hi.trans i2 h1 h2⟩
section
variable {R:Type} {T:R->Prop} {z:R} {P:Program} {val:Nat->Int} {fz:Fz} {orc:Orc R} {call:CallT R}
def OpR (P:Program) (ops:Array Oper) (o:Oper) (ao:AOper):Prop:=ao.dst=o.dst.map slot/\Qgk P o.op=some ao.op/\guardOf ops o.guard=some ao.g
def StepS (P:Program) (val:Nat->Int) (fz:Fz) (ops:Array Oper) (o:Oper) (tm:TM) (mu:St) (n:Nat) (tm':TM) (mu':St) (n':Nat):Prop:=
 n<=n'/\∀ρ w a,Rel val ρ fz mu w->TmR val ρ w tm a->Qgi ρ n n'->∀(K:Act->World->Prop) (Q:Exit->Act->World->Prop),(∀a' w',PostS val ρ fz mu n w a tm' mu' n' a' w'->K a' w')->
  (if Region.wanted o (yielded ops a.tmps)then o.wp P a w K Q\/(o.asks P a w/\LetsOut Q)else K (a.put o.dst undef) w)
theorem put_defers (a:Act) (dst:Option Nat) (v:Value):(a.put dst v).defers=a.defers:=by cases dst<;>rfl
theorem Qrg (hz:¬T z) {ops:Array Oper} {g:Option (Nat×Bool)} {g':Option (Nat×Nat×Bool)} {tm:TM} {yes no:R} (hg:guardOf ops g=some g') (h:T (Ql9 z g' tm yes no)):
 (T yes/\∀ρ w a,TmR val ρ w tm a->∀o:Oper,o.guard=g->Region.wanted o (yielded ops a.tmps)=true)\/(T no/\∀ρ w a,TmR val ρ w tm a->∀o:Oper,o.guard=g->Region.wanted o (yielded ops a.tmps)=false):=by
 cases g with
 |none=>
  simp[guardOf]at hg;subst hg;exact .inl ⟨h,λρ w a _ o ho=>by simp[Region.wanted,ho]⟩
 |some p=>
  obtain⟨j,want⟩:=p;simp only[guardOf]at hg;split at hg
  ·rename_i t ht;cases hg;have hv:∀ρ w a,TmR val ρ w tm a->∀x,inR tm (t/16) (t%16)->a.tmps.getD t undef=x->a.tmps[t]?=some x:=by
    intro ρ w a hr x hin hx;have hlt:=hr.rng t hin;simp only[Array.getD_eq_getD_getElem?,Array.getElem?_eq_getElem hlt,Option.getD_some]at hx;rw[Array.getElem?_eq_getElem hlt,hx]
   have hin:get tm (t/16) (t%16)≠.one .un->inR tm (t/16) (t%16):=by
    intro hne;unfold get at hne;simp only[Qgr]at hne;cases e:tm[t/16]? with
    |none=>rw[e]at hne;simp at hne
    |some row=>
     rw[e]at hne;simp only[Option.getD_some]at hne;refine⟨row,e,?_⟩;rcases Nat.lt_or_ge (t%16) row.length with h|h
     ·exact h
     ·rw[List.getElem?_eq_none h]at hne;exact(hne rfl).elim
   have h':T (AV.rec (motive:=λ_=>R) (λs=>s.Qfv z λb=>cond (b==want) yes no) (λ_=>z) (λl=>List.rec (motive:=λ_=>R) no (λ_ _ _=>z) l) (get tm (t/16) (t%16))):=h;cases e:get tm (t/16) (t%16)with
   |one s=>
    rw[e]at h';obtain⟨b,e2,h2⟩:=Qf3 hz h';subst e2;have key:∀ρ w a,TmR val ρ w tm a->∀o:Oper,o.guard=some (j,want)->Region.wanted o (yielded ops a.tmps)=(b==want):=by
     intro ρ w a hr o ho;have hx:=hr.vals t;rw[e]at hx;have hx':=hv ρ w a hr (.bool b) (hin (by rw[e];intro h;cases h)) hx;have hy:yielded ops a.tmps j=some b:=by
      unfold yielded;rw[ht];simp[hx']
     simp only[Region.wanted,ho,hy];cases b<;>cases want<;>rfl
    cases hb:(b==want)with
    |true=>rw[hb]at h2 key;exact .inl ⟨h2,key⟩
    |false=>rw[hb]at h2 key;exact .inr ⟨h2,key⟩
   |ag l=>rw[e]at h';exact(hz h').elim
   |tp l=>
    rw[e]at h';cases l with
    |cons _ _=>exact(hz h').elim
    |nil=>
     refine .inr ⟨h',λρ w a hr o ho=>?_⟩;have hx:=hr.vals t;rw[e]at hx;obtain⟨vs,hx1,hx2⟩:=hx;have hvs:vs=[]:=by cases vs with|nil=>rfl|cons _ _=>exact hx2.elim
     subst hvs;have hx':=hv ρ w a hr _ (hin (by rw[e];intro h;cases h)) hx1;have hy:yielded ops a.tmps j=none:=by
      unfold yielded;rw[ht];simp[hx']
     simp[Region.wanted,ho,hy]
  ·cases hg
theorem Qmj (hz:¬T z) (hc:Qf6 T P val call) (hk:OrcOk T val orc) {ops:Array Oper} {o:Oper} {ao:AOper} {tm:TM} {mu:St} {n:Nat} {k:TM->St->Nat->R} (hr:OpR P ops o ao) (h:T (stepK orc z call fz ao tm mu n k)):
 ∃tm' mu' n',T (k tm' mu' n')/\StepS P val fz ops o tm mu n tm' mu' n':=by
 obtain⟨hd,hp,hg⟩:=hr;rcases Qrg (val:=val) hz hg h with⟨h1,hw⟩|⟨h1,hw⟩
 ·obtain⟨v,mu',n',h2,h3⟩:=Qiq (P:=P) (val:=val) hz hc hk hp h1;rw[Qho]at h2;refine⟨_,_,_,h2,h3.1,λρ w a hrel htm hf K Q hK=>?_⟩;simp only[hw ρ w a htm o rfl,if_true];left
  refine h3.2 ρ w a hrel (htm.oper _) hf K Q λx w' hpost=>?_;obtain⟨ρ',p1,p2,p3,p4,p5,p6⟩:=hpost;refine hK _ _ ⟨put_defers _ _ _,ρ',p1,p2,?_,p4,p5,p6⟩;rw[hd];exact(htm.mono p1.old p4.shape).put o.dst p3
 ·rw[Qho]at h1;refine⟨_,_,_,h1,Nat.le_refl _,λρ w a hrel htm hf K Q hK=>?_⟩;simp only[hw ρ w a htm o rfl,Bool.false_eq_true,if_false];refine hK _ _ ⟨put_defers _ _ _,ρ,Ext.refl _ _ _,hrel,?_,Fr.refl _ _ _,NewB.refl,NewI.refl⟩;rw[hd];exact htm.put o.dst ⟨[],rfl,trivial⟩
theorem Qla (hz:¬T z) (hc:Qf6 T P val call) (hk:OrcOk T val orc) {ops:Array Oper}:∀{l:List Oper} {al:List AOper} {tm:TM} {mu:St} {n:Nat} {k:TM->St->Nat->R},All2 (OpR P ops) l al->T (runK orc z call fz al tm mu n k)->
 ∃tm' mu' n',T (k tm' mu' n')/\n<=n'/\∀ρ w a,Rel val ρ fz mu w->TmR val ρ w tm a->Qgi ρ n n'->∀(Q:Exit->Act->World->Prop),(∀a' w',PostS val ρ fz mu n w a tm' mu' n' a' w'->Q .normal a' w')->wpList P ops Q l a w
 |[],[],tm,mu,n,k,_,h=>⟨tm,mu,n,h,Nat.le_refl _,λρ w a hr ht _ Q hQ=>hQ a w (PostS.refl hr ht)⟩
 |[],_::_,_,_,_,_,hl,_=>hl.elim
 |_::_,[],_,_,_,_,hl,_=>hl.elim
 |o::l,ao::al,tm,mu,n,k,hl,h=>by
  obtain⟨tm1,mu1,n1,h1,h2⟩:=Qmj (P:=P) (val:=val) hz hc hk hl.1 (show T (stepK orc z call fz ao tm mu n λtm mu n=>runK orc z call fz al tm mu n k)from h);obtain⟨tm2,mu2,n2,h3,h4,h5⟩:=Qla hz hc hk hl.2 h1;refine⟨tm2,mu2,n2,h3,Nat.le_trans h2.1 h4,λρ w a hr ht hf Q hQ=>?_⟩;have:=h2.2 ρ w a hr ht (hf.sub (Nat.le_refl _) h4) (wpList P ops Q l) Q λa1 w1 hp=>by
   obtain⟨d,ρ1,p1,p2,p3,p4,p5,p6⟩:=hp;refine h5 ρ1 w1 a1 p2 p3 (hf.later p1 h2.1) Q λa2 w2 hp2=>hQ a2 w2 ?_;exact PostS.trans d p1 p4 p5 p6 h2.1 h4 hp2
  simpa only[wpList]using this
theorem Qhz {m:Muts} {ops:Array Oper}:∀{l:List Oper} {al:List AOper},Qgp P m ops l=some al->All2 (OpR P ops) l al
 |[],al,h=>by simp[Qgp]at h;subst h;trivial
 |o::l,al,h=>by
  simp only[Qgp]at h;split at h
  ·rename_i op g r h1 h2 h3;cases h;exact⟨⟨rfl,h1,h2⟩,Qhz h3⟩
  ·cases h
end
end Go.Ev
namespace Go.Ev
structure CInv (val:Nat->Int) (ρ:Rho) (fz:Fz) (comp:Nat->St) (w:World):Prop where
 rf:∀id cs,fz id=some cs->OwnF val ρ w id cs
 rm:∀c id cs,look (comp c) id=some cs->OwnG val ρ w id cs
 dm:∀c id cs,look (comp c) id=some cs->fz id=none
 dj:∀c c' id id' p p',(look (comp c) id).isSome->(look (comp c') id').isSome->ρ id=some p->ρ id'=some p'->p.1=p'.1->c=c'/\id=id'
 df:∀c id id' p p',(look (comp c) id).isSome->(fz id').isSome->ρ id=some p->ρ id'=some p'->p.1≠p'.1
def cat (comp:Nat->St):List Nat->St
 |[]=>[]
 |c::r=>comp c++cat comp r
theorem Qma {comp:Nat->St} {l:List Nat} {id:Nat} {cs:List SV} (h:look (cat comp l) id=some cs):∃c∈l,look (comp c) id=some cs:=by
 induction l with
 |nil=>cases h
 |cons c r ih=>
  simp only[cat,Qe1]at h;cases e:look (comp c) id with
  |some d=>rw[e]at h;simp only[Option.some.injEq]at h;subst h;exact⟨c,by simp,e⟩
  |none=>rw[e]at h;obtain⟨c',h1,h2⟩:=ih h;exact⟨c',by simp[h1],h2⟩
theorem Qis {comp:Nat->St} {l:List Nat} {id:Nat} (h:(look (cat comp l) id).isSome):∃c∈l,(look (comp c) id).isSome:=by
 obtain⟨cs,hcs⟩:=Option.isSome_iff_exists.1 h;obtain⟨c,h1,h2⟩:=Qma hcs;exact⟨c,h1,by simp[h2]⟩
section
variable {val:Nat->Int} {ρ:Rho} {fz:Fz} {comp:Nat->St} {w:World}
theorem CInv.take (h:CInv val ρ fz comp w) (l:List Nat):Rel val ρ fz (cat comp l) w:=by
 refine⟨h.rf,λid cs hl=>?_,λid cs hl=>?_,λid id' p p' hl hl' hp hp' he=>?_⟩
 ·obtain⟨c,_,h2⟩:=Qma hl;exact h.rm c id cs h2
 ·obtain⟨c,_,h2⟩:=Qma hl;exact h.dm c id cs h2
 ·obtain⟨c,_,h2⟩:=Qis hl;rcases hl' with hl'|hl'
  ·obtain⟨c',_,h3⟩:=Qis hl';exact(h.dj c c' id id' p p' h2 h3 hp hp' he).2
  ·exact(h.df c id id' p p' h2 hl' hp hp' he).elim
theorem Rel.noFz {mu:St} (h:Rel val ρ fz mu w):Rel val ρ (λ_=>none) mu w:=
 ⟨λid cs h=>(by cases h),h.rm,λ_ _ _=>rfl,λid id' p p' hl hl' hp hp' he=>h.dj id id' p p' hl (hl'.elim .inl (λx=>(by cases x))) hp hp' he⟩
theorem CInv.ro (h:CInv val ρ fz comp w) (l:List Nat) (c0:Nat):Rel val ρ (with' (cat comp l) (with' (comp c0) fz)) [] w:=by
 refine⟨λid cs hl=>?_,λid cs hl=>(by cases hl),λid cs hl=>(by cases hl),λid id' p p' hl=>(by cases hl)⟩;rw[Qe5]at hl;cases e:look (cat comp l) id with
 |some d=>rw[e]at hl;simp only[Option.some.injEq]at hl;subst hl;obtain⟨c,_,h2⟩:=Qma e;exact(h.rm c id d h2).f
 |none=>
  rw[e]at hl;simp only[Qe5]at hl;cases e2:look (comp c0) id with
  |some d=>rw[e2]at hl;simp only[Option.some.injEq]at hl;subst hl;exact(h.rm c0 id d e2).f
  |none=>rw[e2]at hl;exact h.rf id cs hl
def Qfy (comp:Nat->St) (l:List Nat) (t:Nat) (out:St):Nat->St:=λc=>if c=t then out else if c∈l then[]else comp c
theorem CInv.update {ρ':Rho} {fzv:Fz} {muv out:St} {w':World} {n n' t:Nat} {l:List Nat} (h:CInv val ρ fz comp w) (hmu:∀id,(look muv id).isSome->∃c∈l,(look (comp c) id).isSome) (he:Ext ρ ρ' n n') (hfr:Qgi ρ n n')
 (hr':Rel val ρ' fzv out w') (hf:Fr ρ muv w w') (hb:NewB ρ ρ' muv out w) (hi:NewI muv out n n'):CInv val ρ' fz (Qfy comp l t out) w':=by
 have fzRho:∀id,(fz id).isSome->∃p,ρ id=some p/\p.1<w.heap.size:=λid hs=>by
  obtain⟨c,hc⟩:=Option.isSome_iff_exists.1 hs;have ho:=h.rf id c hc;obtain⟨p,o,h1,_⟩:=ho.at
  exact⟨p,h1,(h.rf id c hc).lt h1⟩
 have cRho:∀c id,(look (comp c) id).isSome->∃p,ρ id=some p/\p.1<w.heap.size:=λc id hs=>by
  obtain⟨cs,hc⟩:=Option.isSome_iff_exists.1 hs;have ho:=h.rm c id cs hc;obtain⟨p,o,h1,_⟩:=ho.at
  exact⟨p,h1,(h.rm c id cs hc).lt h1⟩
 have keepB:∀b,b<w.heap.size->(∀c∈l,∀id p,(look (comp c) id).isSome->ρ id=some p->p.1≠b)->w'.heap[b]?=w.heap[b]?:=λb hlt hn=>
  hf.keep b hlt λid p hl hp=>by obtain⟨c,h1,h2⟩:=hmu id hl;exact hn c h1 id p h2 hp
 have oldC:∀c id cs,c≠t->look (Qfy comp l t out c) id=some cs->c∉l/\look (comp c) id=some cs:=λc id cs hct hl=>by
  unfold Qfy at hl;simp only[hct,if_false]at hl;split at hl
  ·cases hl
  ·rename_i hcl;exact⟨hcl,hl⟩
 have oldCI:∀c id,c≠t->(look (Qfy comp l t out c) id).isSome->c∉l/\(look (comp c) id).isSome:=λc id hct hl=>by
  obtain⟨cs,hcs⟩:=Option.isSome_iff_exists.1 hl;obtain⟨h1,h2⟩:=oldC c id cs hct hcs;exact⟨h1,by simp[h2]⟩
 have newC:∀id,look (Qfy comp l t out t) id=look out id:=λid=>by simp[Qfy]
 have keepOwnC:∀c id cs,c∉l->look (comp c) id=some cs->OwnG val ρ' w' id cs:=λc id cs hcl hl=>by
  have ho:=h.rm c id cs hl;refine ho.mono he.old hf.shape λp hp=>keepB p.1 (ho.lt hp) λc' hc' id' p' hl' hp' e=>?_;exact hcl ((h.dj c c' id id' p p' (by simp[hl]) hl' hp hp' e.symm).1▸hc')
 -- blocks of the new part
 have blk:∀id p,(look out id).isSome->ρ' id=some p->w.heap.size<=p.1\/∃c∈l,∃id0 p0,(look (comp c) id0).isSome/\ρ id0=some p0/\p0.1=p.1:=λid p hl hp=>by
  rcases hb id p hl hp with h1|⟨id0,p0,h1,h2,h3⟩
  ·exact .inl h1
  ·obtain⟨c,h4,h5⟩:=hmu id0 h1;exact .inr ⟨c,h4,id0,p0,h5,h2,h3⟩
 have rhoOld:∀c id p,(look (comp c) id).isSome->ρ' id=some p->ρ id=some p/\p.1<w.heap.size:=λc id p hl hp=>by
  obtain⟨q,h1,h2⟩:=cRho c id hl;have:=he.old id q h1;rw[hp]at this;cases this;exact⟨h1,h2⟩
 have rhoFz:∀id p,(fz id).isSome->ρ' id=some p->ρ id=some p/\p.1<w.heap.size:=λid p hl hp=>by
  obtain⟨q,h1,h2⟩:=fzRho id hl;have:=he.old id q h1;rw[hp]at this;cases this;exact⟨h1,h2⟩
 refine⟨λid cs hl=>?_,λc id cs hl=>?_,λc id cs hl=>?_,λc c' id id' p p' hl hl' hp hp' e=>?_,λc id id' p p' hl hl' hp hp' e=>?_⟩
 ·have ho:=h.rf id cs hl;refine ho.mono he.old hf.shape λp hp=>keepB p.1 (ho.lt hp) λc hc id' p' hl' hp' e=>?_;exact h.df c id' id p' p hl' (by simp[hl]) hp' hp e
 ·by_cases hct:c=t
  ·subst hct;rw[newC]at hl;exact hr'.rm id cs hl
  ·obtain⟨h1,h2⟩:=oldC c id cs hct hl;exact keepOwnC c id cs h1 h2
 ·by_cases hct:c=t
  ·subst hct;rw[newC]at hl;rcases hi id (by simp[hl])with h1|h1
   ·obtain⟨c',_,h3⟩:=hmu id h1;obtain⟨cs',hcs'⟩:=Option.isSome_iff_exists.1 h3;exact h.dm c' id cs' hcs'
   ·cases e:fz id with
    |none=>rfl
    |some x=>
     obtain⟨p,h2,_⟩:=fzRho id (by simp[e]);rw[hfr id h1.1 h1.2]at h2;cases h2
  ·obtain⟨h1,h2⟩:=oldC c id cs hct hl;exact h.dm c id cs h2
 ·by_cases hct:c=t
  ·by_cases hct':c'=t
   ·subst hct;subst hct';rw[newC]at hl hl';exact⟨rfl,hr'.dj id id' p p' hl (.inl hl') hp hp' e⟩
   ·subst hct;rw[newC]at hl;obtain⟨h1,h2⟩:=oldCI c' id' hct' hl';obtain⟨h3,h4⟩:=rhoOld c' id' p' h2 hp';rcases blk id p hl hp with h5|⟨d,hd,id0,p0,h6,h7,h8⟩
    ·omega
    ·exact(h1 ((h.dj d c' id0 id' p0 p' h6 h2 h7 h3 (h8.trans e)).1▸hd)).elim
  ·obtain⟨h1,h2⟩:=oldCI c id hct hl;obtain⟨h3,h4⟩:=rhoOld c id p h2 hp;by_cases hct':c'=t
   ·subst hct';rw[newC]at hl';rcases blk id' p' hl' hp' with h5|⟨d,hd,id0,p0,h6,h7,h8⟩
    ·omega
    ·exact(h1 ((h.dj d c id0 id p0 p h6 h2 h7 h3 (h8.trans e.symm)).1▸hd)).elim
   ·obtain⟨g1,g2⟩:=oldCI c' id' hct' hl';obtain⟨g3,g4⟩:=rhoOld c' id' p' g2 hp';exact h.dj c c' id id' p p' h2 g2 h3 g3 e
 ·obtain⟨g1,g2⟩:=rhoFz id' p' hl' hp';by_cases hct:c=t
  ·subst hct;rw[newC]at hl;rcases blk id p hl hp with h5|⟨d,hd,id0,p0,h6,h7,h8⟩
   ·omega
   ·exact h.df d id0 id' p0 p' h6 hl' h7 g1 (h8.trans e)
  ·obtain⟨h1,h2⟩:=oldCI c id hct hl;obtain⟨h3,h4⟩:=rhoOld c id p h2 hp;exact h.df c id id' p p' h2 hl' h3 g1 e
theorem CInv.mono0 {ρ':Rho} {w':World} (h:CInv val ρ fz comp w) (he:∀id p,ρ id=some p->ρ' id=some p) (hf:Fr ρ [] w w'):CInv val ρ' fz comp w':=by
 have kp:∀b,b<w.heap.size->w'.heap[b]?=w.heap[b]?:=λb hb=>hf.keep b hb λid p hl=>(by cases hl)
 have rho:∀id cs p,OwnF val ρ w id cs->ρ' id=some p->ρ id=some p:=λid cs p ho hp=>by
  obtain⟨q,o,h1,_⟩:=ho.at
  have:=he id q h1;rw[hp]at this;cases this;exact h1
 refine⟨λid cs hl=>(h.rf id cs hl).mono he hf.shape λp hp=>kp _ ((h.rf id cs hl).lt hp),λc id cs hl=>(h.rm c id cs hl).mono he hf.shape λp hp=>kp _ ((h.rm c id cs hl).lt hp),h.dm,λc c' id id' p p' hl hl' hp hp' e=>?_,λc id id' p p' hl hl' hp hp' e=>?_⟩
 ·obtain⟨cs,h1⟩:=Option.isSome_iff_exists.1 hl;obtain⟨cs',h2⟩:=Option.isSome_iff_exists.1 hl';exact h.dj c c' id id' p p' hl hl' (rho id cs p (h.rm c id cs h1).f hp) (rho id' cs' p' (h.rm c' id' cs' h2).f hp') e
 ·obtain⟨cs,h1⟩:=Option.isSome_iff_exists.1 hl;obtain⟨cs',h2⟩:=Option.isSome_iff_exists.1 hl';exact h.df c id id' p p' hl hl' (rho id cs p (h.rm c id cs h1).f hp) (rho id' cs' p' (h.rf id' cs' h2) hp') e
theorem CInv.like {w1:World} (hl:Like w w1) (h:CInv val ρ fz comp w):CInv val ρ fz comp w1:=
 ⟨fun id c hc=>(h.rf id c hc).mono (fun _ _ h=>h) (fun b=>Nat.le_of_eq (hl.bsize b).symm) fun p _=>by rw[hl.heap],
  λc id cs hc=>(h.rm c id cs hc).mono (λ_ _ h=>h) (λb=>Nat.le_of_eq (hl.bsize b).symm) λp _=>by rw[hl.heap],h.dm,h.dj,h.df⟩
end
end Go.Ev
namespace Go.Ev
structure Rec where
 w:Bool
 v:AV
 out:St
 n1:Nat
def sucs (l:List Nat):List Nat:=l.map (· +1)
def takes (o:AOper) (i:Nat):List Nat:=if o.mode=2 then sucs o.anc++[0]else if o.mode=0\/o.mode=1\/o.mode=3 then[]else(i+1)::sucs o.anc
def target (o:AOper) (i:Nat):Nat:=if o.mode=2 then 0 else i+1
def updC (o:AOper) (i:Nat) (r:Rec) (comp:Nat->St):Nat->St:=if r.w=true/\o.mode≠0 then Qfy comp (takes o i) (target o i) r.out else comp
def fzv (fz:Fz) (o:AOper) (comp:Nat->St):Fz:=if o.mode=1 then with' (cat comp (sucs o.anc)) (with' (comp 0) fz)else if o.mode=2\/o.mode=4 then fz elseλ_=>none
def muv (o:AOper) (i:Nat) (comp:Nat->St):St:=cat comp (takes o i)
def Qkw (g:Option (Nat×Nat×Bool)) (tm:TM) (b:Bool):Prop:=
 match g with
 |none=>b=true
 |some (q,r,want)=>(∃x,get tm q r=.one (.bool x)/\b=(x==want))\/(get tm q r=.tp []/\b=false)
section
variable {R:Type} {T:R->Prop} {z:R} {P:Program} {val:Nat->Int} {fz:Fz} {orc:Orc R} {call:CallT R}
theorem Qsd (hz:¬T z) {g:Option (Nat×Nat×Bool)} {tm:TM} {yes no:R} (h:T (Ql9 z g tm yes no)):(T yes/\Qkw g tm true)\/(T no/\Qkw g tm false):=by
 cases g with
 |none=>exact .inl ⟨h,rfl⟩
 |some p=>
  obtain⟨q,r,want⟩:=p;have h':T (AV.rec (motive:=λ_=>R) (λs=>s.Qfv z λb=>cond (b==want) yes no) (λ_=>z) (λl=>List.rec (motive:=λ_=>R) no (λ_ _ _=>z) l) (get tm q r)):=h;cases e:get tm q r with
  |one s=>
   rw[e]at h';obtain⟨b,e2,h2⟩:=Qf3 hz h';subst e2;cases hb:(b==want)with
   |true=>rw[hb]at h2;exact .inl ⟨h2,.inl ⟨b,e,hb.symm⟩⟩
   |false=>rw[hb]at h2;exact .inr ⟨h2,.inl ⟨b,e,hb.symm⟩⟩
  |ag l=>rw[e]at h';exact(hz h').elim
  |tp l=>
   rw[e]at h';cases l with
   |cons _ _=>exact(hz h').elim
   |nil=>exact .inr ⟨h',.inr ⟨e,rfl⟩⟩
theorem get_inR {tm:TM} {q r:Nat} (hne:get tm q r≠.one .un):inR tm q r:=by
 unfold get at hne;simp only[Qgr]at hne;cases e:tm[q]? with
 |none=>rw[e]at hne;simp at hne
 |some row=>
  rw[e]at hne;simp only[Option.getD_some]at hne;refine⟨row,e,?_⟩;rcases Nat.lt_or_ge r row.length with h|h
  ·exact h
  ·rw[List.getElem?_eq_none h]at hne;exact(hne rfl).elim
theorem TmR.some {tm:TM} {ρ:Rho} {w:World} {a:Act} (hr:TmR val ρ w tm a) {t:Nat} (hne:get tm (t/16) (t%16)≠.one .un):a.tmps[t]?=some (a.tmps.getD t undef):=by
 have hlt:=hr.rng t (get_inR hne);simp[Array.getD_eq_getD_getElem?,Array.getElem?_eq_getElem hlt]
theorem Qog {ops:Array Oper} {o:Oper} {g':Option (Nat×Nat×Bool)} {tm:TM} {b:Bool} {ρ:Rho} {w:World} {a:Act} (hg:guardOf ops o.guard=some g') (h:Qkw g' tm b) (hr:TmR val ρ w tm a):Region.wanted o (yielded ops a.tmps)=b:=by
 cases hgd:o.guard with
 |none=>
  rw[hgd]at hg;simp[guardOf]at hg;subst hg;have:b=true:=h;simp[Region.wanted,hgd,this]
 |some p=>
  obtain⟨j,want⟩:=p;rw[hgd]at hg;simp only[guardOf]at hg;split at hg
  ·rename_i t ht;cases hg;have hv:=hr.vals t;rcases h with⟨x,h1,h2⟩|⟨h1,h2⟩
   ·have hs:=hr.some (t:=t) (by rw[h1];intro h;cases h);rw[h1]at hv;have hv':a.tmps.getD t undef=.bool x:=hv;rw[hv']at hs;have hy:yielded ops a.tmps j=some x:=by unfold yielded;rw[ht];simp[hs]
    simp only[Region.wanted,hgd,hy,h2];cases x<;>cases want<;>rfl
   ·have hs:=hr.some (t:=t) (by rw[h1];intro h;cases h);rw[h1]at hv;obtain⟨vs,hx1,hx2⟩:=hv;have hvs:vs=[]:=by cases vs with|nil=>rfl|cons _ _=>exact hx2.elim
    subst hvs;rw[hx1]at hs;have hy:yielded ops a.tmps j=none:=by unfold yielded;rw[ht];simp[hs]
    simp[Region.wanted,hgd,hy,h2]
  ·cases hg
def SemOp (P:Program) (val:Nat->Int) (fz:Fz) (o:Oper) (ao:AOper) (i:Nat) (r:Rec) (tm:TM) (comp:Nat->St) (n:Nat):Prop:=
 n<=r.n1/\Qkw ao.g tm r.w/\(r.w=true->Sound P val (fzv fz ao comp) tm (muv ao i comp) n o r.v r.out r.n1)/\(r.w=false->r.v=noVal)
def Chain (P:Program) (val:Nat->Int) (fz:Fz):Nat->List Oper->List AOper->List Rec->TM->(Nat->St)->Nat->TM->(Nat->St)->Nat->Prop
 |_,[],[],[],tm,comp,n,tm',comp',n'=>tm'=tm/\comp'=comp/\n'=n
 |i,o::l,ao::al,r::rs,tm,comp,n,tm',comp',n'=>SemOp P val fz o ao i r tm comp n/\Chain P val fz (i+1) l al rs (setDT tm ao.dst r.v) (updC ao i r comp) r.n1 tm' comp' n'
 |_,_,_,_,_,_,_,_,_,_=>False
def Qe0 (mu:St) (ad:List St):Nat->St
 |0=>mu
 |j+1=>(ad[j]?).getD []
theorem Qo5 (mu:St) (ad:List St) (l:List Nat):adsOf ad l=cat (Qe0 mu ad) (sucs l):=by
 induction l with
 |nil=>rfl
 |cons i r ih=>
  show nth [] ad i++adsOf ad r=_;rw[ih,Qgr];rfl
theorem Qt9 (comp:Nat->St) (l m:List Nat):cat comp (l++m)=cat comp l++cat comp m:=by
 induction l with
 |nil=>rfl
 |cons c r ih=>simp[cat,ih]
def Qid (l:List Nat) (ad:List St):List St:=match l with|[]=>ad|i::r=>Qid r (ad.set i [])
theorem Qkn (l:List Nat) (ad:List St) (k:List St->R):Qly l ad k=k (Qid l ad):=by
 induction l generalizing ad with
 |nil=>rfl
 |cons i r ih=>
  show setK ad i [] (λad=>Qly r ad k)=_;rw[Qh5,ih];rfl
theorem Qn2 (l:List Nat) (ad:List St) (j:Nat):((Qid l ad)[j]?).getD []=if j∈l then[]else(ad[j]?).getD []:=by
 induction l generalizing ad with
 |nil=>simp[Qid]
 |cons i r ih=>
  simp only[Qid,ih,List.mem_cons];by_cases h1:j∈r
  ·simp[h1]
  ·by_cases h2:i=j
   ·subst h2;simp[h1,List.getElem?_set];split<;>simp
   ·have h3:¬j=i:=λe=>h2 e.symm;simp[h1,h3,List.getElem?_set_ne h2]
theorem Qi1 (l:List Nat) (ad:List St):(Qid l ad).length=ad.length:=by
 induction l generalizing ad with
 |nil=>rfl
 |cons i r ih=>simp[Qid,ih]
theorem Ql1 {l:List Nat} {j:Nat}:j+1∈sucs l↔j∈l:=by simp[sucs]
theorem Qmi {l:List Nat}:0∉sucs l:=by simp[sucs]
theorem Qtz (hz:¬T z) (hc:Qf6 T P val call) (hk:OrcOk T val orc) {o:Oper} {ao:AOper} {i:Nat} {tm:TM} {mu:St} {ad:List St} {n:Nat} {k:TM->St->List St->Nat->R} (hp:Qgk P o.op=some ao.op) (hi:i<ad.length) (hm:ao.mode<=4) (hanc:i∉ao.anc)
 (h:T (rstep orc z call fz i ao tm mu ad n k)):∃r mu' ad',T (k (setDT tm ao.dst r.v) mu' ad' r.n1)/\ad'.length=ad.length/\SemOp P val fz o ao i r tm (Qe0 mu ad) n/\Qe0 mu' ad'=updC ao i r (Qe0 mu ad):=by
 rcases Qsd hz h with⟨h1,hg⟩|⟨h1,hg⟩
 ·have setI:∀(ad0:List St) (new:St) (c:Nat),i<ad0.length->Qe0 mu (ad0.set i new) c=if c=i+1 then new else Qe0 mu ad0 c:=by
   intro ad0 new c hi0;cases c with
   |zero=>simp[Qe0]
   |succ j=>
    simp only[Qe0,Nat.add_right_cancel_iff];by_cases e:j=i
    ·subst e;simp[hi0]
    ·have e':¬i=j:=λx=>e x.symm;simp[e,List.getElem?_set_ne e']
  have hmode:ao.mode=0\/ao.mode=1\/ao.mode=2\/ao.mode=3\/ao.mode=4:=by omega
  rcases hmode with hm0|hm1|hm2|hm3|hm4
  ·simp only[hm0]at h1;obtain⟨v,mu',n',h2,h3⟩:=Qiq (P:=P) (val:=val) hz hc hk hp (show T (aop orc z call (λ_=>none) tm [] n false ao.op λv new n=>List.rec (motive:=λ_=>R) (Qe8 tm ao.dst v λtm=>k tm mu ad n) (λ_ _ _=>z) new)from h1);cases mu' with
   |cons _ _=>exact(hz h2).elim
   |nil=>
    have h4:T (Qe8 tm ao.dst v λtm=>k tm mu ad n'):=h2;rw[Qho]at h4;refine⟨⟨true,v,[],n'⟩,mu,ad,h4,rfl,⟨h3.1,hg,λ_=>?_,λe=>by cases e⟩,?_⟩
    ·have e1:fzv fz ao (Qe0 mu ad)=λ_=>none:=by simp[fzv,hm0]
     have e2:muv ao i (Qe0 mu ad)=[]:=by simp[muv,takes,hm0,cat]
     rw[e1,e2];exact h3
    ·simp[updC,hm0]
  ·simp only[hm1]at h1;obtain⟨v,new,n',h2,h3⟩:=Qiq (P:=P) (val:=val) hz hc hk hp (show T (aop orc z call (with' (adsOf ad ao.anc) (with' mu fz)) tm [] n true ao.op λv new n=>Qe8 tm ao.dst v λtm=>setK ad i new λad=>k tm mu ad n)from h1);rw[Qho,Qh5]at h2;refine⟨⟨true,v,new,n'⟩,mu,ad.set i new,h2,by simp,⟨h3.1,hg,λ_=>?_,λe=>by cases e⟩,?_⟩
   ·have e1:fzv fz ao (Qe0 mu ad)=with' (adsOf ad ao.anc) (with' mu fz):=by simp[fzv,hm1,Qo5 mu,Qe0]
    have e2:muv ao i (Qe0 mu ad)=[]:=by simp[muv,takes,hm1,cat]
    rw[e1,e2];exact h3
   ·funext c;rw[setI ad new c hi];simp[updC,hm1,Qfy,target,takes]
  ·simp only[hm2]at h1;have h1':T (joinK (adsOf ad ao.anc) mu λmu=>Qly ao.anc ad λad=>aop orc z call fz tm mu n false ao.op λv mu n=>Qe8 tm ao.dst v λtm=>k tm mu ad n):=h1;rw[Qig,Qkn]at h1';obtain⟨v,mu',n',h2,h3⟩:=Qiq (P:=P) (val:=val) hz hc hk hp h1';rw[Qho]at h2;refine⟨⟨true,v,mu',n'⟩,mu',Qid ao.anc ad,h2,Qi1 _ _,⟨h3.1,hg,λ_=>?_,λe=>by cases e⟩,?_⟩
   ·have e1:fzv fz ao (Qe0 mu ad)=fz:=by simp[fzv,hm2]
    have e2:muv ao i (Qe0 mu ad)=adsOf ad ao.anc++mu:=by simp[muv,takes,hm2,Qt9,Qo5 mu,cat,Qe0]
    rw[e1,e2];exact h3
   ·funext c;cases c with
    |zero=>simp[Qe0,updC,hm2,Qfy,target]
    |succ j=>
     simp only[Qe0,Qn2,updC,hm2,target,takes];simp[Qfy,Ql1,Qe0]
  ·simp only[hm3]at h1;obtain⟨v,new,n',h2,h3⟩:=Qiq (P:=P) (val:=val) hz hc hk hp (show T (aop orc z call (λ_=>none) tm [] n false ao.op λv new n=>Qe8 tm ao.dst v λtm=>setK ad i new λad=>k tm mu ad n)from h1);rw[Qho,Qh5]at h2;refine⟨⟨true,v,new,n'⟩,mu,ad.set i new,h2,by simp,⟨h3.1,hg,λ_=>?_,λe=>by cases e⟩,?_⟩
   ·have e1:fzv fz ao (Qe0 mu ad)=λ_=>none:=by simp[fzv,hm3]
    have e2:muv ao i (Qe0 mu ad)=[]:=by simp[muv,takes,hm3,cat]
    rw[e1,e2];exact h3
   ·funext c;rw[setI ad new c hi];simp[updC,hm3,Qfy,target,takes]
  ·simp only[hm4]at h1;have h1':T (joinK (nth [] ad i) (adsOf ad ao.anc) λown=>aop orc z call fz tm own n false ao.op λv new n=>Qe8 tm ao.dst v λtm=>Qly ao.anc ad λad=>setK ad i new λad=>k tm mu ad n):=h1;rw[Qig]at h1';obtain⟨v,new,n',h2,h3⟩:=Qiq (P:=P) (val:=val) hz hc hk hp h1';rw[Qho,Qkn,Qh5]at h2;refine⟨⟨true,v,new,n'⟩,mu,(Qid ao.anc ad).set i new,h2,by simp[Qi1],⟨h3.1,hg,λ_=>?_,λe=>by cases e⟩,?_⟩
   ·have e1:fzv fz ao (Qe0 mu ad)=fz:=by simp[fzv,hm4]
    have e2:muv ao i (Qe0 mu ad)=nth [] ad i++adsOf ad ao.anc:=by simp[muv,takes,hm4,Qo5 mu,cat,Qe0,Qgr]
    rw[e1,e2];exact h3
   ·funext c;rw[setI _ new c (by rw[Qi1];exact hi)];cases c with
    |zero=>simp[Qe0,updC,hm4,Qfy,target,takes,Qmi]
    |succ j=>
     simp only[Qe0,Qn2,updC,hm4,target,takes];by_cases e:j=i
     ·subst e;simp[Qfy]
     ·simp[Qfy,e,Ql1,Qe0]
 ·rw[Qho]at h1;exact⟨⟨false,noVal,[],n⟩,mu,ad,h1,rfl,⟨Nat.le_refl _,hg,λe=>(by cases e),λ_=>rfl⟩,by simp[updC]⟩
theorem Qq7 (hz:¬T z) (hc:Qf6 T P val call) (hk:OrcOk T val orc) {ops:Array Oper}:∀{l:List Oper} {al:List AOper} {i:Nat} {tm:TM} {mu:St} {ad:List St} {n:Nat} {k:TM->St->List St->Nat->R},All2 (OpR P ops) l al->i+al.length<=ad.length->
 (∀(j:Nat) ao,al[j]?=some ao->ao.mode<=4/\(i+j)∉ao.anc)->T (rrun orc z call fz al i tm mu ad n k)->
 ∃rs tm' mu' ad' n',T (k tm' mu' ad' n')/\ad'.length=ad.length/\Chain P val fz i l al rs tm (Qe0 mu ad) n tm' (Qe0 mu' ad') n'
 |[],[],i,tm,mu,ad,n,k,_,_,_,h=>⟨[],tm,mu,ad,n,h,rfl,rfl,rfl,rfl⟩
 |[],_::_,_,_,_,_,_,_,hl,_,_,_=>hl.elim
 |_::_,[],_,_,_,_,_,_,hl,_,_,_=>hl.elim
 |o::l,ao::al,i,tm,mu,ad,n,k,hl,hi,hm,h=>by
  obtain⟨h0,h0'⟩:=hm 0 ao (by simp);obtain⟨r,mu1,ad1,h1,h2,h3,h4⟩:=Qtz (P:=P) (val:=val) (fz:=fz) hz hc hk hl.1.2.1 (by simp at hi;omega) h0 (by simpa using h0') (show T (rstep orc z call fz i ao tm mu ad n λtm mu ad n=>rrun orc z call fz al (Nat.succ i) tm mu ad n k)from h);obtain⟨rs,tm',mu',ad',n',h5,h6,h7⟩:=Qq7 hz hc hk (i:=i+1) hl.2 (by rw[h2];simp at hi;omega) (λj ao' hj=>by
   have:=hm (j+1) ao' (by simpa using hj);rw[show i+(j+1)=i+1+j by omega]at this;exact this) h1
  refine⟨r::rs,tm',mu',ad',n',h5,h6.trans h2,h3,?_⟩;rw[h4]at h7;exact h7
end
end Go.Ev
namespace Go.Ev
theorem Qpk {tm:TM} {q r:Nat} {v:AV} {q' r':Nat}:inR (setT tm q r v) q' r'↔inR tm q' r':=by
 refine⟨Qso,λ⟨row,h1,h2⟩=>?_⟩;unfold setT;by_cases hq:q=q'
 ·subst hq;have hlt:=(List.getElem?_eq_some_iff.1 h1).1;refine⟨(nth [] tm q).set r v,List.getElem?_set_self hlt,?_⟩;rw[Qgr,h1];simpa using h2
 ·exact⟨row,by rw[List.getElem?_set_ne hq];exact h1,h2⟩
theorem Qmd {tm:TM} {dst:Option (Nat×Nat)} {v:AV} {q r:Nat}:inR (setDT tm dst v) q r↔inR tm q r:=by
 cases dst with
 |none=>exact Iff.rfl
 |some p=>exact Qpk
def TMeq (tm tm':TM):Prop:=(∀q r,get tm q r=get tm' q r)/\∀q r,inR tm q r↔inR tm' q r
theorem TmR.congr {val:Nat->Int} {ρ:Rho} {w:World} {tm tm':TM} {a:Act} (h:TmR val ρ w tm a) (e:TMeq tm tm'):TmR val ρ w tm' a:=
 ⟨λt ht=>h.rng t ((e.2 _ _).2 ht),λt=>by rw[<-e.1];exact h.vals t⟩
def Qf0 (M:Nat->Bool):Nat->List AOper->List Rec->TM->TM
 |i,ao::al,r::rs,tm=>Qf0 M (i+1) al rs (if M i then setDT tm ao.dst r.v else tm)
 |_,_,_,tm=>tm
def foldC (M:Nat->Bool):Nat->List AOper->List Rec->(Nat->St)->Nat->St
 |i,ao::al,r::rs,comp=>foldC M (i+1) al rs (if M i then updC ao i r comp else comp)
 |_,_,_,comp=>comp
def affC (ao:AOper) (i:Nat) (r:Rec) (c:Nat):Prop:=r.w=true/\ao.mode≠0/\(c=target ao i\/c∈takes ao i)
theorem Qov {ao:AOper} {i:Nat} {r:Rec} {comp:Nat->St} {c:Nat} (h:¬affC ao i r c):updC ao i r comp c=comp c:=by
 unfold updC;split
 ·rename_i hw;have h1:c≠target ao i:=λe=>h ⟨hw.1,hw.2,.inl e⟩;have h2:c∉takes ao i:=λe=>h ⟨hw.1,hw.2,.inr e⟩;simp[Qfy,h1,h2]
 ·rfl
theorem Qsm {ao:AOper} {i:Nat} {r:Rec} {comp comp':Nat->St} {c:Nat} (h:affC ao i r c):updC ao i r comp c=updC ao i r comp' c:=by
 obtain⟨h1,h2,h3⟩:=h;unfold updC;simp only[h1,h2,ne_eq,not_false_iff,and_self,if_true,Qfy];split
 ·rfl
 ·rename_i hne;have:c∈takes ao i:=h3.resolve_left hne;simp[this]
theorem Qix {M M':Nat->Bool} {c:Nat}:∀{al:List AOper} {rs:List Rec} {i:Nat} {comp comp':Nat->St},comp c=comp' c->
 (∀(j:Nat) ao r,al[j]?=some ao->rs[j]?=some r->affC ao (i+j) r c->M (i+j)=M' (i+j))->foldC M i al rs comp c=foldC M' i al rs comp' c
 |[],_,_,_,_,h,_=>h
 |_::_,[],_,_,_,h,_=>h
 |ao::al,r::rs,i,comp,comp',h,hM=>by
  simp only[foldC];refine Qix ?_ λj ao' r' h1 h2 h3=>?_
  ·by_cases ha:affC ao i r c
   ·have:=hM 0 ao r (by simp) (by simp) (by simpa using ha);simp only[Nat.add_zero]at this;rw[this];split
    ·exact Qsm ha
    ·exact h
   ·split<;>split<;>simp[Qov ha,h]
  ·have:=hM (j+1) ao' r' (by simpa using h1) (by simpa using h2) (by rw[show i+(j+1)=i+1+j by omega];exact h3);rwa [show i+(j+1)=i+1+j by omega]at this
def also (M:Nat->Bool) (t:Nat):Nat->Bool:=λx=>if x=t then true else M x
theorem Qjt {M:Nat->Bool} {c:Nat}:∀{al:List AOper} {rs:List Rec} {i:Nat} {comp:Nat->St},
 (∀(j:Nat) ao r,al[j]?=some ao->rs[j]?=some r->affC ao (i+j) r c->M (i+j)=false)->foldC M i al rs comp c=comp c
 |[],_,_,_,_=>rfl
 |_::_,[],_,_,_=>rfl
 |ao::al,r::rs,i,comp,hM=>by
  simp only[foldC];rw[Qjt λj ao' r' h1 h2 h3=>by
   have:=hM (j+1) ao' r' (by simpa using h1) (by simpa using h2) (by rw[show i+(j+1)=i+1+j by omega];exact h3);rwa [show i+(j+1)=i+1+j by omega]at this]
  split
  ·rename_i hMi;refine Qov λha=>?_;have:=hM 0 ao r (by simp) (by simp) (by simpa using ha);simp only[Nat.add_zero]at this;rw[this]at hMi;cases hMi
  ·rfl
theorem Qpv {M:Nat->Bool} {c:Nat}:∀{al:List AOper} {rs:List Rec} {i j0:Nat} {comp:Nat->St} {ao0:AOper} {r0:Rec},al[j0]?=some ao0->rs[j0]?=some r0->M (i+j0)=false->
 (affC ao0 (i+j0) r0 c->∀(j:Nat) ao r,al[j]?=some ao->rs[j]?=some r->j0<j->affC ao (i+j) r c->M (i+j)=false)->
 foldC (also M (i+j0)) i al rs comp c=updC ao0 (i+j0) r0 (foldC M i al rs comp) c
 |[],_,_,_,_,_,_,h,_,_,_=>by simp at h
 |_::_,[],_,_,_,_,_,_,h,_,_=>by simp at h
 |ao::al,r::rs,i,j0,comp,ao0,r0,ha,hr,hM,hH=>by
  by_cases haff:affC ao0 (i+j0) r0 c
  ·cases j0 with
   |zero=>
    simp at ha hr;subst ha;subst hr;simp only[Nat.add_zero]at hM hH haff⊢;simp only[foldC,also,if_true,hM,Bool.false_eq_true,if_false];rw[Qjt]
    ·exact Qsm haff
    ·intro j ao' r' h1 h2 h3;have hne:¬i+1+j=i:=by omega
     show(if i+1+j=i then true else M (i+1+j))=false;rw[if_neg hne];have:=hH haff (j+1) ao' r' (by simpa using h1) (by simpa using h2) (by omega) (by rw[show i+(j+1)=i+1+j by omega];exact h3);rwa [show i+(j+1)=i+1+j by omega]at this
   |succ j1=>
    have e:i+(j1+1)=i+1+j1:=by omega
    simp only[foldC];rw[e]at hM hH⊢;have hne:¬i=i+1+j1:=by omega
    have e2:also M (i+1+j1) i=M i:=by simp[also,hne]
    rw[e2];exact Qpv (by simpa using ha) (by simpa using hr) hM λhf j ao' r' h1 h2 h3 h4=>by
     have:=hH hf (j+1) ao' r' (by simpa using h1) (by simpa using h2) (by omega) (by rw[show i+(j+1)=i+1+j by omega];exact h4);rwa [show i+(j+1)=i+1+j by omega]at this
  ·rw[Qov haff];refine Qix rfl λj ao' r' h1 h2 h3=>?_;unfold also;by_cases e:i+j=i+j0
   ·exfalso
    have:j=j0:=by omega
    subst this;rw[ha]at h1;cases h1;rw[hr]at h2;cases h2;exact haff h3
   ·show(if i+j=i+j0 then true else M (i+j))=M (i+j);rw[if_neg e]
theorem Qnw {M:Nat->Bool} {c:Nat}:∀{al:List AOper} {rs:List Rec} {i:Nat} {comp:Nat->St},comp c=[]->
 (∀(j:Nat) ao r,al[j]?=some ao->rs[j]?=some r->affC ao (i+j) r c->c≠target ao (i+j))->foldC M i al rs comp c=[]
 |[],_,_,_,h,_=>h
 |_::_,[],_,_,h,_=>h
 |ao::al,r::rs,i,comp,h,hM=>by
  simp only[foldC];refine Qnw ?_ λj ao' r' h1 h2 h3=>by
   have:=hM (j+1) ao' r' (by simpa using h1) (by simpa using h2) (by rw[show i+(j+1)=i+1+j by omega];exact h3);rwa [show i+(j+1)=i+1+j by omega]at this
  split
  ·by_cases ha:affC ao i r c
   ·have hne:=hM 0 ao r (by simp) (by simp) (by simpa using ha);simp only[Nat.add_zero]at hne;obtain⟨h1,h2,h3⟩:=ha;have h4:c∈takes ao i:=h3.resolve_left hne;unfold updC;simp[h1,h2,Qfy,hne,h4]
   ·rw[Qov ha];exact h
  ·exact h
theorem Qi7 {tm:TM} {dst:Option (Nat×Nat)} {v:AV} {q r:Nat} (h:dst≠some (q,r)):get (setDT tm dst v) q r=get tm q r:=by
 cases dst with
 |none=>rfl
 |some p=>exact Qik λe=>h (by rw[show p=(p.1,p.2)from rfl,e.1,e.2])
theorem Qkz {tm tm':TM} {v:AV} {q r:Nat} (h:inR tm q r↔inR tm' q r):get (setDT tm (some (q,r)) v) q r=get (setDT tm' (some (q,r)) v) q r:=by
 show get (setT tm q r v) q r=get (setT tm' q r v) q r;rcases Qg7 (tm:=tm) (q:=q) (r:=r) (v:=v)with⟨h1,h2⟩|⟨h1,h2⟩
 ·rcases Qg7 (tm:=tm') (q:=q) (r:=r) (v:=v)with⟨h3,h4⟩|⟨h3,h4⟩
  ·rw[h2,h4]
  ·exact(h3 (h.1 h1)).elim
 ·rcases Qg7 (tm:=tm') (q:=q) (r:=r) (v:=v)with⟨h3,h4⟩|⟨h3,h4⟩
  ·exact(h1 (h.2 h3)).elim
  ·rw[h2,h4]
theorem Qhj {M:Nat->Bool} {q r:Nat}:∀{al:List AOper} {rs:List Rec} {i:Nat} {tm:TM},inR (Qf0 M i al rs tm) q r↔inR tm q r
 |[],_,_,_=>Iff.rfl
 |_::_,[],_,_=>Iff.rfl
 |ao::al,r'::rs,i,tm=>by
  simp only[Qf0];rw[Qhj];split
  ·exact Qmd
  ·exact Iff.rfl
theorem Qic {M M':Nat->Bool} {q r:Nat}:∀{al:List AOper} {rs:List Rec} {i:Nat} {tm tm':TM},get tm q r=get tm' q r->(inR tm q r↔inR tm' q r)->
 (∀(j:Nat) ao,al[j]?=some ao->ao.dst=some (q,r)->M (i+j)=M' (i+j))->get (Qf0 M i al rs tm) q r=get (Qf0 M' i al rs tm') q r
 |[],_,_,_,_,h,_,_=>h
 |_::_,[],_,_,_,h,_,_=>h
 |ao::al,r'::rs,i,tm,tm',h,hin,hM=>by
  simp only[Qf0];refine Qic ?_ ?_ λj ao' h1 h2=>?_
  ·by_cases hd:ao.dst=some (q,r)
   ·have:=hM 0 ao (by simp) hd;simp only[Nat.add_zero]at this;rw[this];split
    ·rw[hd];exact Qkz hin
    ·exact h
   ·split<;>split<;>simp[Qi7 hd,h]
  ·split<;>split<;>simp[Qmd,hin]
  ·have:=hM (j+1) ao' (by simpa using h1) h2;rwa [show i+(j+1)=i+1+j by omega]at this
theorem Qka {M:Nat->Bool} {q r:Nat}:∀{al:List AOper} {rs:List Rec} {i:Nat} {tm:TM},(∀(j:Nat) ao,al[j]?=some ao->ao.dst=some (q,r)->M (i+j)=false)->get (Qf0 M i al rs tm) q r=get tm q r
 |[],_,_,_,_=>rfl
 |_::_,[],_,_,_=>rfl
 |ao::al,r'::rs,i,tm,hM=>by
  simp only[Qf0];rw[Qka λj ao' h1 h2=>by
   have:=hM (j+1) ao' (by simpa using h1) h2;rwa [show i+(j+1)=i+1+j by omega]at this]
  split
  ·rename_i hMi;refine Qi7 λhd=>?_;have:=hM 0 ao (by simp) hd;simp only[Nat.add_zero]at this;rw[this]at hMi;cases hMi
  ·rfl
theorem Qn5 {M:Nat->Bool} {q r:Nat}:∀{al:List AOper} {rs:List Rec} {i j0:Nat} {tm:TM} {ao0:AOper} {r0:Rec},al[j0]?=some ao0->rs[j0]?=some r0->M (i+j0)=false->
 (ao0.dst=some (q,r)->∀(j:Nat) ao,al[j]?=some ao->j0<j->ao.dst=some (q,r)->M (i+j)=false)->
 get (Qf0 (also M (i+j0)) i al rs tm) q r=get (setDT (Qf0 M i al rs tm) ao0.dst r0.v) q r
 |[],_,_,_,_,_,_,h,_,_,_=>by simp at h
 |_::_,[],_,_,_,_,_,_,h,_,_=>by simp at h
 |ao::al,r'::rs,i,j0,tm,ao0,r0,ha,hr,hM,hH=>by
  by_cases haff:ao0.dst=some (q,r)
  ·cases j0 with
   |zero=>
    simp at ha hr;subst ha;subst hr;simp only[Nat.add_zero]at hM hH⊢;simp only[Qf0,also,if_true,hM,Bool.false_eq_true,if_false];rw[Qka]
    ·rw[haff];exact Qkz Qhj.symm
    ·intro j ao' h1 h2;have hne:¬i+1+j=i:=by omega
     show(if i+1+j=i then true else M (i+1+j))=false;rw[if_neg hne];have:=hH haff (j+1) ao' (by simpa using h1) (by omega) h2;rwa [show i+(j+1)=i+1+j by omega]at this
   |succ j1=>
    have e:i+(j1+1)=i+1+j1:=by omega
    simp only[Qf0];rw[e]at hM⊢;have hne:¬i=i+1+j1:=by omega
    have e2:also M (i+1+j1) i=M i:=by simp[also,hne]
    rw[e2];exact Qn5 (by simpa using ha) (by simpa using hr) hM λhf j ao' h1 h3 h4=>by
     have:=hH hf (j+1) ao' (by simpa using h1) (by omega) h4;rwa [show i+(j+1)=i+1+j by omega]at this
  ·rw[Qi7 haff];refine Qic rfl Iff.rfl λj ao' h1 h2=>?_;unfold also;by_cases e:i+j=i+j0
   ·exfalso
    have:j=j0:=by omega
    subst this;rw[ha]at h1;cases h1;exact haff h2
   ·show(if i+j=i+j0 then true else M (i+j))=M (i+j);rw[if_neg e]
def nAt (n:Nat) (rs:List Rec):Nat->Nat
 |0=>n
 |j+1=>((rs[j]?).map (·.n1)).getD n
section
variable {P:Program} {val:Nat->Int} {fz:Fz}
theorem Chain.lengths:∀{l:List Oper} {al:List AOper} {rs:List Rec} {i:Nat} {tm:TM} {comp:Nat->St} {n:Nat} {tm':TM} {comp':Nat->St} {n':Nat},Chain P val fz i l al rs tm comp n tm' comp' n'->l.length=al.length/\rs.length=al.length
 |[],[],[],_,_,_,_,_,_,_,_=>⟨rfl,rfl⟩
 |o::l,ao::al,r::rs,_,_,_,_,_,_,_,h=>by obtain⟨a,b⟩:=Chain.lengths h.2;simp[a,b]
 |[],[],_::_,_,_,_,_,_,_,_,h=>h.elim
 |[],_::_,[],_,_,_,_,_,_,_,h=>h.elim
 |[],_::_,_::_,_,_,_,_,_,_,_,h=>h.elim
 |_::_,[],[],_,_,_,_,_,_,_,h=>h.elim
 |_::_,[],_::_,_,_,_,_,_,_,_,h=>h.elim
 |_::_,_::_,[],_,_,_,_,_,_,_,h=>h.elim
theorem Chain.get:∀{l:List Oper} {al:List AOper} {rs:List Rec} {i:Nat} {tm:TM} {comp:Nat->St} {n:Nat} {tm':TM} {comp':Nat->St} {n':Nat},Chain P val fz i l al rs tm comp n tm' comp' n'->
 ∀(j:Nat) o ao r,l[j]?=some o->al[j]?=some ao->rs[j]?=some r->SemOp P val fz o ao (i+j) r (Qf0 (λx=>decide (x<i+j)) i al rs tm) (foldC (λx=>decide (x<i+j)) i al rs comp) (nAt n rs j)
 |[],_,_,_,_,_,_,_,_,_,_,j,o,ao,r,h1,_,_=>by simp at h1
 |_::_,[],_,_,_,_,_,_,_,_,h,_,_,_,_,_,h2,_=>by simp at h2
 |_::_,_::_,[],_,_,_,_,_,_,_,h,_,_,_,_,_,_,h3=>by simp at h3
 |o::l,ao::al,r::rs,i,tm,comp,n,tm',comp',n',h,j,o',ao',r',h1,h2,h3=>by
  cases j with
  |zero=>
   simp at h1 h2 h3;subst h1;subst h2;subst h3;have e1:Qf0 (λx=>decide (x<i+0)) i (ao::al) (r::rs) tm=tm:=by
    have:∀(al:List AOper) (rs:List Rec) (k:Nat) (tm:TM),i<=k->Qf0 (λx=>decide (x<i+0)) k al rs tm=tm:=by
     intro al;induction al with
     |nil=>intro rs k tm _;rfl
     |cons a al ih=>
      intro rs k tm hk;cases rs with
      |nil=>rfl
      |cons b rs=>simp only[Qf0,show¬k<i+0 by omega,decide_false,Bool.false_eq_true,if_false];exact ih rs (k+1) tm (by omega)
    exact this _ _ i tm (Nat.le_refl _)
   have e2:foldC (λx=>decide (x<i+0)) i (ao::al) (r::rs) comp=comp:=by
    funext c;exact Qjt λj ao r _ _ _=>by simp
   rw[e1,e2];exact h.1
  |succ j=>
   have:=Chain.get h.2 j o' ao' r' (by simpa using h1) (by simpa using h2) (by simpa using h3);simp only[Qf0,foldC,show i<i+(j+1) by omega,decide_true,if_true];rw[show i+1+j=i+(j+1) by omega]at this;have en:nAt r.n1 rs j=nAt n (r::rs) (j+1):=by
    cases j with
    |zero=>simp[nAt]
    |succ j=>
     simp only[nAt,List.getElem?_cons_succ];simp only[List.getElem?_cons_succ]at h3;have:j<rs.length:=by have:=(List.getElem?_eq_some_iff.1 h3).1;omega
     simp[List.getElem?_eq_getElem this]
   rw[<-en];exact this
theorem Chain.final:∀{l:List Oper} {al:List AOper} {rs:List Rec} {i:Nat} {tm:TM} {comp:Nat->St} {n:Nat} {tm':TM} {comp':Nat->St} {n':Nat},Chain P val fz i l al rs tm comp n tm' comp' n'->
 tm'=Qf0 (λ_=>true) i al rs tm/\comp'=foldC (λ_=>true) i al rs comp/\n'=nAt n rs rs.length/\(∀j,j<rs.length->nAt n rs j<=nAt n rs (j+1))
 |[],[],[],_,_,_,_,_,_,_,h=>⟨h.1,h.2.1,h.2.2,λj hj=>by simp at hj⟩
 |o::l,ao::al,r::rs,i,tm,comp,n,tm',comp',n',h=>by
  obtain⟨a,b,c,d⟩:=Chain.final h.2;have en:∀j,j<=rs.length->nAt r.n1 rs j=nAt n (r::rs) (j+1):=by
   intro j hj;cases j with
   |zero=>simp[nAt]
   |succ j=>simp[nAt,List.getElem?_eq_getElem (show j<rs.length by omega)]
  refine⟨by simpa[Qf0]using a,by simpa[foldC]using b,?_,λj hj=>?_⟩
  ·rw[c,en _ (Nat.le_refl _)];rfl
  ·cases j with
   |zero=>simpa[nAt]using h.1.1
   |succ j=>
    have:=d j (by simpa using hj);rw[en j (by simp at hj;omega),en (j+1) (by simp at hj;omega)]at this;exact this
 |[],[],_::_,_,_,_,_,_,_,_,h=>h.elim
 |[],_::_,[],_,_,_,_,_,_,_,h=>h.elim
 |[],_::_,_::_,_,_,_,_,_,_,_,h=>h.elim
 |_::_,[],[],_,_,_,_,_,_,_,h=>h.elim
 |_::_,[],_::_,_,_,_,_,_,_,_,h=>h.elim
 |_::_,_::_,[],_,_,_,_,_,_,_,h=>h.elim
end
end Go.Ev
namespace Go.Ev
structure ROK (ops:List Oper) (al:List AOper):Prop where
 back:∀(i:Nat) oc o,ops[i]?=some oc->al[i]?=some o->∀e∈oc.after.toList,Region.binds .any e=true->e.on<i
 anc:∀(i:Nat) oc o,ops[i]?=some oc->al[i]?=some o->∀j∈o.anc,∃e∈oc.after.toList,Region.binds .any e=true/\(e.on=j\/∃p,al[e.on]?=some p/\j∈p.anc)
 mode:∀(i:Nat) oc o,ops[i]?=some oc->al[i]?=some o->o.mode<=4
 pair:∀(i j:Nat) oc o p,ops[i]?=some oc->al[i]?=some o->al[j]?=some p->i≠j->
  (j<i/\j∈o.anc\/i<j/\i∈p.anc)\/((∀t,o.dst=some t->p.dst≠some t)/\(∀t,p.dst=some t->t∉Qn1 oc o.g)/\∀c∈aff al j p,c∉rds al i o/\c∉aff al i o)
theorem rok_of {ops:List Oper} {al:List AOper} (h:regOk ops al=true):ROK ops al:=by
 have key:∀(i:Nat) oc o,ops[i]?=some oc->al[i]?=some o->oneOk al i oc o=true/\∀(j:Nat) p,al[j]?=some p->Qu5 al i oc o j p=true:=by
  intro i oc o h1 h2;unfold regOk at h;rw[List.all_eq_true]at h;have hz:(ops.zip al)[i]?=some (oc,o):=by rw[List.getElem?_zip_eq_some];exact⟨h1,h2⟩
  have hm:((oc,o),i)∈(ops.zip al).zipIdx:=List.mem_zipIdx_iff_getElem?.2 hz;have:=h _ hm;simp only[Bool.and_eq_true]at this;refine⟨this.1,λj p hp=>?_⟩;have h3:=this.2;rw[List.all_eq_true]at h3;exact h3 (p,j) (List.mem_zipIdx_iff_getElem?.2 hp)
 refine⟨λi oc o h1 h2 e he hb=>?_,λi oc o h1 h2 j hj=>?_,λi oc o h1 h2=>?_,λi j oc o p h1 h2 h3 hne=>?_⟩
 ·have:=(key i oc o h1 h2).1;simp only[oneOk,Bool.and_eq_true,List.all_eq_true]at this;have h4:=this.1.1.2 e he;rw[hb]at h4;simpa[Nat.blt_eq]using h4
 ·have:=(key i oc o h1 h2).1;simp only[oneOk,Bool.and_eq_true,List.all_eq_true]at this;have h4:=this.1.2 j hj;rw[List.any_eq_true]at h4;obtain⟨e,he,h5⟩:=h4;simp only[Bool.and_eq_true,Bool.or_eq_true,beq_iff_eq]at h5;refine⟨e,he,h5.1,h5.2.imp id λh6=>?_⟩;split at h6
  ·rename_i p hp;exact⟨p,hp,by simpa using h6⟩
  ·cases h6
 ·have:=(key i oc o h1 h2).1;simp only[oneOk,Bool.and_eq_true,Nat.ble_eq]at this;exact this.1.1.1
 ·have:=(key i oc o h1 h2).2 j p h3;simp only[Qu5,Bool.or_eq_true,Bool.and_eq_true,beq_iff_eq,hne,false_or,ordered,Nat.blt_eq,List.contains_iff_mem]at this;rcases this with h4|⟨⟨h5,h6⟩,h7⟩
  ·exact .inl h4
  ·refine .inr ⟨λt ht hp=>?_,λt ht hm=>?_,λc hc=>?_⟩
   ·rw[ht,hp]at h5;simp at h5
   ·rw[ht]at h6;simp[hm]at h6
   ·simp only[Bool.not_eq_true',List.any_eq_false,Bool.or_eq_true,List.contains_iff_mem,not_or]at h7;exact h7 c hc
theorem ROK.lt {ops:List Oper} {al:List AOper} (h:ROK ops al) (hl:ops.length=al.length):∀(i:Nat) o,al[i]?=some o->∀j∈o.anc,j<i:=by
 intro i;induction i using Nat.strongRecOn with
 |ind i ih=>
  intro o ho j hj;have hi:=(List.getElem?_eq_some_iff.1 ho).1;obtain⟨oc,hoc⟩:∃oc,ops[i]?=some oc:=⟨ops[i],List.getElem?_eq_getElem (by omega)⟩
  obtain⟨e,he,hb,h1⟩:=h.anc i oc o hoc ho j hj;have h2:=h.back i oc o hoc ho e he hb;rcases h1 with rfl|⟨p,hp,h3⟩
  ·exact h2
  ·exact Nat.lt_trans (ih e.on h2 p hp j h3) h2
def live (al:List AOper) (c:Nat):Prop:=c=0\/∃(k:Nat) (p:AOper),c=k+1/\al[k]?=some p/\p.mode≠0/\p.mode≠2
theorem Qnm {al:List AOper} {o:AOper} {k:Nat} {p:AOper} (hk:k∈o.anc) (hp:al[k]?=some p) (h0:p.mode≠0) (h2:p.mode≠2):k∈Qnz al o:=by
 unfold Qnz;rw[List.mem_filter];exact⟨hk,by simp[hp,h0,h2]⟩
theorem Qm8 {al:List AOper} {i:Nat} {o:AOper} (ho:al[i]?=some o) (h0:o.mode≠0):live al (target o i):=by
 unfold target;split
 ·exact .inl rfl
 ·rename_i h2;exact .inr ⟨i,o,rfl,ho,h0,h2⟩
theorem Qpq {al:List AOper} {i:Nat} {o:AOper} {c:Nat} (hm:o.mode<=4) (hl:live al c) (hc:c∈takes o i):c∈aff al i o:=by
 have hmode:o.mode=0\/o.mode=1\/o.mode=2\/o.mode=3\/o.mode=4:=by omega
 have anc:∀c,live al c->c∈sucs o.anc->c∈(Qnz al o).map (· +1):=by
  intro c hl hc;rcases hl with rfl|⟨k,p,rfl,h1,h2,h3⟩
  ·exact(Qmi hc).elim
  ·exact List.mem_map.2 ⟨k,Qnm (Ql1.1 hc) h1 h2 h3,rfl⟩
 rcases hmode with h|h|h|h|h<;>simp[takes,h]at hc
 ·rcases hc with hc|hc
  ·simp only[aff,h,List.mem_cons];exact .inr (anc c hl hc)
  ·simp[aff,h,hc]
 ·rcases hc with hc|hc
  ·simp[aff,h,hc]
  ·simp only[aff,h,List.mem_cons];exact .inr (anc c hl hc)
theorem Qoq {al:List AOper} {i:Nat} {o:AOper} {r:Rec} {c:Nat} (hm:o.mode<=4) (hl:live al c) (h:affC o i r c):c∈aff al i o:=by
 obtain⟨_,h0,h1|h1⟩:=h
 ·have hmode:o.mode=1\/o.mode=2\/o.mode=3\/o.mode=4:=by omega
  rcases hmode with h|h|h|h<;>simp[target,h]at h1<;>simp[aff,h,h1]
 ·exact Qpq hm hl h1
def reads (o:AOper) (i:Nat):List Nat:=if o.mode=1 then 0::sucs o.anc else takes o i
theorem Qxu {al:List AOper} {i:Nat} {o:AOper} {c:Nat} (hm:o.mode<=4) (hl:live al c) (hc:c∈reads o i):c∈rds al i o:=by
 unfold reads at hc;split at hc
 ·rename_i h;simp only[List.mem_cons]at hc;simp only[rds,h,List.mem_cons];refine hc.imp id λhc=>?_;rcases hl with rfl|⟨k,p,rfl,h1,h2,h3⟩
  ·exact(Qmi hc).elim
  ·exact List.mem_map.2 ⟨k,Qnm (Ql1.1 hc) h1 h2 h3,rfl⟩
 ·rename_i h;have:=Qpq hm hl hc;unfold rds;split
  ·rename_i h';exact(h h').elim
  ·exact this
theorem Qqo {comp comp':Nat->St} {l:List Nat} (h:∀c∈l,comp c=comp' c):cat comp l=cat comp' l:=by
 induction l with
 |nil=>rfl
 |cons c r ih=>simp only[cat];rw[h c (by simp),ih λc hc=>h c (by simp[hc])]
theorem Qvv {o:AOper} {i:Nat} {comp comp':Nat->St} (h:∀c∈reads o i,comp c=comp' c):muv o i comp=muv o i comp':=by
 unfold muv;by_cases h1:o.mode=1
 ·simp[takes,h1,cat]
 ·exact Qqo λc hc=>h c (by simp[reads,h1,hc])
theorem Qx0 {fz:Fz} {o:AOper} {i:Nat} {comp comp':Nat->St} (h:∀c∈reads o i,comp c=comp' c):fzv fz o comp=fzv fz o comp':=by
 unfold fzv;split
 ·rename_i h1;rw[h 0 (by simp[reads,h1]),Qqo (comp:=comp) (comp':=comp') λc hc=>h c (by simp[reads,h1,hc])]
 ·rfl
section
variable {P:Program} {val:Nat->Int} {fz:Fz}
theorem CInv.rel {ρ:Rho} {comp:Nat->St} {w:World} (h:CInv val ρ fz comp w) (o:AOper) (i:Nat):Rel val ρ (fzv fz o comp) (muv o i comp) w:=by
 unfold fzv muv;split
 ·rename_i h1;have:takes o i=[]:=by simp[takes,h1]
  rw[this];exact h.ro _ _
 ·split
  ·exact h.take _
  ·exact(h.take _).noFz
theorem Qkw.congr {g:Option (Nat×Nat×Bool)} {tm tm':TM} {b:Bool} (h:∀q r x,g=some (q,r,x)->get tm q r=get tm' q r) (hg:Qkw g tm b):Qkw g tm' b:=by
 cases g with
 |none=>exact hg
 |some p=>
  obtain⟨q,r,want⟩:=p;have:=h q r want rfl;simp only[Qkw]at*
  rw[<-this];exact hg
theorem OperR.of {ρ:Rho} {w:World} {tm tm':TM} {a:Act} {oc:Oper} {g:Option (Nat×Nat×Bool)} (ht:TmR val ρ w tm a) (h:∀q r,(q,r)∈Qn1 oc g->get tm q r=get tm' q r):OperR P val ρ w tm' a oc.op:=by
 intro x y hx hy;have h0:=ht.oper (P:=P) oc.op x y hx hy;cases x with
 |tmp t=>
  simp[od]at hy;subst hy;have e:get tm (t/16) (t%16)=get tm' (t/16) (t%16):=h _ _ (by
   unfold Qn1;refine List.mem_append_left _ (List.mem_filterMap.2 ⟨.tmp t,by simpa using hx,rfl⟩))
  show AVR val ρ w (get tm' (t/16) (t%16)) _;rw[<-e];exact h0
 |const v=>
  obtain⟨v',hv',rfl⟩:=Option.map_eq_some_iff.1 hy;exact h0
 |global g=>cases hy
 |func f=>
  simp only[od]at hy;split at hy
  ·cases hy;exact h0
  ·cases hy
end
end Go.Ev
namespace Go.Ev
section
variable {P:Program} {val:Nat->Int} {fz:Fz}
structure Reg (P:Program) (val:Nat->Int) (fz:Fz) (ops:Array Oper) (al:List AOper) (rs:List Rec) (tm0:TM) (comp0:Nat->St) (n0:Nat) (tmE:TM) (compE:Nat->St) (nE:Nat):Prop where
 ok:ROK ops.toList al
 opr:All2 (OpR P ops) ops.toList al
 ch:Chain P val fz 0 ops.toList al rs tm0 comp0 n0 tmE compE nE
 dead:∀c,¬live al c->comp0 c=[]
structure Part (val:Nat->Int) (fz:Fz) (al:List AOper) (rs:List Rec) (tm0:TM) (comp0:Nat->St) (n0 nE:Nat) (ρ0:Rho) (mu0:St) (w0:World) (M:Nat->Bool) (ρ:Rho) (a:Act) (w:World):Prop where
 cl:∀(i:Nat) o,M i=true->al[i]?=some o->∀j∈o.anc,M j=true
 ext:Ext ρ0 ρ n0 nE
 inv:CInv val ρ fz (foldC M 0 al rs comp0) w
 tmr:TmR val ρ w (Qf0 M 0 al rs tm0) a
 fr:Fr ρ0 mu0 w0 w
 nb:∀c id p,(look (foldC M 0 al rs comp0 c) id).isSome->ρ id=some p->w0.heap.size<=p.1\/∃id0 p0,(look mu0 id0).isSome/\ρ0 id0=some p0/\p0.1=p.1
 ni:∀c id,(look (foldC M 0 al rs comp0 c) id).isSome->(look mu0 id).isSome\/n0<=id/\id<nE
 fresh:∀j,j<rs.length->M j=false->Qgi ρ (nAt n0 rs j) (nAt n0 rs (j+1))
variable {ops:Array Oper} {al:List AOper} {rs:List Rec} {tm0 tmE:TM} {comp0 compE:Nat->St} {n0 nE:Nat} {ρ0:Rho} {mu0:St} {w0:World}
theorem Qtl {n:Nat} {rs:List Rec} (h:∀j,j<rs.length->nAt n rs j<=nAt n rs (j+1)):∀i j,i<=j->j<=rs.length->nAt n rs i<=nAt n rs j:=by
 intro i j hij hj;induction j with
 |zero=>have:i=0:=by omega
        subst this;exact Nat.le_refl _
 |succ j ih=>
  by_cases e:i=j+1
  ·subst e;exact Nat.le_refl _
  ·exact Nat.le_trans (ih (by omega) (by omega)) (h j (by omega))
theorem Part.step (R:Reg P val fz ops al rs tm0 comp0 n0 tmE compE nE) {M:Nat->Bool} {ρ:Rho} {a:Act} {w:World} (S:Part val fz al rs tm0 comp0 n0 nE ρ0 mu0 w0 M ρ a w)
 {i:Nat} {oc:Oper} (hi:ops[i]?=some oc) (hMi:M i=false) (hready:∀e∈oc.after.toList,Region.binds .any e=true->M e.on=true) {K:Act->World->Prop} {Q:Exit->Act->World->Prop}
 (hK:∀a' w',a'.defers=a.defers->(∃ρ',Part val fz al rs tm0 comp0 n0 nE ρ0 mu0 w0 (also M i) ρ' a' w')->K a' w'):wpOp P ops Q i K a w:=by
 have hlen:=Chain.lengths R.ch;have hi':ops.toList[i]?=some oc:=by simpa using hi
 obtain⟨o,ho,hor⟩:=R.opr.get hi';have hil:=(List.getElem?_eq_some_iff.1 ho).1;obtain⟨r,hr⟩:∃r,rs[i]?=some r:=⟨rs[i],List.getElem?_eq_getElem (by omega)⟩
 have hmode:∀(j:Nat) p,al[j]?=some p->p.mode<=4:=λj p hp=>by
  have:=(List.getElem?_eq_some_iff.1 hp).1;exact R.ok.mode j _ p (List.getElem?_eq_getElem (by omega)) hp
 obtain⟨_,_,hnE,hnm⟩:=Chain.final R.ch;have hmono:=Qtl hnm
 -- all that it waits for is done
 have hanc:∀j∈o.anc,M j=true:=λj hj=>by
  obtain⟨e,he,hb,h1⟩:=R.ok.anc i oc o hi' ho j hj;have h2:=hready e he hb;rcases h1 with rfl|⟨p,hp,h3⟩
  ·exact h2
  ·exact S.cl e.on p h2 hp j h3
 have hdec:∀(j:Nat) p,al[j]?=some p->(j<i/\j∈o.anc\/i<j/\i∈p.anc)->M j=decide (j<i):=λj p hp hj=>by
  rcases hj with⟨h1,h2⟩|⟨h1,h2⟩
  ·rw[hanc j h2];simp[h1]
  ·have:M j=false:=by
    cases e:M j with
    |false=>rfl
    |true=>have:=S.cl j p e hp i h2;rw[hMi]at this;cases this
   rw[this];simp;omega
 -- the temporaries that it looks at
 have htm:∀q r',(q,r')∈Qn1 oc o.g->get (Qf0 M 0 al rs tm0) q r'=get (Qf0 (λx=>decide (x<0+i)) 0 al rs tm0) q r':=λq r' hl=>by
  refine Qic rfl Iff.rfl λj p hp hd=>?_;simp only[Nat.zero_add];by_cases e:i=j
  ·subst e;rw[hMi];simp
  ·rcases R.ok.pair i j oc o p hi' ho hp e with h1|⟨_,h2,_⟩
   ·exact hdec j p hp h1
   ·exact(h2 _ hd hl).elim
 have hdead:∀(M:Nat->Bool) c,¬live al c->foldC M 0 al rs comp0 c=[]:=λM c hc=>by
  refine Qnw (R.dead c hc) λj p r' hp _ ha e=>?_;simp only[Nat.zero_add]at ha e;rw[e]at hc;exact hc (Qm8 hp ha.2.1)
 have hmem:∀c∈reads o i,foldC M 0 al rs comp0 c=foldC (λx=>decide (x<0+i)) 0 al rs comp0 c:=λc hc=>by
  by_cases hlv:live al c
  ·refine Qix rfl λj p r' hp _ ha=>?_;simp only[Nat.zero_add]at ha⊢;by_cases e:i=j
   ·subst e;rw[hMi];simp
   ·rcases R.ok.pair i j oc o p hi' ho hp e with h1|⟨_,_,h3⟩
    ·exact hdec j p hp h1
    ·exact((h3 c (Qoq (hmode j p hp) hlv ha)).1 (Qxu (hmode i o ho) hlv hc)).elim
  ·rw[hdead _ c hlv,hdead _ c hlv]
 -- the parts behind it
 have hnew:foldC (also M i) 0 al rs comp0=updC o i r (foldC M 0 al rs comp0):=by
  funext c;by_cases hlv:live al c
  ·have:=Qpv (M:=M) (c:=c) (al:=al) (rs:=rs) (i:=0) (j0:=i) (comp:=comp0) ho hr (by simpa using hMi) λha j p r' hp hr' hj ha'=>by
    simp only[Nat.zero_add]at ha ha'⊢;rcases R.ok.pair i j oc o p hi' ho hp (by omega)with h1|⟨_,_,h3⟩
    ·rw[hdec j p hp h1];simp;omega
    ·exact((h3 c (Qoq (hmode j p hp) hlv ha')).2 (Qoq (hmode i o ho) hlv ha)).elim
   simpa using this
  ·rw[hdead _ c hlv];unfold updC;split
   ·rename_i hw;have:c≠target o i:=λe=>hlv (e▸Qm8 ho hw.2);simp only[Qfy,this,if_false];split
    ·rfl
    ·exact(hdead M c hlv).symm
   ·exact(hdead M c hlv).symm
 have htnew:TMeq (setDT (Qf0 M 0 al rs tm0) o.dst r.v) (Qf0 (also M i) 0 al rs tm0):=by
  refine⟨λq r'=>?_,λq r'=>?_⟩
  ·have:=Qn5 (M:=M) (q:=q) (r:=r') (al:=al) (rs:=rs) (i:=0) (j0:=i) (tm:=tm0) ho hr (by simpa using hMi) λhd j p hp hj hd'=>by
    simp only[Nat.zero_add];rcases R.ok.pair i j oc o p hi' ho hp (by omega)with h1|⟨h1,_,_⟩
    ·rw[hdec j p hp h1];simp;omega
    ·exact(h1 _ hd hd').elim
   simpa using this.symm
  ·rw[Qmd,Qhj,Qhj]
 have hcl:∀(k:Nat) p,also M i k=true->al[k]?=some p->∀j∈p.anc,also M i j=true:=by
  intro k p hk hp j hj;have up:∀j,M j=true->also M i j=true:=λj h=>by unfold also;split<;>simp[h]
  unfold also at hk;split at hk
  ·subst_vars;rw[ho]at hp;cases hp;exact up j (hanc j hj)
  ·exact up j (S.cl k p hk hp j hj)
 have hsem:=Chain.get R.ch i oc o r hi' ho hr;obtain⟨s1,s2,s3,s4⟩:=hsem;simp only[Nat.zero_add]at s2 s3 htm hmem;have hn1:r.n1=nAt n0 rs (i+1):=by simp[nAt,hr]
 have hg:Region.wanted oc (yielded ops a.tmps)=r.w:=by
  refine Qog hor.2.2 (Qkw.congr (λq r' x hx=>(htm q r' ?_).symm) s2) S.tmr;unfold Qn1;refine List.mem_append_right _ ?_;rw[hx];simp
 unfold wpOp;simp only[hi,hg];cases hw:r.w with
 |true=>
  simp only[if_true];left
  have hs:=s3 hw;rw[<-Qvv hmem,<-Qx0 hmem]at hs;refine hs.2 ρ w a (S.inv.rel o i) (OperR.of S.tmr htm) (by rw[hn1];exact S.fresh i (by omega) hMi) K Q λx w' hp=>?_;obtain⟨ρ',p1,p2,p3,p4,p5,p6⟩:=hp;refine hK _ _ (put_defers _ _ _) ⟨ρ',?_⟩;have hupd:foldC (also M i) 0 al rs comp0=if o.mode≠0 then Qfy (foldC M 0 al rs comp0) (takes o i) (target o i) r.out else foldC M 0 al rs comp0:=by
   rw[hnew];unfold updC;simp[hw]
  have hfr1:Qgi ρ (nAt n0 rs i) r.n1:=by rw[hn1];exact S.fresh i (by omega) hMi
  have hle1:n0<=nAt n0 rs i:=hmono 0 i (by omega) (by omega);have hle2:r.n1<=nE:=by rw[hn1,hnE];exact hmono (i+1) rs.length (by omega) (Nat.le_refl _)
  have oldRho:∀c id p,(look (foldC M 0 al rs comp0 c) id).isSome->ρ' id=some p->ρ id=some p:=λc id p hl hp=>by
   obtain⟨cs,hcs⟩:=Option.isSome_iff_exists.1 hl;obtain⟨q,o',h1,_⟩:=(S.inv.rm c id cs hcs).at
   have:=p1.old id q h1;rw[hp]at this;cases this;exact h1
  have hnbm:NewB ρ0 ρ mu0 (muv o i (foldC M 0 al rs comp0)) w0:=λid p hl hp=>by
   obtain⟨c,_,h2⟩:=Qis hl;exact S.nb c id p h2 hp
  refine⟨hcl,⟨λid p h=>p1.old id p (S.ext.old id p h),λid p h=>?_⟩,?_,?_,S.fr.trans hnbm p4,?_,?_,?_⟩
  ·rcases p1.new id p h with h1|h1
   ·exact S.ext.new id p h1
   ·exact .inr ⟨by omega,by omega⟩
  ·rw[hupd];split
   ·exact S.inv.update (λid hl=>Qis hl) p1 hfr1 p2 p4 p5 p6
   ·rename_i h0;have h0':o.mode=0:=Classical.not_not.1 h0;have:muv o i (foldC M 0 al rs comp0)=[]:=by simp[muv,takes,h0',cat]
    rw[this]at p4;exact S.inv.mono0 p1.old p4
  ·have:=(S.tmr.mono p1.old p4.shape).put oc.dst p3;rw[<-hor.1]at this;exact this.congr htnew
  ·intro c id p hl hp;rw[hupd]at hl;split at hl
   ·unfold Qfy at hl;split at hl
    ·rcases p5 id p hl hp with h1|⟨id0,q0,h1,h2,h3⟩
     ·exact .inl (Nat.le_trans S.fr.size h1)
     ·obtain⟨c',_,h4⟩:=Qis h1;rcases S.nb c' id0 q0 h4 h2 with h5|⟨id1,q1,h5,h6,h7⟩
      ·exact .inl (h3▸h5)
      ·exact .inr ⟨id1,q1,h5,h6,h7.trans h3⟩
    ·split at hl
     ·cases hl
     ·exact S.nb c id p hl (oldRho c id p hl hp)
   ·exact S.nb c id p hl (oldRho c id p hl hp)
  ·intro c id hl;rw[hupd]at hl;split at hl
   ·unfold Qfy at hl;split at hl
    ·rcases p6 id hl with h1|h1
     ·obtain⟨c',_,h4⟩:=Qis h1;exact S.ni c' id h4
     ·exact .inr ⟨by omega,by omega⟩
    ·split at hl
     ·cases hl
     ·exact S.ni c id hl
   ·exact S.ni c id hl
  ·intro j hj hMj id h1 h2;have hji:j≠i:=λe=>by subst e;simp[also]at hMj
   have hMj':M j=false:=by unfold also at hMj;simpa[hji]using hMj
   cases e:ρ' id with
   |none=>rfl
   |some p=>
    rcases p1.new id p e with h3|⟨h3,h4⟩
    ·rw[S.fresh j hj hMj' id h1 h2]at h3;cases h3
    ·rw[hn1]at h4;rcases Nat.lt_or_gt_of_ne hji with hlt|hlt
     ·have:=hmono (j+1) i (by omega) (by omega);omega
     ·have:=hmono (i+1) j (by omega) (by omega);omega
 |false=>
  simp only[Bool.false_eq_true,if_false];have hupd:foldC (also M i) 0 al rs comp0=foldC M 0 al rs comp0:=by rw[hnew];unfold updC;simp[hw]
  refine hK _ _ (put_defers _ _ _) ⟨ρ,hcl,S.ext,by rw[hupd];exact S.inv,?_,S.fr,by rw[hupd];exact S.nb,by rw[hupd];exact S.ni,λj hj hMj=>S.fresh j hj ?_⟩
  ·have:=S.tmr.put (x:=undef) (v:=r.v) oc.dst (by rw[s4 hw];exact⟨[],rfl,trivial⟩);rw[<-hor.1]at this;exact this.congr htnew
  ·unfold also at hMj;split at hMj
   ·cases hMj
   ·exact hMj
theorem Part.any (R:Reg P val fz ops al rs tm0 comp0 n0 tmE compE nE) {Q:Exit->Act->World->Prop} {d:Act}
 (hQ:∀ρ a w,a.defers=d.defers->Part val fz al rs tm0 comp0 n0 nE ρ0 mu0 w0 (λ_=>true) ρ a w->Q .normal a w):
 ∀(fuel:Nat) (listed:Array Bool) (a:Act) (w:World),listed.size=ops.size->listed.toList.count false<=fuel->a.defers=d.defers->
  (∃ρ,Part val fz al rs tm0 comp0 n0 nE ρ0 mu0 w0 (λx=>listed.getD x false) ρ a w)->wpAny P .any ops Q fuel listed a w:=by
 have hlen:=Chain.lengths R.ch;have full:∀listed:Array Bool,listed.size=ops.size->Region.ready .any ops listed=[]->∀i,i<ops.size->listed.getD i false=true:=by
  intro listed hs hr i;induction i using Nat.strongRecOn with
  |ind i ih=>
   intro hi;cases e:listed.getD i false with
   |true=>rfl
   |false=>
    exfalso
    have hm:i∈Region.ready .any ops listed:=by
     unfold Region.ready;rw[List.mem_filter];refine⟨List.mem_range.2 hi,?_⟩;have h1:listed.getD i true=false:=by
      simp only[Array.getD_eq_getD_getElem?,Array.getElem?_eq_getElem (show i<listed.size by omega),Option.getD_some]at e⊢;exact e
     rw[h1,Array.getElem?_eq_getElem hi];simp only[Bool.not_false,Bool.true_and,Option.map_some,Option.getD_some,Array.all_eq_true'];intro ed hed;cases hb:Region.binds .any ed with
     |false=>rfl
     |true=>
      obtain⟨o,ho,_⟩:=R.opr.get (show ops.toList[i]?=some ops[i] by simp[hi]);have:=R.ok.back i ops[i] o (by simp[hi]) ho ed (by simpa using hed) hb;simp[ih ed.on this (by omega)]
    rw[hr]at hm;cases hm
 have fin:∀(listed:Array Bool) a w,listed.size=ops.size->a.defers=d.defers->(∀i,i<ops.size->listed.getD i false=true)->(∃ρ,Part val fz al rs tm0 comp0 n0 nE ρ0 mu0 w0 (λx=>listed.getD x false) ρ a w)->Q .normal a w:=by
  intro listed a w hs hd hf ⟨ρ,S⟩;refine hQ ρ a w hd ?_;have hlt:∀(j:Nat) p,al[j]?=some p->listed.getD (0+j) false=true:=λj p hp=>by
   have:=(List.getElem?_eq_some_iff.1 hp).1;rw[Nat.zero_add];exact hf j (by simp at hlen;omega)
  have e1:foldC (λx=>listed.getD x false) 0 al rs comp0=foldC (λ_=>true) 0 al rs comp0:=by
   funext c;exact Qix rfl λj p _ hp _ _=>hlt j p hp
  have e2:TMeq (Qf0 (λx=>listed.getD x false) 0 al rs tm0) (Qf0 (λ_=>true) 0 al rs tm0):=
   ⟨λq r=>Qic rfl Iff.rfl λj p hp _=>hlt j p hp,λq r=>by rw[Qhj,Qhj]⟩
  refine⟨λ_ _ _ _ _ _=>rfl,S.ext,by rw[<-e1];exact S.inv,S.tmr.congr e2,S.fr,by rw[<-e1];exact S.nb,by rw[<-e1];exact S.ni,λj _ h=>by cases h⟩
 intro fuel;induction fuel with
 |zero=>
  intro listed a w hs hc hd hS;have hall:∀i,i<ops.size->listed.getD i false=true:=λi hi=>by
   have hn:false∉listed.toList:=List.count_eq_zero.1 (by omega);cases e:listed.getD i false with
   |true=>rfl
   |false=>
    simp only[Array.getD_eq_getD_getElem?,Array.getElem?_eq_getElem (show i<listed.size by omega),Option.getD_some]at e;exact(hn (by rw[<-e];simp)).elim
  refine⟨?_,fin listed a w hs hd hall hS⟩;unfold Region.ready;rw[List.filter_eq_nil_iff];intro i hi;have hi':=List.mem_range.1 hi;have:=hall i hi';simp only[Array.getD_eq_getD_getElem?,Array.getElem?_eq_getElem (show i<listed.size by omega),Option.getD_some]at this⊢;simp[this]
 |succ fuel ih=>
  intro listed a w hs hc hd hS;refine⟨λhr=>fin listed a w hs hd (full listed hs hr) hS,λi hi=>?_⟩;unfold Region.ready at hi;rw[List.mem_filter]at hi;obtain⟨h1,h2⟩:=hi;have hlt:=List.mem_range.1 h1;rw[Array.getElem?_eq_getElem hlt]at h2;simp only[Bool.and_eq_true,Bool.not_eq_true',Option.map_some,Option.getD_some,Array.all_eq_true',Bool.or_eq_true]at h2;obtain⟨h2,h3⟩:=h2;have hMi:listed.getD i false=false:=by
   simp only[Array.getD_eq_getD_getElem?,Array.getElem?_eq_getElem (show i<listed.size by omega),Option.getD_some]at h2⊢;exact h2
  obtain⟨ρ,S⟩:=hS;refine Part.step R S (Array.getElem?_eq_getElem hlt) hMi (λe he hb=>?_) λa' w' hd' hS'=>?_
  ·have:=h3 e (by simpa using he);simpa[hb]using this
  ·have eM:also (λx=>listed.getD x false) i=λx=>(listed.setIfInBounds i true).getD x false:=by
    funext x;unfold also;simp only[Array.getD_eq_getD_getElem?,Array.getElem?_setIfInBounds];by_cases e:x=i
    ·subst e;simp[show x<listed.size by omega]
    ·have e':¬i=x:=λh=>e h.symm;simp[e,e']
   rw[eM]at hS';refine ih _ a' w' (by simpa using hs) ?_ (hd'.trans hd) hS';have hl:i<listed.toList.length:=by simp;omega
   have hv:listed.toList[i]=false:=by
    simp only[Array.getD_eq_getD_getElem?,Array.getElem?_eq_getElem (show i<listed.size by omega),Option.getD_some]at hMi;simpa using hMi
   rw[Array.toList_setIfInBounds,List.count_set hl,hv];have:0<listed.toList.count false:=List.count_pos_iff.2 (by rw[<-hv];exact List.getElem_mem hl);rw[if_pos (by rfl),if_neg (by decide)];omega
end
end Go.Ev
namespace Go.Ev
section
variable {R:Type} {T:R->Prop} {z:R} {P:Program} {val:Nat->Int} {fz:Fz} {orc:Orc R} {call:CallT R}
structure Split (mu0:St) (comp:Nat->St):Prop where
 sub:∀c id cs,look (comp c) id=some cs->look mu0 id=some cs
 one:∀c c' id,(look (comp c) id).isSome->(look (comp c') id).isSome->c=c'
theorem Split.inv {mu0:St} {comp:Nat->St} {ρ:Rho} {w:World} (h:Split mu0 comp) (hr:Rel val ρ fz mu0 w):CInv val ρ fz comp w:=by
 have sub':∀c id,(look (comp c) id).isSome->(look mu0 id).isSome:=λc id hs=>by
  obtain⟨cs,hcs⟩:=Option.isSome_iff_exists.1 hs;simp[h.sub c id cs hcs]
 refine⟨hr.rf,λc id cs hl=>hr.rm id cs (h.sub c id cs hl),λc id cs hl=>hr.dm id cs (h.sub c id cs hl),λc c' id id' p p' hl hl' hp hp' e=>?_,λc id id' p p' hl hl' hp hp' e=>?_⟩
 ·have:=hr.dj id id' p p' (sub' c id hl) (.inl (sub' c' id' hl')) hp hp' e;subst this;exact⟨h.one c c' id hl hl',rfl⟩
 ·have:=hr.dj id id' p p' (sub' c id hl) (.inr hl') hp hp' e;subst this;obtain⟨cs,hcs⟩:=Option.isSome_iff_exists.1 hl;rw[hr.dm id cs (h.sub c id cs hcs)]at hl';cases hl'
theorem Split.move {mu0 mu:St} {ad:List St} {i id:Nat} {cs:List SV} (hs:Split mu0 (Qe0 mu ad)) (hi:i<ad.length) (e2:look mu id=some cs):Split mu0 (Qe0 (killS mu id) (ad.set i ((id,cs)::(ad[i]?).getD []))):=by
 have hget:∀j,((ad.set i ((id,cs)::(ad[i]?).getD []))[j]?).getD []=if j=i then(id,cs)::(ad[i]?).getD []else(ad[j]?).getD []:=λj=>by
  rw[List.getElem?_set];by_cases e:i=j
  ·subst e;simp[hi]
  ·have e':¬j=i:=λx=>e x.symm;simp[e,e']
 refine⟨λc id' cs' hc=>?_,λc c' id' hc hc'=>?_⟩
 ·cases c with
  |zero=>
   simp only[Qe0,Qfe]at hc;split at hc
   ·cases hc
   ·exact hs.sub 0 id' cs' hc
  |succ j=>
   simp only[Qe0,hget]at hc;split at hc
   ·rename_i hj;subst hj;rw[Qey]at hc;split at hc
    ·subst_vars;cases hc;exact hs.sub 0 _ _ e2
    ·exact hs.sub (j+1) id' cs' hc
   ·exact hs.sub (j+1) id' cs' hc
 ·have key:∀c,(look (Qe0 (killS mu id) (ad.set i ((id,cs)::(ad[i]?).getD [])) c) id').isSome->(c=i+1/\id'=id)\/(id'≠id/\(look (Qe0 mu ad c) id').isSome):=by
   intro c hx;cases c with
   |zero=>
    simp only[Qe0,Qfe]at hx;split at hx
    ·cases hx
    ·rename_i hne;exact .inr ⟨λe=>hne e.symm,hx⟩
   |succ j=>
    simp only[Qe0,hget]at hx;have other:(look ((ad[j]?).getD []) id').isSome->(id'≠id/\(look (Qe0 mu ad (j+1)) id').isSome):=λhy=>by
     by_cases e:id'=id
     ·subst e;have:=hs.one (j+1) 0 id' hy (by simp[Qe0,e2]);cases this
     ·exact⟨e,hy⟩
    split at hx
    ·rename_i hj;subst hj;rw[Qey]at hx;split at hx
     ·subst_vars;exact .inl ⟨rfl,rfl⟩
     ·exact .inr (other hx)
    ·exact .inr (other hx)
  rcases key c hc with⟨h1,h2⟩|⟨h1,h2⟩
  ·rcases key c' hc' with⟨h3,h4⟩|⟨h3,h4⟩
   ·rw[h1,h3]
   ·exact(h3 h2).elim
  ·rcases key c' hc' with⟨h3,h4⟩|⟨h3,h4⟩
   ·exact(h1 h4).elim
   ·exact hs.one c c' id' h2 h4
theorem Qnp {mu0 mu:St} {ad:List St} {i id:Nat} {J:St->List St->R} (hs:Split mu0 (Qe0 mu ad)) (hi:i<ad.length) (h:T (moveK i id mu ad J)):
 ∃mu1 ad1,T (J mu1 ad1)/\ad1.length=ad.length/\Split mu0 (Qe0 mu1 ad1)/\∀j,j≠i->(ad1[j]?).getD []=(ad[j]?).getD []:=by
 unfold moveK at h;cases e2:look mu id with
 |none=>rw[e2]at h;exact⟨mu,ad,h,rfl,hs,λ_ _=>rfl⟩
 |some cs=>
  rw[e2]at h;have h3:T (killK mu id λmu=>setK ad i ((id,cs)::nth [] ad i) λad=>J mu ad):=h;rw[Qjs,Qh5,Qgr]at h3;refine⟨_,_,h3,by simp,hs.move hi e2,λj hj=>?_⟩;rw[List.getElem?_set,if_neg (λx=>hj x.symm)]
theorem Qwd {cs:List SV} {no:R} {k:Nat->R} (h:T (bufK cs no k)):T no\/∃g,T (k g):=by
 unfold bufK at h;cases cs with
 |nil=>exact .inl h
 |cons a l=>
  have h1:T (a.onMk no λm=>cond (Nat.beq m 3) ((nth .un (a::l) 3).onBlk no k) no):=h;cases a with
  |mk t=>
   have h2:T (cond (Nat.beq t 3) ((nth .un (SV.mk t::l) 3).onBlk no k) no):=h1;cases e:Nat.beq t 3 with
   |false=>rw[e]at h2;exact .inl h2
   |true=>
    rw[e]at h2;have h3:T ((nth .un (SV.mk t::l) 3).onBlk no k):=h2;generalize nth .un (SV.mk t::l) 3=s at h3;cases s with
    |optr id off=>exact .inr ⟨id,h3⟩
    |osl id off len cap s=>exact .inr ⟨id,h3⟩
    |_=>exact .inl h3
  |_=>exact .inl h1
theorem Qos {mu0 mu:St} {ad:List St} {i:Nat} {v:AV} {J:St->List St->R} (hs:Split mu0 (Qe0 mu ad)) (hi:i<ad.length) (h:T (Qgh v i mu ad J)):
 ∃mu1 ad1,T (J mu1 ad1)/\ad1.length=ad.length/\Split mu0 (Qe0 mu1 ad1)/\∀j,j≠i->(ad1[j]?).getD []=(ad[j]?).getD []:=by
 have skip:T (J mu ad)->∃mu1 ad1,T (J mu1 ad1)/\ad1.length=ad.length/\Split mu0 (Qe0 mu1 ad1)/\∀j,j≠i->(ad1[j]?).getD []=(ad[j]?).getD []:=λh=>⟨mu,ad,h,rfl,hs,λ_ _=>rfl⟩
 have main:∀id,T (Option.rec (motive:=λ_=>R) (J mu ad) (λcs=>moveK i id mu ad λmu ad=>bufK cs (J mu ad) λg=>moveK i g mu ad J) (look mu id))->
  ∃mu1 ad1,T (J mu1 ad1)/\ad1.length=ad.length/\Split mu0 (Qe0 mu1 ad1)/\∀j,j≠i->(ad1[j]?).getD []=(ad[j]?).getD []:=by
  intro id h;cases e2:look mu id with
  |none=>rw[e2]at h;exact skip h
  |some cs=>
   rw[e2]at h;obtain⟨mu1,ad1,h1,h2,h3,h4⟩:=Qnp hs hi (show T (moveK i id mu ad λmu ad=>bufK cs (J mu ad) λg=>moveK i g mu ad J)from h);rcases Qwd h1 with h5|⟨g,h5⟩
   ·exact⟨mu1,ad1,h5,h2,h3,h4⟩
   ·obtain⟨mu2,ad2,g1,g2,g3,g4⟩:=Qnp h3 (by rw[h2];exact hi) h5;exact⟨mu2,ad2,g1,g2.trans h2,g3,λj hj=>(g4 j hj).trans (h4 j hj)⟩
 cases v with
 |ag l=>exact skip h
 |tp l=>exact skip h
 |one s=>
  cases s with
  |optr id off=>exact main id h
  |osl id off len cap s=>exact main id h
  |_=>exact skip h
theorem Qoe (hz:¬T z) {mu0:St}:∀{al:List AOper} {i:Nat} {tm:TM} {mu:St} {ad:List St} {k:St->List St->R},i+al.length<=ad.length->Split mu0 (Qe0 mu ad)->T (apart al i tm mu ad k)->
 ∃mu' ad',T (k mu' ad')/\ad'.length=ad.length/\Split mu0 (Qe0 mu' ad')/\∀j,(ad'[j]?).getD []=(ad[j]?).getD []\/∃(m:Nat) (p:AOper),j=i+m/\al[m]?=some p/\p.mode=4
 |[],i,tm,mu,ad,k,_,hs,h=>⟨mu,ad,h,rfl,hs,λj=>.inl rfl⟩
 |o::al,i,tm,mu,ad,k,hl,hs,h=>by
  have go:∀mu1 ad1,ad1.length=ad.length->Split mu0 (Qe0 mu1 ad1)->(∀j,(ad1[j]?).getD []=(ad[j]?).getD []\/(j=i/\o.mode=4))->T (apart al (i+1) tm mu1 ad1 k)->
   ∃mu' ad',T (k mu' ad')/\ad'.length=ad.length/\Split mu0 (Qe0 mu' ad')/\∀j,(ad'[j]?).getD []=(ad[j]?).getD []\/∃(m:Nat) (p:AOper),j=i+m/\(o::al)[m]?=some p/\p.mode=4:=by
   intro mu1 ad1 h1 h2 h4 h5;obtain⟨mu',ad',g1,g2,g3,g4⟩:=Qoe hz (by simp at hl;omega) h2 h5;refine⟨mu',ad',g1,g2.trans h1,g3,λj=>?_⟩;rcases g4 j with g|⟨m,p,e1,e2,e3⟩
   ·rcases h4 j with g'|⟨e1,e2⟩
    ·exact .inl (g.trans g')
    ·exact .inr ⟨0,o,by omega,by simp,e2⟩
   ·exact .inr ⟨m+1,p,by omega,by simpa using e2,e3⟩
  have skip:T (apart al (i+1) tm mu ad k)->∃mu' ad',T (k mu' ad')/\ad'.length=ad.length/\Split mu0 (Qe0 mu' ad')/\∀j,(ad'[j]?).getD []=(ad[j]?).getD []\/∃(m:Nat) (p:AOper),j=i+m/\(o::al)[m]?=some p/\p.mode=4:=
   λh=>go mu ad rfl hs (λj=>.inl rfl) h
  by_cases hm:o.mode=4
  ·have hb4:Nat.beq o.mode 4=true:=by rw[hm];rfl
   have h0:T (Option.rec (motive:=λ_=>R) (apart al (i+1) tm mu ad k) (λx=>Qgh (ev tm x) i mu ad λmu ad=>apart al (i+1) tm mu ad k) o.op.Qsq):=by
    have h1:T (cond (Nat.beq o.mode 4) (Option.rec (motive:=λ_=>R) (apart al (i+1) tm mu ad k) (λx=>Qgh (ev tm x) i mu ad λmu ad=>apart al (i+1) tm mu ad k) o.op.Qsq) (apart al (i+1) tm mu ad k)):=h;rw[hb4]at h1;exact h1
   cases hx:o.op.Qsq with
   |none=>rw[hx]at h0;exact skip h0
   |some x=>
    rw[hx]at h0;obtain⟨mu1,ad1,h1,h2,h3,h4⟩:=Qos hs (by simp at hl;omega) (show T (Qgh (ev tm x) i mu ad λmu ad=>apart al (i+1) tm mu ad k)from h0);refine go mu1 ad1 h2 h3 (λj=>?_) h1;by_cases e:j=i
    ·exact .inr ⟨e,hm⟩
    ·exact .inl (h4 j e)
  ·have hb:Nat.beq o.mode 4=false:=by
    cases e:Nat.beq o.mode 4 with
    |false=>rfl
    |true=>exact(hm (Nat.eq_of_beq_eq_true e)).elim
   unfold apart at h;simp only[hb,cond_false]at h;exact skip h
def joined:List St->St->St
 |[],mu=>mu
 |s::r,mu=>joined r (s++mu)
theorem Qts (l:List St) (mu:St) (k:St->R):Qje l mu k=k (joined l mu):=by
 induction l generalizing mu with
 |nil=>rfl
 |cons s r ih=>
  show joinK s mu (λmu=>Qje r mu k)=_;rw[Qig,ih];rfl
theorem Qnd {id:Nat} {cs:List SV}:∀{l:List St} {mu:St},look (joined l mu) id=some cs->look mu id=some cs\/∃j:Nat,look ((l[j]?).getD []) id=some cs
 |[],mu,h=>.inl h
 |s::r,mu,h=>by
  rcases Qnd (l:=r) h with h1|⟨j,h1⟩
  ·rw[Qe1]at h1;cases e:look s id with
   |some c=>rw[e]at h1;cases h1;exact .inr ⟨0,by simpa using e⟩
   |none=>rw[e]at h1;exact .inl h1
  ·exact .inr ⟨j+1,by simpa using h1⟩
theorem Qgx {id:Nat} {cs:List SV} {ad:List St} {mu:St} (h:look (joined ad mu) id=some cs):∃c,look (Qe0 mu ad c) id=some cs:=by
 rcases Qnd h with h|⟨j,h⟩
 ·exact⟨0,h⟩
 ·exact⟨j+1,h⟩
theorem Qiv:∀{l:List AOper} {need:List (Nat×Nat)} {r:List AOper},Qe2 l need=some r->∀o∈r,o∈l
 |[],need,r,h,o,ho=>by cases h;cases ho
 |a::l,need,r,h,o,ho=>by
  unfold Qe2 at h;split at h
  ·exact List.mem_cons_of_mem _ (Qiv h o ho)
  ·split at h
   ·split at h
    ·obtain⟨r',h1,rfl⟩:=Option.map_eq_some_iff.1 h;simp only[List.mem_cons]at ho⊢;rcases ho with rfl|ho
     ·exact .inl rfl
     ·exact .inr (Qiv h1 o ho)
    ·cases h
   ·exact List.mem_cons_of_mem _ (Qiv h o ho)
theorem Qvo {al:List AOper} {o:AOper} (h:o∈preOf al):o∈al:=by
 unfold preOf at h;rw[List.mem_flatMap]at h;obtain⟨p,_,h2⟩:=h;split at h2
 ·cases e:Qe2 (al.take p.2).reverse [_]with
  |none=>rw[e]at h2;simp at h2
  |some r=>
   rw[e]at h2;have:=Qiv e o (by simpa using h2);exact List.mem_of_mem_take (by simpa using this)
 ·cases h2
theorem Qpb (al:List AOper):(Qoa al).length=al.length:=by simp[Qoa]
theorem Qtn {al:List AOper} {i:Nat} {p:AOper} (h:(Qoa al)[i]?=some p):∃o,al[i]?=some o/\p.op=o.op/\p.dst=o.dst/\p.g=o.g/\p.anc=o.anc/\(p.mode=o.mode\/p.mode=0):=by
 unfold Qoa at h;rw[List.getElem?_map,List.getElem?_zipIdx]at h;cases e:al[i]? with
 |none=>rw[e]at h;cases h
 |some o=>
  rw[e]at h;simp only[Option.map_some,Option.some.injEq]at h;refine⟨o,rfl,?_⟩;split at h
  ·split at h
   ·subst h;exact⟨rfl,rfl,rfl,rfl,.inl rfl⟩
   ·subst h;exact⟨rfl,rfl,rfl,rfl,.inr rfl⟩
  ·subst h;exact⟨rfl,rfl,rfl,rfl,.inl rfl⟩
theorem Qqb (hz:¬T z) (hc:Qf6 T P val call) (hk:OrcOk T val orc) {ops:Array Oper}:∀{l:List AOper} {tm:TM} {mu:St} {n:Nat} {k:TM->R},(∀ao∈l,∃o,OpR P ops o ao)->T (preK orc z call fz l tm mu n k)->∃tm',T (k tm')
 |[],tm,mu,n,k,_,h=>⟨tm,h⟩
 |ao::l,tm,mu,n,k,hr,h=>by
  obtain⟨o,ho⟩:=hr ao (by simp);obtain⟨tm1,mu1,n1,h1,_⟩:=Qmj (P:=P) (val:=val) hz hc hk ho (show T (stepK orc z call fz ao tm mu n λtm _ _=>preK orc z call fz l tm mu n k)from h);exact Qqb hz hc hk (λao h=>hr ao (by simp[h])) h1
theorem Qnv (hz:¬T z) (hc:Qf6 T P val call) (hk:OrcOk T val orc) (hmx:P.follows .mixedOrders=true) {id:Nat} {ops:Array Oper} {al:List AOper} {tm:TM} {mu:St} {n:Nat} {k:TM->St->Nat->R} (hok:regOk ops.toList al=true) (hopr:All2 (OpR P ops) ops.toList al)
 (h:T (drawK orc z call fz al tm mu n k)):
 ∃tm' mu' n',T (k tm' mu' n')/\n<=n'/\∀ρ w a,Rel val ρ fz mu w->TmR val ρ w tm a->Qgi ρ n n'->∀(Q:Exit->Act->World->Prop),(∀a' w',PostS val ρ fz mu n w a tm' mu' n' a' w'->Q .normal a' w')->(Code.region id ops true).wp P Q a w:=by
 have rok:=rok_of hok;have hlen:=hopr.length;have hd0:∀j,(((al.map λ_=>([]:St)))[j]?).getD []=[]:=λj=>by
  rw[List.getElem?_map];cases al[j]?<;>rfl
 have hs0:Split mu (Qe0 mu (al.map λ_=>[])):=by
  refine⟨λc id cs hl=>?_,λc c' id hl hl'=>?_⟩
  ·cases c with
   |zero=>exact hl
   |succ j=>simp only[Qe0,hd0]at hl;cases hl
  ·cases c with
   |succ j=>simp only[Qe0,hd0]at hl;cases hl
   |zero=>cases c' with
    |zero=>rfl
    |succ j=>simp only[Qe0,hd0]at hl';cases hl'
 unfold drawK at h;obtain⟨tm0,h⟩:=Qqb (P:=P) (val:=val) hz hc hk (ops:=ops) (λao hao=>by
  obtain⟨i,hi⟩:=List.getElem?_of_mem (Qvo hao);have hlt:i<ops.toList.length:=by rw[hlen];exact(List.getElem?_eq_some_iff.1 hi).1
  obtain⟨b,hb,hR⟩:=hopr.get (List.getElem?_eq_getElem hlt);rw[hi]at hb;cases hb;exact⟨_,hR⟩) h
 obtain⟨mu1,ad1,h1,h2,h3,h4⟩:=Qoe hz (by simp[Qpb]) hs0 h;obtain⟨rs,tm',mu2,ad2,n',h5,h6,h7⟩:=Qq7 (P:=P) (val:=val) hz hc hk hopr (by simp at h2;omega) (λj ao hj=>by
  have hj':=(List.getElem?_eq_some_iff.1 hj).1;refine⟨rok.mode j _ ao (List.getElem?_eq_getElem (by omega)) hj,λhm=>?_⟩;have:=rok.lt hlen j ao hj (0+j) hm;omega) h1
 rw[Qts]at h5;obtain⟨f1,f2,f3,f4⟩:=Chain.final h7;have hmono:=Qtl f4;have hdead:∀c,¬live al c->Qe0 mu1 ad1 c=[]:=λc hc=>by
  cases c with
  |zero=>exact(hc (.inl rfl)).elim
  |succ j=>
   rcases h4 j with e|⟨m,p',e1,e2,e3⟩
   ·simp only[Qe0,e,hd0]
   ·rw[Nat.zero_add]at e1;subst e1;obtain⟨p,e2,_,_,_,_,e4⟩:=Qtn e2;have e3:p.mode=4:=by rcases e4 with e4|e4<;>omega
    exact(hc (.inr ⟨j,p,rfl,e2,by omega,by omega⟩)).elim
 have RG:Reg P val fz ops al rs tm (Qe0 mu1 ad1) n tm' (Qe0 mu2 ad2) n':=⟨rok,hopr,h7,hdead⟩
 have hn:n<=n':=by rw[f3];exact hmono 0 _ (by omega) (Nat.le_refl _)
 refine⟨tm',joined ad2 mu2,n',h5,hn,λρ w a hr ht hf Q hQ=>?_⟩;have e0:foldC (λ_=>false) 0 al rs (Qe0 mu1 ad1)=Qe0 mu1 ad1:=by funext c;exact Qjt λ_ _ _ _ _ _=>rfl
 have t0:TMeq tm (Qf0 (λ_=>false) 0 al rs tm):=⟨λq r=>(Qka λ_ _ _ _=>rfl).symm,λq r=>by rw[Qhj]⟩
 have hS:Part val fz al rs tm (Qe0 mu1 ad1) n n' ρ mu w.drew (λ_=>false) ρ a w.drew:=by
  refine⟨λ_ _ h=>(by cases h),Ext.refl _ _ _,?_,?_,Fr.refl _ _ _,λc id p hl hp=>?_,λc id hl=>?_,λj hj _=>?_⟩
  ·rw[e0];exact(h3.inv hr).like (Like.drew w)
  ·exact(ht.mono (λ_ _ h=>h) (λb=>Nat.le_of_eq ((Like.drew w).bsize b).symm)).congr t0
  ·rw[e0]at hl;obtain⟨cs,hcs⟩:=Option.isSome_iff_exists.1 hl;exact .inr ⟨id,p,by simp[h3.sub c id cs hcs],hp,rfl⟩
  ·rw[e0]at hl;obtain⟨cs,hcs⟩:=Option.isSome_iff_exists.1 hl;exact .inl (by simp[h3.sub c id cs hcs])
  ·refine hf.sub (hmono 0 j (by omega) (by omega)) ?_;rw[f3];exact hmono (j+1) _ (by omega) (Nat.le_refl _)
 refine wp_region_any hmx (Part.any RG (ρ0:=ρ) (mu0:=mu) (w0:=w.drew) (d:=a) (λρ' a' w' hd S=>hQ a' w' ⟨hd,ρ',S.ext,?_,?_,⟨S.fr.os,S.fr.tape,S.fr.output,S.fr.size,S.fr.keep,S.fr.shape⟩,λid p hl hp=>?_,λid hl=>?_⟩) _ _ a _ (by simp) (by simp[List.count_le_length]) rfl ⟨ρ,?_⟩)
 ·have:=S.inv;rw[<-f2]at this;refine⟨this.rf,λid cs hl=>?_,λid cs hl=>?_,λid id' p p' hl hl' hp hp' e=>?_⟩
  ·obtain⟨c,hc⟩:=Qgx hl;exact this.rm c id cs hc
  ·obtain⟨c,hc⟩:=Qgx hl;exact this.dm c id cs hc
  ·obtain⟨cs,hcs⟩:=Option.isSome_iff_exists.1 hl;obtain⟨c,hc⟩:=Qgx hcs;rcases hl' with hl'|hl'
   ·obtain⟨cs',hcs'⟩:=Option.isSome_iff_exists.1 hl';obtain⟨c',hc'⟩:=Qgx hcs';exact(this.dj c c' id id' p p' (by simp[hc]) (by simp[hc']) hp hp' e).2
   ·exact(this.df c id id' p p' (by simp[hc]) hl' hp hp' e).elim
 ·rw[f1];exact S.tmr
 ·obtain⟨cs,hcs⟩:=Option.isSome_iff_exists.1 hl;obtain⟨c,hc⟩:=Qgx hcs;have:=S.nb c id p;rw[<-f2]at this;exact this (by simp[hc]) hp
 ·obtain⟨cs,hcs⟩:=Option.isSome_iff_exists.1 hl;obtain⟨c,hc⟩:=Qgx hcs;have:=S.ni c id;rw[<-f2]at this;exact this (by simp[hc])
 ·have eM:(λx=>(Array.replicate ops.size false).getD x false)=λ_=>false:=by
   funext x;simp only[Array.getD_eq_getD_getElem?,Array.getElem?_replicate];split<;>rfl
  rw[eM];exact hS
end
end Go.Ev
namespace Go.Ev
def AExit.Qq6:AExit->Exit
 |.normal=>.normal
 |.exit id=>.exit id
 |.ret=>.ret
theorem Qj4:∀(l:List AOper) (asq:List (List Nat)),l.length=asq.length->(Qh1 l asq).length=l.length
 |[],_,_=>by simp[Qh1]
 |_::l,[],h=>by simp at h
 |_::l,_::asq,h=>by simp[Qh1,Qj4 l asq (by simpa using h)]
theorem Qme:∀(l:List Oper) (acc:List (List Nat)),(ancs l acc).length=acc.length+l.length
 |[],acc=>by simp[ancs]
 |o::l,acc=>by simp[ancs,Qme l];omega
theorem Qm0:∀{l:List AOper} {asq:List (List Nat)} {i:Nat} {p q:AOper},l[i]?=some p->(Qh1 l asq)[i]?=some q->q.dst=p.dst/\q.op=p.op/\q.g=p.g
 |[],_,_,_,_,h,_=>by simp at h
 |_::_,[],_,_,_,_,h=>by simp[Qh1]at h
 |a::l,b::asq,0,p,q,h,h'=>by simp[Qh1]at h h';subst h;subst h';exact⟨rfl,rfl,rfl⟩
 |a::l,b::asq,i+1,p,q,h,h'=>by simp[Qh1]at h h';exact Qm0 h h'
theorem Qt6 (ops:List (AOper×Nat)) (i:Nat) (o:AOper):(raise ops i o).dst=o.dst/\(raise ops i o).op=o.op/\(raise ops i o).g=o.g:=by
 unfold raise;split
 ·split<;>exact⟨rfl,rfl,rfl⟩
 ·split<;>exact⟨rfl,rfl,rfl⟩
 ·split<;>exact⟨rfl,rfl,rfl⟩
 ·exact⟨rfl,rfl,rfl⟩
theorem Qi3 {P:Program} {m:Muts} {ops:Array Oper}:∀{l:List Oper} {al:List AOper},Qgp P m ops l=some al->al.length=l.length
 |[],al,h=>by simp[Qgp]at h;subst h;rfl
 |o::l,al,h=>by
  simp only[Qgp]at h;split at h
  ·rename_i op g r h1 h2 h3;cases h;simp[Qi3 h3]
  ·cases h
theorem Qlu {P:Program} {m:Muts} {ops:Array Oper} {l:List Oper} {al:List AOper} (h:Qgp P m ops l=some al):(modes al (ancs l [])).length=l.length:=by
 have h1:=Qi3 h;simp[modes,Qj4 al (ancs l []) (by simp[Qme,h1]),h1]
theorem Qp9 {al:List AOper} {asq:List (List Nat)} {i:Nat} {p q:AOper} (h:al[i]?=some p) (h':(modes al asq)[i]?=some q):q.dst=p.dst/\q.op=p.op/\q.g=p.g:=by
 unfold modes at h';rw[List.getElem?_map]at h';obtain⟨⟨x,j⟩,hx,rfl⟩:=Option.map_eq_some_iff.1 h';rw[List.getElem?_zipIdx]at hx;obtain⟨y,hy,e⟩:=Option.map_eq_some_iff.1 hx;simp at e;obtain⟨rfl,rfl⟩:=e;obtain⟨a1,a2,a3⟩:=Qt6 ((Qh1 al asq).zipIdx) i y;obtain⟨b1,b2,b3⟩:=Qm0 h hy;exact⟨a1.trans b1,a2.trans b2,a3.trans b3⟩
theorem OpR.same {P:Program} {ops:Array Oper} {o:Oper} {p q:AOper} (h:OpR P ops o p) (e:q.dst=p.dst/\q.op=p.op/\q.g=p.g):OpR P ops o q:=
 ⟨e.1.trans h.1,by rw[e.2.1];exact h.2.1,by rw[e.2.2];exact h.2.2⟩
section
variable {R:Type} {T:R->Prop} {z:R} {P:Program} {val:Nat->Int} {fz:Fz} {orc:Orc R} {call:CallT R}
def Goes (P:Program) (fuel:Nat) (c:Code) (Q:Exit->Act->World->Prop) (a:Act) (w:World):Prop:=c.wp P Q a w/\∀b,c=.loop b->Code.rounds P b Q fuel a w
def CodeS (P:Program) (val:Nat->Int) (fz:Fz) (fuel:Nat) (c:Code) (tm:TM) (mu:St) (n:Nat) (e:AExit) (tm':TM) (mu':St) (n':Nat):Prop:=
 n<=n'/\∀ρ w a,Rel val ρ fz mu w->TmR val ρ w tm a->Qgi ρ n n'->∀(Q:Exit->Act->World->Prop),(∀a' w',PostS val ρ fz mu n w a tm' mu' n' a' w'->Q e.Qq6 a' w')->Goes P fuel c Q a w
theorem Qhi {fuel:Nat} {c:Code} {Q:Exit->Act->World->Prop} {a:Act} {w:World} (h:c.wp P Q a w) (hn:∀b,c≠.loop b):Goes P fuel c Q a w:=⟨h,λb e=>(hn b e).elim⟩
theorem Qku {fuel:Nat} {c:Code} {tm:TM} {mu:St} {n:Nat} {e:AExit} (hn:∀b,c≠.loop b) (h:∀(Q:Exit->Act->World->Prop) a w,Q e.Qq6 a w->c.wp P Q a w):CodeS P val fz fuel c tm mu n e tm mu n:=
 ⟨Nat.le_refl _,λ_ w a hr ht _ Q hQ=>Qhi (h Q a w (hQ a w (PostS.refl hr ht))) hn⟩
theorem Qf5 (hz:¬T z) (hc:Qf6 T P val call) (hk:OrcOk T val orc) (hmx:P.follows .mixedOrders=true) {m:Muts}:∀(fuel:Nat) (c:Code) {ac:ACode} {tm:TM} {mu:St} {n:Nat} {k:AExit->TM->St->Nat->R},Qez P m c=some ac->T (acode orc z call fz fuel ac tm mu n k)->
 ∃e tm' mu' n',T (k e tm' mu' n')/\CodeS P val fz fuel c tm mu n e tm' mu' n'
 |0,c,ac,tm,mu,n,k,_,h=>(hz h).elim
 |fuel+1,.skip,ac,tm,mu,n,k,hp,h=>by
  simp only[Qez,Option.some.injEq]at hp;subst hp;exact⟨.normal,tm,mu,n,h,Qku (by intro b;simp) λQ a w hq=>wp_skip hq⟩
 |fuel+1,.label l,ac,tm,mu,n,k,hp,h=>by
  simp only[Qez,Option.some.injEq]at hp;subst hp;exact⟨.normal,tm,mu,n,h,Qku (by intro b;simp) λQ a w hq=>wp_label hq⟩
 |fuel+1,.exit id,ac,tm,mu,n,k,hp,h=>by
  simp only[Qez,Option.some.injEq]at hp;subst hp;exact⟨.exit id,tm,mu,n,h,Qku (by intro b;simp) λQ a w hq=>wp_exit hq⟩
 |fuel+1,.ret,ac,tm,mu,n,k,hp,h=>by
  simp only[Qez,Option.some.injEq]at hp;subst hp;exact⟨.ret,tm,mu,n,h,Qku (by intro b;simp) λQ a w hq=>wp_ret hq⟩
 |fuel+1,.region id ops false,ac,tm,mu,n,k,hp,h=>by
  simp only[Qez]at hp;split at hp
  ·rename_i al h1;cases hp;obtain⟨tm',mu',n',h2,h3,h4⟩:=Qla (P:=P) (val:=val) hz hc hk (Qhz h1) (show T (runK orc z call fz al tm mu n (k .normal))from h);exact⟨.normal,tm',mu',n',h2,h3,λρ w a hr ht hf Q hQ=>Qhi (wp_region_list (h4 ρ w a hr ht hf Q hQ)) (by intro b;simp)⟩
  ·cases hp;exact(hz h).elim
 |fuel+1,.region id ops true,ac,tm,mu,n,k,hp,h=>by
  simp only[Qez]at hp;split at hp
  ·rename_i l h1;split at hp
   ·rename_i hok;cases hp;have hR:All2 (OpR P ops) ops.toList (modes l (ancs ops.toList [])):=by
     have hl:=Qhz h1;have hlen:(modes l (ancs ops.toList [])).length=ops.toList.length:=Qlu h1;refine All2.Qlq hlen.symm λi o ao ho hao=>?_;obtain⟨ao',h2,h3⟩:=hl.get ho;exact h3.same (Qp9 h2 hao)
    obtain⟨tm',mu',n',h2,h3,h4⟩:=Qnv (P:=P) (val:=val) (id:=id) hz hc hk hmx hok hR (show T (drawK orc z call fz _ tm mu n (k .normal))from h);exact⟨.normal,tm',mu',n',h2,h3,λρ w a hr ht hf Q hQ=>Qhi (h4 ρ w a hr ht hf Q hQ) (by intro b;simp)⟩
   ·cases hp;exact(hz h).elim
  ·cases hp;exact(hz h).elim
 |fuel+1,.seq a b,ac,tm,mu,n,k,hp,h=>by
  simp only[Qez]at hp;split at hp
  ·rename_i x y hx hy;cases hp;obtain⟨e,tm1,mu1,n1,h1,h2⟩:=Qf5 hz hc hk hmx fuel a hx (show T (acode orc z call fz fuel x tm mu n λe tm mu n=>AExit.rec (motive:=λ_=>R) (acode orc z call fz fuel y tm mu n k) (λid=>k (.exit id) tm mu n) (k .ret tm mu n) e)from h);cases e with
   |normal=>
    obtain⟨e2,tm2,mu2,n2,h3,h4⟩:=Qf5 hz hc hk hmx fuel b hy h1;refine⟨e2,tm2,mu2,n2,h3,Nat.le_trans h2.1 h4.1,λρ w a hr ht hf Q hQ=>Qhi (wp_seq ?_) (by intro b;simp)⟩;refine(h2.2 ρ w a hr ht (hf.sub (Nat.le_refl _) h4.1) _ λa1 w1 hp=>?_).1;obtain⟨d,ρ1,p1,p2,p3,p4,p5,p6⟩:=hp;refine(h4.2 ρ1 w1 a1 p2 p3 (hf.later p1 h2.1) Q λa2 w2 hp2=>hQ a2 w2 ?_).1;exact PostS.trans d p1 p4 p5 p6 h2.1 h4.1 hp2
   |exit id=>exact⟨.exit id,tm1,mu1,n1,h1,h2.1,λρ w a hr ht hf Q hQ=>Qhi (wp_seq (h2.2 ρ w a hr ht hf (Exit.then (b.wp P Q) Q) hQ).1) (by intro b;simp)⟩
   |ret=>exact⟨.ret,tm1,mu1,n1,h1,h2.1,λρ w a hr ht hf Q hQ=>Qhi (wp_seq (h2.2 ρ w a hr ht hf (Exit.then (b.wp P Q) Q) hQ).1) (by intro b;simp)⟩
  ·cases hp
 |fuel+1,.cond c a b,ac,tm,mu,n,k,hp,h=>by
  simp only[Qez]at hp;split at hp
  ·rename_i c' x y hcd hx hy;cases hp;have h':T ((ev tm c').onOne z λs=>s.Qfv z λt=>cond t (acode orc z call fz fuel x tm mu n k) (acode orc z call fz fuel y tm mu n k)):=h;obtain⟨s,e1,h1⟩:=Qes hz h';obtain⟨t,rfl,h2⟩:=Qf3 hz h1;have hev:∀ρ w (act:Act),TmR val ρ w tm act->act.eval c=.bool t:=λρ w act ht=>by
    have:=ht.ev hcd;rw[e1]at this;exact this
   cases t with
   |true=>
    obtain⟨e,tm1,mu1,n1,h3,h4⟩:=Qf5 hz hc hk hmx fuel a hx h2;exact⟨e,tm1,mu1,n1,h3,h4.1,λρ w act hr ht hf Q hQ=>Qhi (wp_cond_true (hev ρ w act ht) (h4.2 ρ w act hr ht hf Q hQ).1) (by intro b;simp)⟩
   |false=>
    obtain⟨e,tm1,mu1,n1,h3,h4⟩:=Qf5 hz hc hk hmx fuel b hy h2;exact⟨e,tm1,mu1,n1,h3,h4.1,λρ w act hr ht hf Q hQ=>Qhi (wp_cond_false (hev ρ w act ht) (h4.2 ρ w act hr ht hf Q hQ).1) (by intro b;simp)⟩
  ·cases hp
 |fuel+1,.block id a,ac,tm,mu,n,k,hp,h=>by
  simp only[Qez]at hp;obtain⟨x,hx,rfl⟩:=Option.map_eq_some_iff.1 hp;obtain⟨e,tm1,mu1,n1,h1,h2⟩:=Qf5 hz hc hk hmx fuel a hx (show T (acode orc z call fz fuel x tm mu n λe tm mu n=>AExit.rec (motive:=λ_=>R) (k .normal tm mu n) (λid'=>cond (Nat.beq id' id) (k .normal tm mu n) (k (.exit id') tm mu n)) (k .ret tm mu n) e)from h);cases e with
  |normal=>exact⟨.normal,tm1,mu1,n1,h1,h2.1,λρ w a hr ht hf Q hQ=>Qhi (wp_block (h2.2 ρ w a hr ht hf (Exit.inBlock id Q) hQ).1) (by intro b;simp)⟩
  |ret=>exact⟨.ret,tm1,mu1,n1,h1,h2.1,λρ w a hr ht hf Q hQ=>Qhi (wp_block (h2.2 ρ w a hr ht hf (Exit.inBlock id Q) hQ).1) (by intro b;simp)⟩
  |exit id'=>
   have h1':T (cond (Nat.beq id' id) (k .normal tm1 mu1 n1) (k (.exit id') tm1 mu1 n1)):=h1;cases hb:Nat.beq id' id with
   |true=>
    rw[hb]at h1';have:=Nat.eq_of_beq_eq_true hb;subst this;refine⟨.normal,tm1,mu1,n1,h1',h2.1,λρ w a hr ht hf Q hQ=>Qhi (wp_block (h2.2 ρ w a hr ht hf _ λa' w' hp=>?_).1) (by intro b;simp)⟩;show Exit.inBlock id' Q (.exit id') a' w';simp only[Exit.inBlock,if_true];exact hQ a' w' hp
   |false=>
    rw[hb]at h1';have:=Nat.ne_of_beq_eq_false hb;refine⟨.exit id',tm1,mu1,n1,h1',h2.1,λρ w a hr ht hf Q hQ=>Qhi (wp_block (h2.2 ρ w a hr ht hf _ λa' w' hp=>?_).1) (by intro b;simp)⟩;show Exit.inBlock id Q (.exit id') a' w';simp only[Exit.inBlock,this,if_false];exact hQ a' w' hp
 |fuel+1,.loop a,ac,tm,mu,n,k,hp,h=>by
  have hp0:=hp;simp only[Qez]at hp;obtain⟨x,hx,rfl⟩:=Option.map_eq_some_iff.1 hp;obtain⟨e,tm1,mu1,n1,h1,h2⟩:=Qf5 hz hc hk hmx fuel a hx (show T (acode orc z call fz fuel x tm mu n λe tm mu n=>AExit.rec (motive:=λ_=>R) (acode orc z call fz fuel (.loop x) tm mu n k) (λid=>k (.exit id) tm mu n) (k .ret tm mu n) e)from h);have lift:∀{Q:Exit->Act->World->Prop} {act:Act} {w:World},Code.rounds P a Q (fuel+1) act w->Goes P (fuel+1) (.loop a) Q act w:=λhr=>⟨wp_loop_rounds _ hr,λb e=>by cases e;exact hr⟩
  cases e with
  |normal=>
   obtain⟨e2,tm2,mu2,n2,h3,h4⟩:=Qf5 hz hc hk hmx fuel (.loop a) hp0 h1;refine⟨e2,tm2,mu2,n2,h3,Nat.le_trans h2.1 h4.1,λρ w act hr ht hf Q hQ=>lift ?_⟩;refine(h2.2 ρ w act hr ht (hf.sub (Nat.le_refl _) h4.1) (Exit.then (Code.rounds P a Q fuel) Q) λa1 w1 hp=>?_).1;obtain⟨d,ρ1,p1,p2,p3,p4,p5,p6⟩:=hp;refine(h4.2 ρ1 w1 a1 p2 p3 (hf.later p1 h2.1) Q λa2 w2 hp2=>hQ a2 w2 ?_).2 a rfl;exact PostS.trans d p1 p4 p5 p6 h2.1 h4.1 hp2
  |exit id=>exact⟨.exit id,tm1,mu1,n1,h1,h2.1,λρ w act hr ht hf Q hQ=>lift (h2.2 ρ w act hr ht hf (Exit.then (Code.rounds P a Q fuel) Q) hQ).1⟩
  |ret=>exact⟨.ret,tm1,mu1,n1,h1,h2.1,λρ w act hr ht hf Q hQ=>lift (h2.2 ρ w act hr ht hf (Exit.then (Code.rounds P a Q fuel) Q) hQ).1⟩
 |fuel+1,.scope a,ac,tm,mu,n,k,hp,h=>by
  simp only[Qez]at hp;obtain⟨e,tm1,mu1,n1,h1,h2⟩:=Qf5 hz hc hk hmx (fuel+1) a hp h;refine⟨e,tm1,mu1,n1,h1,h2.1,λρ w act hr ht hf Q hQ=>Qhi (wp_scope_straight (h2.2 ρ w act hr ht hf _ λa' w' hp=>?_).1) (by intro b;simp)⟩;cases e<;>exact hQ a' w' hp
 |fuel+1,.goto l,ac,tm,mu,n,k,hp,h=>by
  simp only[Qez,Option.some.injEq]at hp;subst hp;exact(hz h).elim
 |fuel+1,.rangeFunc ..,ac,tm,mu,n,k,hp,h=>by
  simp only[Qez,Option.some.injEq]at hp;subst hp;exact(hz h).elim
 |fuel+1,.refuse _,ac,tm,mu,n,k,hp,h=>by
  simp only[Qez,Option.some.injEq]at hp;subst hp;exact(hz h).elim
termination_by fuel c=>(fuel,SizeOf.sizeOf c)
end
end Go.Ev
namespace Go.Ev
def pad:Nat->List AV->List AV
 |0,_=>[]
 |m+1,[]=>noVal::pad m []
 |m+1,a::t=>a::pad m t
theorem Qjl:∀(m:Nat) (l:List AV),(pad m l).length=m
 |0,_=>rfl
 |m+1,[]=>by simp[pad,Qjl m]
 |m+1,a::t=>by simp[pad,Qjl m]
theorem Qr8:∀{m:Nat} {l:List AV} {t:Nat},t<m->(pad m l)[t]?=some ((l[t]?).getD noVal)
 |0,_,_,h=>by omega
 |m+1,[],0,_=>by simp[pad]
 |m+1,[],t+1,h=>by
  have:=Qr8 (m:=m) (l:=[]) (t:=t) (by omega);simpa[pad]using this
 |m+1,a::l,0,_=>by simp[pad]
 |m+1,a::l,t+1,h=>by simpa[pad]using Qr8 (m:=m) (l:=l) (t:=t) (by omega)
theorem chunk {last:List AV} (hl:last.length<=16):∀{rows:List (List AV)},(∀r∈rows,r.length=16)->∀t,get (rows++[last]) (t/16) (t%16)=((rows.flatten++last)[t]?).getD (.one .un)/\(inR (rows++[last]) (t/16) (t%16)->t<(rows.flatten++last).length)
 |[],_,t=>by
  simp only[List.nil_append,List.flatten_nil];rcases Nat.lt_or_ge t 16 with h|h
  ·have e1:t/16=0:=by omega
   have e2:t%16=t:=by omega
   rw[e1,e2];refine⟨?_,λ⟨row,h1,h2⟩=>?_⟩
   ·unfold get;simp[Qgr]
   ·simp at h1;subst h1;exact h2
  ·have e1:[last][t/16]?=none:=List.getElem?_eq_none (by simp;omega);refine⟨?_,λ⟨row,h1,h2⟩=>by rw[e1]at h1;cases h1⟩;unfold get;rw[Qgr,Qgr,e1];rw[List.getElem?_eq_none (l:=last) (by omega)];rfl
 |r::rows,hr,t=>by
  have hr0:=hr r (by simp);rcases Nat.lt_or_ge t 16 with h|h
  ·have e1:t/16=0:=by omega
   have e2:t%16=t:=by omega
   rw[e1,e2];refine⟨?_,λ_=>by simp;omega⟩;unfold get;simp only[Qgr,List.cons_append,List.getElem?_cons_zero,Option.getD_some,List.flatten_cons,List.append_assoc];rw[List.getElem?_append_left (by omega)]
  ·obtain⟨h1,h2⟩:=chunk hl (rows:=rows) (λr h=>hr r (by simp[h])) (t-16);have e1:t/16=(t-16)/16+1:=by omega
   have e2:t%16=(t-16)%16:=by omega
   rw[e1,e2];refine⟨?_,λ⟨row,g1,g2⟩=>?_⟩
   ·have:get (r::rows++[last]) ((t-16)/16+1) ((t-16)%16)=get (rows++[last]) ((t-16)/16) ((t-16)%16):=by
     unfold get;simp[Qgr]
    rw[this,h1];simp only[List.flatten_cons,List.append_assoc];rw[List.getElem?_append_right (l₁:=r) (by omega),hr0]
   ·have:=h2 ⟨row,by simpa using g1,g2⟩;simp only[List.flatten_cons,List.append_assoc,List.length_append]at*
    omega
theorem Qki {R:Type}:∀{m i:Nat} {args row:List AV} {acc:TM} {k:TM->R},row.length=i->i<=16->(∀r∈acc,r.length=16)->
 ∃rows last,rowsK m i args row acc k=k (rows++[last])/\(∀r∈rows,r.length=16)/\last.length<=16/\rows.flatten++last=acc.reverse.flatten++row.reverse++pad m args
 |0,i,args,row,acc,k,h1,h2,h3=>⟨acc.reverse,row.reverse,rfl,by simpa using h3,by simp;omega,by simp[pad]⟩
 |m+1,i,args,row,acc,k,h1,h2,h3=>by
  by_cases hi:i=16
  ·subst hi;cases args with
   |nil=>
    obtain⟨rows,last,g1,g2,g3,g4⟩:=Qki (m:=m) (i:=1) (args:=[]) (row:=[noVal]) (acc:=row.reverse::acc) (k:=k) rfl (by omega) (by simp;exact⟨h1,h3⟩);exact⟨rows,last,g1,g2,g3,by rw[g4];simp[pad]⟩
   |cons a t=>
    obtain⟨rows,last,g1,g2,g3,g4⟩:=Qki (m:=m) (i:=1) (args:=t) (row:=[a]) (acc:=row.reverse::acc) (k:=k) rfl (by omega) (by simp;exact⟨h1,h3⟩);exact⟨rows,last,g1,g2,g3,by rw[g4];simp[pad]⟩
  ·have hb:Nat.beq i 16=false:=by
    cases e:Nat.beq i 16 with
    |false=>rfl
    |true=>exact(hi (Nat.eq_of_beq_eq_true e)).elim
   cases args with
   |nil=>
    obtain⟨rows,last,g1,g2,g3,g4⟩:=Qki (m:=m) (i:=i+1) (args:=[]) (row:=noVal::row) (acc:=acc) (k:=k) (by simp[h1]) (by omega) h3;refine⟨rows,last,?_,g2,g3,by rw[g4];simp[pad]⟩;rw[<-g1];show cond (Nat.beq i 16) _ _=_;rw[hb];rfl
   |cons a t=>
    obtain⟨rows,last,g1,g2,g3,g4⟩:=Qki (m:=m) (i:=i+1) (args:=t) (row:=a::row) (acc:=acc) (k:=k) (by simp[h1]) (by omega) h3;refine⟨rows,last,?_,g2,g3,by rw[g4];simp[pad]⟩;rw[<-g1];show cond (Nat.beq i 16) _ _=_;rw[hb];rfl
section
variable {R:Type} {T:R->Prop} {z:R} {P:Program} {val:Nat->Int} {fz:Fz} {orc:Orc R} {call:CallT R}
theorem rows_TmR {m:Nat} {args:List AV} {k:TM->R} (h:T (rowsK m 0 args [] [] k)):∃tm,T (k tm)/\∀ρ w (xs:List Value),All2 (AVR val ρ w) args xs->TmR val ρ w tm {tmps:=xs.toArray++Array.replicate (m-xs.toArray.size) undef,defers:=[]}:=by
 obtain⟨rows,last,g1,g2,g3,g4⟩:=Qki (R:=R) (m:=m) (i:=0) (args:=args) (row:=[]) (acc:=[]) (k:=k) rfl (by omega) (by simp);rw[g1]at h;refine⟨_,h,λρ w xs hx=>?_⟩;have hL:rows.flatten++last=pad m args:=by rw[g4];simp
 have key:=chunk g3 g2;rw[hL]at key;refine⟨λt ht=>?_,λt=>?_⟩
 ·have:=(key t).2 ht;rw[Qjl]at this;simp;omega
 ·rw[(key t).1];rcases Nat.lt_or_ge t m with h1|h1
  ·rw[Qr8 h1];simp only[Option.getD_some,Array.getD_eq_getD_getElem?];rcases Nat.lt_or_ge t xs.length with h2|h2
   ·have h3:t<args.length:=by rw[hx.length];exact h2
    obtain⟨b,h4,h5⟩:=hx.get (List.getElem?_eq_getElem h3);rw[List.getElem?_eq_getElem h3,Option.getD_some,Array.getElem?_append_left (by simpa using h2)];simp only[List.getElem?_toArray,h4,Option.getD_some];exact h5
   ·rw[List.getElem?_eq_none (by rw[hx.length];exact h2),Array.getElem?_append_right (by simpa using h2)];rw[Array.getElem?_replicate];split
    ·exact⟨[],rfl,trivial⟩
    ·exact⟨[],rfl,trivial⟩
  ·rw[List.getElem?_eq_none (by rw[Qjl];exact h1)];trivial
def Qny (tmps:Array Value):ResultVar->Sem Value
 |.tmp t=>pure (tmps.getD t undef)
 |.cell a t=>do loadVar t (<-asAddr (tmps.getD a undef))
def ResR (P:Program):ResultVar->ARes->Prop
 |.tmp t,.tmp q r=>q=t/16/\r=t%16
 |.cell a t,.cell q r g n=>q=a/16/\r=a%16/\aggOf P t=some g/\szOf P t=some n
 |_,_=>False
theorem Qne:∀{l:List ResultVar} {rl:List ARes},Qi6 P l=some rl->All2 (ResR P) l rl
 |[],rl,h=>by simp[Qi6]at h;subst h;trivial
 |.tmp t::l,rl,h=>by
  simp only[Qi6]at h;obtain⟨r,h1,rfl⟩:=Option.map_eq_some_iff.1 h;exact⟨⟨rfl,rfl⟩,Qne h1⟩
 |.cell a t::l,rl,h=>by
  simp only[Qi6]at h;split at h
  ·rename_i g n r h1 h2 h3;split at h
   ·cases h;exact⟨⟨rfl,rfl,h1,h2⟩,Qne h3⟩
   ·cases h
  ·cases h
theorem Qlv (hz:¬T z) {rv:ResultVar} {r:ARes} {tm:TM} {mu:St} {k:AV->R} (hr:ResR P rv r) (h:T (Qk3 z fz r tm mu k)):∃v,T (k v)/\∀ρ w a,Rel val ρ fz mu w->TmR val ρ w tm a->∃x,(Qny a.tmps rv).run P w=.ok x w/\AVR val ρ w v x:=by
 cases rv with
 |tmp t=>cases r with
  |cell q r g n=>exact hr.elim
  |tmp q r=>
   obtain⟨rfl,rfl⟩:=hr;exact⟨_,h,λρ w a _ ht=>⟨a.tmps.getD t undef,by simp[Qny],ht.vals t⟩⟩
 |cell a t=>cases r with
  |tmp q r=>exact hr.elim
  |cell q r g n=>
   obtain⟨rfl,rfl,ha,hs⟩:=hr;have h':T ((get tm (a/16) (a%16)).onOne z λs=>s.onPtr z λid off=>Qhs fz mu id z λcs=>subK cs off n z λc=>asRes g c z k):=h;obtain⟨s,e1,h1⟩:=Qes hz h';obtain⟨id,off,rfl,h2⟩:=Qhu hz h1;obtain⟨cs,h3,h4⟩:=Qjd hz h2;obtain⟨h5,h6⟩:=Qin hz h4;obtain⟨v,h7,h8⟩:=Qk8 hz h6;refine⟨v,h8,λρ w act hrel ht=>?_⟩;have hv:=ht.vals a;rw[e1]at hv;obtain⟨p,hp,hx⟩:=hv;obtain⟨vs,g1,g2,g3,g4⟩:=(seen hrel h3).read (P:=P) hp h5;obtain⟨x,g5,g6⟩:=Qs0 ha hs g1 g2 g3 g4 h7;exact⟨x,by simp[Qny,hx,asAddr,g5],g6⟩
theorem Qxk (hz:¬T z) {v:AV} {k:CV->R} (h:T (toCV z v k)):∃c,T (k c)/\∀ρ w x,AVR val ρ w v x->CVR val ρ w c x:=by
 cases v with
 |one s=>exact⟨.one s,h,λ_ _ _ hx=>hx⟩
 |ag l=>exact⟨.ag l,h,λ_ _ _ hx=>hx⟩
 |tp l=>exact(hz h).elim
theorem Qlm (hz:¬T z):∀{l:List ResultVar} {rl:List ARes} {tm:TM} {mu:St} {k:List CV->R},All2 (ResR P) l rl->T (Qlt z fz rl tm mu k)->
 ∃cs,T (k cs)/\∀ρ w a,Rel val ρ fz mu w->TmR val ρ w tm a->∃xs:List Value,(l.mapM (Qny a.tmps)).run P w=.ok xs w/\xs.length=l.length/\All2 (CVR val ρ w) cs xs
 |[],[],tm,mu,k,_,h=>⟨[],h,λρ w a _ _=>⟨[],by simp,rfl,trivial⟩⟩
 |[],_::_,_,_,_,hl,_=>hl.elim
 |_::_,[],_,_,_,hl,_=>hl.elim
 |rv::l,r::rl,tm,mu,k,hl,h=>by
  obtain⟨v,h1,h2⟩:=Qlv (P:=P) (val:=val) hz hl.1 (show T (Qk3 z fz r tm mu λv=>toCV z v λc=>Qlt z fz rl tm mu λcs=>k (c::cs))from h);obtain⟨c,h3,h4⟩:=Qxk (val:=val) hz h1;obtain⟨cs,h5,h6⟩:=Qlm hz hl.2 h3;refine⟨c::cs,h5,λρ w a hr ht=>?_⟩;obtain⟨x,g1,g2⟩:=h2 ρ w a hr ht;obtain⟨xs,g3,gl,g4⟩:=h6 ρ w a hr ht;exact⟨x::xs,by simp[List.mapM_cons,g1,g3],by simp[gl],h4 _ _ _ g2,g4⟩
theorem Qj8 {fn:Func} {tmps:Array Value} {w:World} {xs:List Value} (h:(fn.results.toList.mapM (Qny tmps)).run P w=.ok xs w):
 (results fn tmps).run P w=.ok (if hx:xs.toArray.size=1 then xs.toArray[0]else .tuple xs.toArray) w:=by
 have e:results fn tmps=(fn.results.mapM (Qny tmps)) >>= λvs=>pure (if h:vs.size=1 then vs[0]else .tuple vs):=by
  unfold results;congr 1
 rw[e,Array.mapM_eq_mapM_toList];simp[h]
theorem Qod (hz:¬T z) {fn:Func} {rl:List ARes} {tm:TM} {mu:St} {k:AV->R} (hp:Qi6 P fn.results.toList=some rl) (h:T (resK z fz rl tm mu k)):
 ∃v,T (k v)/\∀ρ w a,Rel val ρ fz mu w->TmR val ρ w tm a->∃x,(results fn a.tmps).run P w=.ok x w/\AVR val ρ w v x:=by
 have hR:=Qne hp;generalize hl:fn.results.toList=l at hR;cases rl with
 |nil=>cases l with
  |cons _ _=>exact hR.elim
  |nil=>
   refine⟨.tp [],h,λρ w a _ _=>⟨_,Qj8 (xs:=[]) (by rw[hl];simp),[],by simp,trivial⟩⟩
 |cons r t=>cases l with
  |nil=>exact hR.elim
  |cons rv l=>
   cases t with
   |nil=>cases l with
    |cons _ _=>exact hR.2.elim
    |nil=>
     obtain⟨v,h1,h2⟩:=Qlv (P:=P) (val:=val) hz hR.1 (show T (Qk3 z fz r tm mu k)from h);refine⟨v,h1,λρ w a hr ht=>?_⟩;obtain⟨x,g1,g2⟩:=h2 ρ w a hr ht;exact⟨_,Qj8 (xs:=[x]) (by rw[hl];simp[g1]),by simpa using g2⟩
   |cons r2 t=>cases l with
    |nil=>exact hR.2.elim
    |cons rv2 l=>
     obtain⟨cs,h1,h2⟩:=Qlm (P:=P) (val:=val) hz hR (show T (Qlt z fz (r::r2::t) tm mu λcs=>k (.tp cs))from h);refine⟨_,h1,λρ w a hr ht=>?_⟩;obtain⟨xs,g1,gl,g2⟩:=h2 ρ w a hr ht;refine⟨_,Qj8 (xs:=xs) (by rw[hl];exact g1),?_⟩;have hlen:xs.toArray.size≠1:=by
      simp at gl;simp[gl]
     simp only[hlen,dite_false];exact⟨xs,rfl,g2⟩
abbrev Contract (R:Type):=List AV->Fz->St->Nat->(AV->St->Nat->R)->R
def Qjw (T:R->Prop) (P:Program) (val:Nat->Int) (f:Nat) (c:Contract R):Prop:=
 ∀args fz mu n k,T (c args fz mu n k)->∃v mu' n',T (k v mu' n')/\Qgw P f=true/\n<=n'/\∀ρ w (xs:List Value),Rel val ρ fz mu w->All2 (AVR val ρ w) args xs->Qgi ρ n n'->
  Calls P f xs.toArray w λe w'=>∃x,e=.returned x/\Post val ρ fz mu n w v mu' n' x w'
def Qr9 (P:Program) (F:Nat->Option AFunc):Prop:=∀f af,F f=some af->Qgw P f=true/\∃fn m,P.funcs[f]?=some fn/\Ql2 P m fn=some af
theorem Qmh (hz:¬T z) (hk:OrcOk T val orc) (hmx:P.follows .mixedOrders=true) {K:Nat->Option (Contract R)} {F:Nat->Option AFunc} (hK:∀f c,K f=some c->Qjw T P val f c) (hF:Qr9 P F) (big:Nat):
 ∀depth,Qf6 T P val (vcall orc z K F big depth)
 |0=>λf args fz mu n k h=>(hz h).elim
 |depth+1=>fun f args fz mu n k h=>by
  have ih:=Qmh hz hk hmx hK hF big depth;cases eK:K f with
  |some c=>
   have h':T (c args fz mu n k):=by
    unfold vcall at h;simp only[eK]at h;exact h
   exact hK f c eK args fz mu n k h'
  |none=>
   cases eF:F f with
   |none=>
    unfold vcall at h;simp only[eK,eF]at h;exact(hz h).elim
   |some af=>
    obtain⟨hb,fn,m,hfn,hp⟩:=hF f af eF;have h':T (cond (Nat.beq args.length af.nargs) (rowsK af.ntmps 0 args [] [] λtm=>acode orc z (vcall orc z K F big depth) fz big af.body tm mu n λe tm mu n=>
     AExit.rec (motive:=λ_=>R) (resK z fz af.res tm mu λv=>k v mu n) (λ_=>z) (resK z fz af.res tm mu λv=>k v mu n) e) z):=by
     unfold vcall at h;simp only[eK,eF]at h;exact h
    cases hb':Nat.beq args.length af.nargs with
    |false=>rw[hb']at h';exact(hz h').elim
    |true=>
     rw[hb']at h';unfold Ql2 at hp;cases hbody:fn.body with
     |none=>rw[hbody]at hp;cases hp
     |some c=>
      rw[hbody]at hp;simp only at hp;split at hp
      ·rename_i b r hpc hpr;cases hp;obtain⟨tm,h1,h2⟩:=rows_TmR (val:=val) (T:=T) h';obtain⟨e,tm',mu',n',h3,h4⟩:=Qf5 (P:=P) (val:=val) hz ih hk hmx big c hpc h1;have h5:T (resK z fz r tm' mu' λv=>k v mu' n')/\(e=.normal\/e=.ret):=by
        cases e with
        |normal=>exact⟨h3,.inl rfl⟩
        |ret=>exact⟨h3,.inr rfl⟩
        |exit id=>exact(hz h3).elim
       obtain⟨h6,h7⟩:=h5;obtain⟨v,h8,h9⟩:=Qod (P:=P) (val:=val) hz hpr h6;refine⟨v,mu',n',h8,hb,h4.1,λρ w xs hr hx hf=>?_⟩;refine calls_of_wp hfn hbody (h4.2 ρ w _ hr (h2 ρ w xs hx) hf _ λa' w' hp=>?_).1;obtain⟨d,ρ',p1,p2,p3,p4,p5,p6⟩:=hp;obtain⟨x,g1,g2⟩:=h9 ρ' w' a' p2 p3;have:a'.defers=[]/\∃v_1,(results fn a'.tmps).run P w'=.ok v_1 w'/\∃x,Ending.returned v_1=.returned x/\Post val ρ fz mu n w v mu' n' x w':=
        ⟨d,x,g1,x,rfl,ρ',p1,p2,g2,p4,p5,p6⟩
       rcases h7 with rfl|rfl
       ·exact this
       ·exact this
      ·cases hp
end
end Go.Ev
namespace Go.Ev
section
variable {R:Type}
def onw (next:TM->St->Nat->R) (k:AExit->TM->St->Nat->R):AExit->TM->St->Nat->R:=λe tm mu n=>AExit.rec (motive:=λ_=>R) (next tm mu n) (λid=>k (.exit id) tm mu n) (k .ret tm mu n) e
def inB (id:Nat) (k:AExit->TM->St->Nat->R):AExit->TM->St->Nat->R:=λe tm mu n=>AExit.rec (motive:=λ_=>R) (k .normal tm mu n) (λid'=>cond (Nat.beq id' id) (k .normal tm mu n) (k (.exit id') tm mu n)) (k .ret tm mu n) e
def loopD (z:R) (a:TM->St->Nat->(AExit->TM->St->Nat->R)->R) (fuel:Nat):TM->St->Nat->(AExit->TM->St->Nat->R)->R:=
 Nat.rec (motive:=λ_=>TM->St->Nat->(AExit->TM->St->Nat->R)->R) (λ_ _ _ _=>z) (λ_ ih tm mu n k=>a tm mu n (onw (ih · · · k) k)) fuel
def dcode (orc:Orc R) (z:R) (call:CallT R) (fz:Fz) (fuel:Nat):ACode->TM->St->Nat->(AExit->TM->St->Nat->R)->R
 |.skip,tm,mu,n,k=>k .normal tm mu n
 |.reg ops,tm,mu,n,k=>runK orc z call fz ops tm mu n (k .normal)
 |.draw ops,tm,mu,n,k=>drawK orc z call fz ops tm mu n (k .normal)
 |.seq a b,tm,mu,n,k=>dcode orc z call fz fuel a tm mu n (onw (dcode orc z call fz fuel b · · · k) k)
 |.cond x a b,tm,mu,n,k=>(ev tm x).onOne z λs=>s.Qfv z λt=>cond t (dcode orc z call fz fuel a tm mu n k) (dcode orc z call fz fuel b tm mu n k)
 |.blk id a,tm,mu,n,k=>dcode orc z call fz fuel a tm mu n (inB id k)
 |.loop a,tm,mu,n,k=>loopD z (dcode orc z call fz fuel a) fuel tm mu n k
 |.exit id,tm,mu,n,k=>k (.exit id) tm mu n
 |.ret,tm,mu,n,k=>k .ret tm mu n
 |.bad,_,_,_,_=>z
end
section
variable {R:Type} {T:R->Prop} {z:R} {P:Program} {val:Nat->Int} {fz:Fz} {orc:Orc R} {call:CallT R}
def CodeD (P:Program) (val:Nat->Int) (fz:Fz) (c:Code) (tm:TM) (mu:St) (n:Nat) (e:AExit) (tm':TM) (mu':St) (n':Nat):Prop:=
 n<=n'/\∀ρ w a,Rel val ρ fz mu w->TmR val ρ w tm a->Qgi ρ n n'->∀(Q:Exit->Act->World->Prop),(∀a' w',PostS val ρ fz mu n w a tm' mu' n' a' w'->Q e.Qq6 a' w')->c.wp P Q a w
theorem Qjp {c:Code} {tm:TM} {mu:St} {n:Nat} {e:AExit} (h:∀(Q:Exit->Act->World->Prop) a w,Q e.Qq6 a w->c.wp P Q a w):CodeD P val fz c tm mu n e tm mu n:=
 ⟨Nat.le_refl _,λ_ w a hr ht _ Q hQ=>h Q a w (hQ a w (PostS.refl hr ht))⟩
theorem Qmz (hz:¬T z) {a:Code} {D:TM->St->Nat->(AExit->TM->St->Nat->R)->R}
 (ha:∀{tm:TM} {mu:St} {n:Nat} {k:AExit->TM->St->Nat->R},T (D tm mu n k)->∃e tm' mu' n',T (k e tm' mu' n')/\CodeD P val fz a tm mu n e tm' mu' n'):
 ∀(fuel:Nat) {tm:TM} {mu:St} {n:Nat} {k:AExit->TM->St->Nat->R},T (loopD z D fuel tm mu n k)->
 ∃e tm' mu' n',T (k e tm' mu' n')/\n<=n'/\∀ρ w act,Rel val ρ fz mu w->TmR val ρ w tm act->Qgi ρ n n'->∀(Q:Exit->Act->World->Prop),(∀a' w',PostS val ρ fz mu n w act tm' mu' n' a' w'->Q e.Qq6 a' w')->Code.rounds P a Q fuel act w
 |0,tm,mu,n,k,h=>(hz h).elim
 |fuel+1,tm,mu,n,k,h=>by
  obtain⟨e,tm1,mu1,n1,h1,h2⟩:=ha (show T (D tm mu n (onw (loopD z D fuel · · · k) k))from h);cases e with
  |normal=>
   obtain⟨e2,tm2,mu2,n2,h3,h4,h5⟩:=Qmz hz ha fuel (show T (loopD z D fuel tm1 mu1 n1 k)from h1);refine⟨e2,tm2,mu2,n2,h3,Nat.le_trans h2.1 h4,λρ w act hr ht hf Q hQ=>?_⟩;refine h2.2 ρ w act hr ht (hf.sub (Nat.le_refl _) h4) (Exit.then (Code.rounds P a Q fuel) Q) λa1 w1 hp=>?_;obtain⟨d,ρ1,p1,p2,p3,p4,p5,p6⟩:=hp;refine h5 ρ1 w1 a1 p2 p3 (hf.later p1 h2.1) Q λa2 w2 hp2=>hQ a2 w2 ?_;exact PostS.trans d p1 p4 p5 p6 h2.1 h4 hp2
  |exit id=>exact⟨.exit id,tm1,mu1,n1,h1,h2.1,λρ w act hr ht hf Q hQ=>h2.2 ρ w act hr ht hf (Exit.then (Code.rounds P a Q fuel) Q) hQ⟩
  |ret=>exact⟨.ret,tm1,mu1,n1,h1,h2.1,λρ w act hr ht hf Q hQ=>h2.2 ρ w act hr ht hf (Exit.then (Code.rounds P a Q fuel) Q) hQ⟩
theorem Qgf (hz:¬T z) (hc:Qf6 T P val call) (hk:OrcOk T val orc) (hmx:P.follows .mixedOrders=true) {m:Muts} {fuel:Nat}:∀(c:Code) {ac:ACode} {tm:TM} {mu:St} {n:Nat} {k:AExit->TM->St->Nat->R},Qez P m c=some ac->T (dcode orc z call fz fuel ac tm mu n k)->
 ∃e tm' mu' n',T (k e tm' mu' n')/\CodeD P val fz c tm mu n e tm' mu' n'
 |.skip,ac,tm,mu,n,k,hp,h=>by
  simp only[Qez,Option.some.injEq]at hp;subst hp;exact⟨.normal,tm,mu,n,h,Qjp λQ a w hq=>wp_skip hq⟩
 |.label l,ac,tm,mu,n,k,hp,h=>by
  simp only[Qez,Option.some.injEq]at hp;subst hp;exact⟨.normal,tm,mu,n,h,Qjp λQ a w hq=>wp_label hq⟩
 |.exit id,ac,tm,mu,n,k,hp,h=>by
  simp only[Qez,Option.some.injEq]at hp;subst hp;exact⟨.exit id,tm,mu,n,h,Qjp λQ a w hq=>wp_exit hq⟩
 |.ret,ac,tm,mu,n,k,hp,h=>by
  simp only[Qez,Option.some.injEq]at hp;subst hp;exact⟨.ret,tm,mu,n,h,Qjp λQ a w hq=>wp_ret hq⟩
 |.region id ops false,ac,tm,mu,n,k,hp,h=>by
  simp only[Qez]at hp;split at hp
  ·rename_i al h1;cases hp;obtain⟨tm',mu',n',h2,h3,h4⟩:=Qla (P:=P) (val:=val) hz hc hk (Qhz h1) (show T (runK orc z call fz al tm mu n (k .normal))from h);exact⟨.normal,tm',mu',n',h2,h3,λρ w a hr ht hf Q hQ=>wp_region_list (h4 ρ w a hr ht hf Q hQ)⟩
  ·cases hp;exact(hz h).elim
 |.region id ops true,ac,tm,mu,n,k,hp,h=>by
  simp only[Qez]at hp;split at hp
  ·rename_i l h1;split at hp
   ·rename_i hok;cases hp;have hR:All2 (OpR P ops) ops.toList (modes l (ancs ops.toList [])):=by
     have hl:=Qhz h1;have hlen:(modes l (ancs ops.toList [])).length=ops.toList.length:=Qlu h1;refine All2.Qlq hlen.symm λi o ao ho hao=>?_;obtain⟨ao',h2,h3⟩:=hl.get ho;exact h3.same (Qp9 h2 hao)
    obtain⟨tm',mu',n',h2,h3,h4⟩:=Qnv (P:=P) (val:=val) (id:=id) hz hc hk hmx hok hR (show T (drawK orc z call fz _ tm mu n (k .normal))from h);exact⟨.normal,tm',mu',n',h2,h3,λρ w a hr ht hf Q hQ=>h4 ρ w a hr ht hf Q hQ⟩
   ·cases hp;exact(hz h).elim
  ·cases hp;exact(hz h).elim
 |.seq a b,ac,tm,mu,n,k,hp,h=>by
  simp only[Qez]at hp;split at hp
  ·rename_i x y hx hy;cases hp;obtain⟨e,tm1,mu1,n1,h1,h2⟩:=Qgf hz hc hk hmx a hx (show T (dcode orc z call fz fuel x tm mu n (onw (dcode orc z call fz fuel y · · · k) k))from h);cases e with
   |normal=>
    obtain⟨e2,tm2,mu2,n2,h3,h4⟩:=Qgf hz hc hk hmx b hy (show T (dcode orc z call fz fuel y tm1 mu1 n1 k)from h1);refine⟨e2,tm2,mu2,n2,h3,Nat.le_trans h2.1 h4.1,λρ w a hr ht hf Q hQ=>wp_seq ?_⟩;refine h2.2 ρ w a hr ht (hf.sub (Nat.le_refl _) h4.1) _ λa1 w1 hp=>?_;obtain⟨d,ρ1,p1,p2,p3,p4,p5,p6⟩:=hp;refine h4.2 ρ1 w1 a1 p2 p3 (hf.later p1 h2.1) Q λa2 w2 hp2=>hQ a2 w2 ?_;exact PostS.trans d p1 p4 p5 p6 h2.1 h4.1 hp2
   |exit id=>exact⟨.exit id,tm1,mu1,n1,h1,h2.1,λρ w a hr ht hf Q hQ=>wp_seq (h2.2 ρ w a hr ht hf (Exit.then (b.wp P Q) Q) hQ)⟩
   |ret=>exact⟨.ret,tm1,mu1,n1,h1,h2.1,λρ w a hr ht hf Q hQ=>wp_seq (h2.2 ρ w a hr ht hf (Exit.then (b.wp P Q) Q) hQ)⟩
  ·cases hp
 |.cond c a b,ac,tm,mu,n,k,hp,h=>by
  simp only[Qez]at hp;split at hp
  ·rename_i c' x y hcd hx hy;cases hp;have h':T ((ev tm c').onOne z λs=>s.Qfv z λt=>cond t (dcode orc z call fz fuel x tm mu n k) (dcode orc z call fz fuel y tm mu n k)):=h;obtain⟨s,e1,h1⟩:=Qes hz h';obtain⟨t,rfl,h2⟩:=Qf3 hz h1;have hev:∀ρ w (act:Act),TmR val ρ w tm act->act.eval c=.bool t:=λρ w act ht=>by
    have:=ht.ev hcd;rw[e1]at this;exact this
   cases t with
   |true=>
    obtain⟨e,tm1,mu1,n1,h3,h4⟩:=Qgf hz hc hk hmx a hx h2;exact⟨e,tm1,mu1,n1,h3,h4.1,λρ w act hr ht hf Q hQ=>wp_cond_true (hev ρ w act ht) (h4.2 ρ w act hr ht hf Q hQ)⟩
   |false=>
    obtain⟨e,tm1,mu1,n1,h3,h4⟩:=Qgf hz hc hk hmx b hy h2;exact⟨e,tm1,mu1,n1,h3,h4.1,λρ w act hr ht hf Q hQ=>wp_cond_false (hev ρ w act ht) (h4.2 ρ w act hr ht hf Q hQ)⟩
  ·cases hp
 |.block id a,ac,tm,mu,n,k,hp,h=>by
  simp only[Qez]at hp;obtain⟨x,hx,rfl⟩:=Option.map_eq_some_iff.1 hp;obtain⟨e,tm1,mu1,n1,h1,h2⟩:=Qgf hz hc hk hmx a hx (show T (dcode orc z call fz fuel x tm mu n (inB id k))from h);cases e with
  |normal=>exact⟨.normal,tm1,mu1,n1,h1,h2.1,λρ w a hr ht hf Q hQ=>wp_block (h2.2 ρ w a hr ht hf (Exit.inBlock id Q) hQ)⟩
  |ret=>exact⟨.ret,tm1,mu1,n1,h1,h2.1,λρ w a hr ht hf Q hQ=>wp_block (h2.2 ρ w a hr ht hf (Exit.inBlock id Q) hQ)⟩
  |exit id'=>
   have h1':T (cond (Nat.beq id' id) (k .normal tm1 mu1 n1) (k (.exit id') tm1 mu1 n1)):=h1;cases hb:Nat.beq id' id with
   |true=>
    rw[hb]at h1';have:=Nat.eq_of_beq_eq_true hb;subst this;refine⟨.normal,tm1,mu1,n1,h1',h2.1,λρ w a hr ht hf Q hQ=>wp_block (h2.2 ρ w a hr ht hf _ λa' w' hp=>?_)⟩;show Exit.inBlock id' Q (.exit id') a' w';simp only[Exit.inBlock,if_true];exact hQ a' w' hp
   |false=>
    rw[hb]at h1';have:=Nat.ne_of_beq_eq_false hb;refine⟨.exit id',tm1,mu1,n1,h1',h2.1,λρ w a hr ht hf Q hQ=>wp_block (h2.2 ρ w a hr ht hf _ λa' w' hp=>?_)⟩;show Exit.inBlock id Q (.exit id') a' w';simp only[Exit.inBlock,this,if_false];exact hQ a' w' hp
 |.loop a,ac,tm,mu,n,k,hp,h=>by
  simp only[Qez]at hp;obtain⟨x,hx,rfl⟩:=Option.map_eq_some_iff.1 hp;obtain⟨e,tm1,mu1,n1,h1,h2,h3⟩:=Qmz (P:=P) (val:=val) (fz:=fz) (a:=a) hz (λh=>Qgf hz hc hk hmx a hx h) fuel (show T (loopD z (dcode orc z call fz fuel x) fuel tm mu n k)from h);exact⟨e,tm1,mu1,n1,h1,h2,λρ w act hr ht hf Q hQ=>wp_loop_rounds _ (h3 ρ w act hr ht hf Q hQ)⟩
 |.scope a,ac,tm,mu,n,k,hp,h=>by
  simp only[Qez]at hp;obtain⟨e,tm1,mu1,n1,h1,h2⟩:=Qgf hz hc hk hmx a hp h;refine⟨e,tm1,mu1,n1,h1,h2.1,λρ w act hr ht hf Q hQ=>wp_scope_straight (h2.2 ρ w act hr ht hf _ λa' w' hp=>?_)⟩;cases e<;>exact hQ a' w' hp
 |.goto l,ac,tm,mu,n,k,hp,h=>by
  simp only[Qez,Option.some.injEq]at hp;subst hp;exact(hz h).elim
 |.rangeFunc ..,ac,tm,mu,n,k,hp,h=>by
  simp only[Qez,Option.some.injEq]at hp;subst hp;exact(hz h).elim
 |.refuse _,ac,tm,mu,n,k,hp,h=>by
  simp only[Qez,Option.some.injEq]at hp;subst hp;exact(hz h).elim
end
end Go.Ev
namespace Go.Ev
def isT (v:AV) (_:St) (_:Nat):Bool:=v.onOne false λs=>s.Qfv false λb=>b
theorem isT_elim {v:AV} {mu:St} {n:Nat} (h:isT v mu n=true):v=.one (.bool true):=by
 have hz:¬((false:Bool)=true):=by decide
 obtain⟨s,rfl,h1⟩:=Qes (T:=λb:Bool=>b=true) hz h;obtain⟨b,rfl,h2⟩:=Qf3 (T:=λb:Bool=>b=true) hz h1;rw[h2]
def Qvr (W w':World):Prop:=W.keptBut w' (λ_=>False)/\(∀a:Addr,a.block<W.heap.size->w'.frozen? a=W.frozen? a)/\W.heap.size<=w'.heap.size
theorem Qvr.frame {W w':World} (h:Qvr W w') (may:MemPlace->Prop):W.keptBut w' may:=World.keptBut_mono (λ_ f=>f.elim) h.1
theorem Fr.grown {ρ:Rho} {w w':World} (h:Fr ρ [] w w'):Qvr w w':=by
 have hk:∀i,i<w.heap.size->w'.heap[i]?=w.heap[i]?:=λi hi=>h.keep i hi λid p hl=>by cases hl
 refine⟨⟨h.os,h.output,λi hi=>?_⟩,λa ha=>?_,h.size⟩
 ·rw[hk i hi];cases e:w.heap[i]? with
  |none=>trivial
  |some o=>cases o<;>simp
 ·unfold World.frozen?;rw[hk _ ha]
section
open Go.ChangeShapes Go.WideShapes
variable {H:Type} {enc:TypeId×Value->H} {P:Program}
theorem Qou {f:Func} {s:ChangeSpec} {apart fresh handsOn again:Bool} {W W':World} {args:Array Value} {v:Value} {ds gs:List (DataW H)} {before pa pv:List MemPlace}
 (hW:DataW.Whole enc P f.params.toList s.vars apart W args.toList ds gs before)
 (hres:∀(b:Nat) (sp:Nat->Bool) (hd:Bool),DataW.TrodAll enc P W' b sp hd f.resultTypes.toList (v.resultList f.resultTypes.size) (s.fn H (ds++gs)).results [])
 (hargs:∀sp:Nat->Bool,(∀p∈before,sp p.block=true)->DataW.TrodAll enc P W' 0 sp true f.params.toList args.toList (s.fn H (ds++gs)).args pa)
 (hvars:∀sp:Nat->Bool,(∀p∈before,sp p.block=true)->DataW.TrodVars enc P W' sp s.vars (s.fn H (ds++gs)).vars pv)
 (hps:before=pa++pv) (hk:W.keptBut W' (· ∈before)) (hfz:∀a:Addr,a.block<W.heap.size->W'.frozen? a=W.frozen? a)
 (hok:∀(j:Nat) (t:TypeId) (r:Value),f.resultTypes[j]?=some t->(v.resultList f.resultTypes.size)[j]?=some r->Value.okWide P W' .any 0 t r):
 s.post enc P f apart fresh handsOn again W args v W':=by
 have hlt:=hW.lt;have hold:∀p∈before,(λb=>decide (b<W.heap.size)) p.block=true:=λp hp=>by simpa using hlt p hp
 refine⟨ds,gs,before,[],pa,pv,hW,hres _ _ _,hargs _ hold,hvars _ hold,World.keptBut_mono (λp hp=>⟨hp,?_⟩) hk,λ_=>?_⟩
 ·rw[hps,List.mem_append]at hp;exact Or.inr hp
 ·obtain⟨_,_,_,_,_,hz,hn⟩:=hW;refine⟨hok,_,_,([]++pa)++pv,⟨[]++pa,pv,trodAll_append (hargs _ (λ_ _=>rfl)) (hres _ _ _),hvars _ (λ_ _=>rfl),rfl,?_,?_⟩,?_⟩
  ·intro b off hp;have hp':MemPlace.cell b off∈before:=by rw[hps];simpa using hp
   rw[hfz _ (hlt _ hp')];exact hz b off hp'
  ·intro ha;have:=hn ha;rw[hps]at this;simpa using this
  ·intro p hp _;rw[hps];simpa using hp
end
theorem law_true {R:Type} {T:R->Prop} {z:R} (hz:¬T z) {P:Program} {val:Nat->Int} {orc:Orc R} {K:Nat->Option (Contract R)} {F:Nat->Option AFunc} {big depth f:Nat} {args:List AV} {isR:AV->St->Nat->R} (hR:∀v mu n,T (isR v mu n)->v=.one (.bool true)) (hk:OrcOk T val orc) (hmx:P.follows .mixedOrders=true)
 (hK:∀f c,K f=some c->Qjw T P val f c) (hF:Qr9 P F) (h:T (vcall orc z K F big depth f args (λ_=>none) [] 0 isR)) (w:World) (xs:List Value) (hx:All2 (AVR val (λ_=>none) w) args xs):
 Calls P f xs.toArray w λe w'=>e=.returned (.bool true)/\Fr (λ_=>none) [] w w':=by
 obtain⟨v,mu',n',h1,_,h2,h3⟩:=Qmh (T:=T) hz hk hmx hK hF big depth f args (λ_=>none) [] 0 isR h;have:=hR _ _ _ h1;subst this;refine(h3 (λ_=>none) w xs ⟨λid cs h=>(by cases h),λid cs h=>(by cases h),λid cs h=>(by cases h),λid id' p p' h=>(by cases h)⟩ hx λ_ _ _=>rfl).mono λe w' ⟨x,e1,ρ',p1,p2,p3,p4,p5,p6⟩=>?_;subst e1;have hx:x=.bool true:=p3;subst hx;exact⟨rfl,p4⟩
inductive FTree where
 |nil
 |node (k:Nat) (f:AFunc) (l r:FTree)
def FTree.find (t:FTree) (f:Nat):Option AFunc:=
 FTree.rec (motive:=λ_=>Option AFunc) none (λk v _ _ ihl ihr=>cond (Nat.blt f k) ihl (cond (Nat.blt k f) ihr (some v))) t
def FOk (P:Program) (f:Nat) (af:AFunc):Prop:=Qgw P f=true/\∃fn m,P.funcs[f]?=some fn/\Ql2 P m fn=some af
def FTree.Ok (P:Program):FTree->Prop
 |.nil=>True
 |.node k v l r=>FOk P k v/\l.Ok P/\r.Ok P
theorem FTree.ok {P:Program}:∀{t:FTree},t.Ok P->Qr9 P t.find
 |.nil,_,f,af,h=>by cases h
 |.node k v l r,ht,f,af,h=>by
  have h':(cond (Nat.blt f k) (l.find f) (cond (Nat.blt k f) (r.find f) (some v)))=some af:=h;cases e1:Nat.blt f k with
  |true=>rw[e1]at h';exact FTree.ok ht.2.1 f af h'
  |false=>
   rw[e1]at h';cases e2:Nat.blt k f with
   |true=>rw[e2]at h';exact FTree.ok ht.2.2 f af h'
   |false=>
    rw[e2]at h';have h3:¬f<k:=λh=>by
     have h5:Nat.blt f k=true:=by rw[Nat.blt_eq];exact h
     rw[e1]at h5;cases h5
    have h4:¬k<f:=λh=>by
     have h5:Nat.blt k f=true:=by rw[Nat.blt_eq];exact h
     rw[e2]at h5;cases h5
    have:k=f:=by omega
    subst this;cases h';exact ht.1
def Qep (l:List Nat) (dy:Bool):Muts:=⟨λf=>l.any λx=>Nat.beq x f,dy⟩
end Go.Ev
namespace Go.Ev
theorem Rel.grow {val:Nat->Int} {ρ ρ0:Rho} {fz:Fz} {mu:St} {w w':World} (hr:Rel val ρ fz mu w) (hf:Fr ρ0 [] w w'):Rel val ρ fz mu w':=by
 have kp:∀b,b<w.heap.size->w'.heap[b]?=w.heap[b]?:=λb hb=>hf.keep b hb λid p hl=>(by cases hl)
 exact⟨λid cs hl=>(hr.rf id cs hl).mono (λ_ _ h=>h) hf.shape λp hp=>kp _ ((hr.rf id cs hl).lt hp),λid cs hl=>(hr.rm id cs hl).mono (λ_ _ h=>h) hf.shape λp hp=>kp _ ((hr.rm id cs hl).lt hp),hr.dm,hr.dj⟩
theorem Fr.any {ρ ρ0:Rho} {mu:St} {w w':World} (hf:Fr ρ0 [] w w'):Fr ρ mu w w':=
 ⟨hf.os,hf.tape,hf.output,hf.size,λb hb _=>hf.keep b hb λid p hl=>(by cases hl),hf.shape⟩
section
variable {R:Type} {T:R->Prop} {z:R} {P:Program} {val:Nat->Int}
def Qsi (P:Program) (f:Nat):Prop:=∀w,Calls P f #[] w λe w'=>e=.returned (.bool true)/\Fr (λ_=>none) [] w w'
end
def noOrc {R:Type} (z:R):Orc R:=⟨λ_ _ _ _ _=>z,λ_ _ _ _ _=>z,λ_ _ _=>z,λ_ _=>z,true⟩
theorem noOrc_ok {R:Type} {T:R->Prop} {z:R} (hz:¬T z) (val:Nat->Int):OrcOk T val (noOrc z):=⟨λ_ _ _ _ _ h=>(hz h).elim,λ_ _ _ _ _ h=>(hz h).elim,λ_ _ _ h=>(hz h).elim,λ_ _ h=>(hz h).elim⟩
end Go.Ev
