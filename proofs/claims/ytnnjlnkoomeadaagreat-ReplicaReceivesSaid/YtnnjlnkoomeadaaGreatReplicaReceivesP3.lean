/-
  ReplicaReceives: part 3 of what the proof is made of.
-/
import Derived.Test.YtnnjlnkoomeadaaGreatReplicaReceivesP2
set_option linter.unusedVariables false
set_option linter.unusedSimpArgs false
noncomputable section
namespace Go.Ev
theorem nr {α:Sort _} {a b:α} (h:a=b):a=b:=h
abbrev v0:Nat->Int:=λ_=>0
def CallS (P:Program) (f:Nat) (args:List AV) (fz:Fz) (mu:St) (n:Nat) (v:AV) (mu':St) (n':Nat):Prop:=
 Qgw P f=true/\n<=n'/\∀ρ w (xs:List Value),Rel v0 ρ fz mu w->All2 (AVR v0 ρ w) args xs->Qgi ρ n n'->
  Calls P f xs.toArray w λe w'=>∃x,e=.returned x/\Post v0 ρ fz mu n w v mu' n' x w'
def CP (P:Program):CallT Prop:=λf args fz mu n k=>∃v mu' n',k v mu' n'/\CallS P f args fz mu n v mu' n'
theorem CP_sound {P:Program}:Qf6 (λp:Prop=>p) P v0 (CP P):=λ_ _ _ _ _ _ ⟨v,mu',n',h,h1,h2,h3⟩=>⟨v,mu',n',h,h1,h2,h3⟩
def pOrc:Orc Prop:=⟨λ_ _ _ _ _=>False,λ_ _ _ _ _=>False,λ_ _ _=>False,λ_ _=>False,false⟩
theorem pOrc_ok:OrcOk (λp:Prop=>p) v0 pOrc:=⟨λ_ _ _ _ _ h=>h.elim,λ_ _ _ _ _ h=>h.elim,λ_ _ _ h=>h.elim,λ_ _ h=>h.elim⟩
def endP (fz:Fz) (res:List ARes) (k:KT Prop):AExit->TM->St->Nat->Prop:=λe tm mu n=>
 AExit.rec (motive:=λ_=>Prop) (resK False fz res tm mu λv=>k v mu n) (λ_=>False) (resK False fz res tm mu λv=>k v mu n) e
def rowE (nt:Nat) (e:Nat->Nat->AV) (q:Nat):List AV:=(List.range (min 16 (nt-16*q))).map (e q)
def tmE (nt:Nat) (e:Nat->Nat->AV):TM:=(List.range ((nt+15)/16)).map (rowE nt e)
def updE (e:Nat->Nat->AV) (q r:Nat) (v:AV):Nat->Nat->AV:=λq' r'=>if q'=q/\r'=r then v else e q' r'
def envI (args:List AV):Nat->Nat->AV:=λq r=>(args[16*q+r]?).getD noVal
theorem Ql8 {nt:Nat} {e:Nat->Nat->AV} {q r:Nat}:(rowE nt e q)[r]?=if r<16/\16*q+r<nt then some (e q r)else none:=by
 unfold rowE;rw[List.getElem?_map];by_cases h:r<16/\16*q+r<nt
 ·rw[List.getElem?_range (by omega),if_pos h];rfl
 ·rw[List.getElem?_eq_none (by simp;omega),if_neg h];rfl
theorem Qjc {nt:Nat} {e:Nat->Nat->AV} {q:Nat}:(tmE nt e)[q]?=if 16*q<nt then some (rowE nt e q)else none:=by
 unfold tmE;rw[List.getElem?_map];by_cases h:16*q<nt
 ·rw[List.getElem?_range (by omega),if_pos h];rfl
 ·rw[List.getElem?_eq_none (by simp;omega),if_neg h];rfl
theorem Qu0 {nt:Nat} {e:Nat->Nat->AV} {q r:Nat} (h1:r<16) (h2:16*q+r<nt):get (tmE nt e) q r=e q r:=by
 unfold get;rw[Qgr,Qgr,Qjc,if_pos (by omega),Option.getD_some,Ql8,if_pos ⟨h1,h2⟩];rfl
theorem set_tmE {nt:Nat} {e:Nat->Nat->AV} {q r:Nat} {v:AV} (h1:r<16) (h2:16*q+r<nt):setT (tmE nt e) q r v=tmE nt (updE e q r v):=by
 unfold setT;apply List.ext_getElem?;intro q';rw[List.getElem?_set,Qgr,Qjc,Qjc,Qjc];have hl:(tmE nt e).length=(nt+15)/16:=by simp[tmE]
 by_cases hq:q=q'
 ·subst hq;rw[if_pos rfl,if_pos (by omega),if_pos (by omega),if_pos (by omega)];congr 1;rw[Option.getD_some];apply List.ext_getElem?;intro r';rw[List.getElem?_set,Ql8,Ql8];have hrl:(rowE nt e q).length=min 16 (nt-16*q):=by simp[rowE]
  by_cases hr:r=r'
  ·subst hr;rw[if_pos rfl,if_pos (by omega),if_pos ⟨h1,h2⟩];simp[updE]
  ·rw[if_neg hr];have:updE e q r v q r'=e q r':=by simp[updE];intro h;exact(hr h.symm).elim
   rw[this]
 ·rw[if_neg hq];by_cases h:16*q'<nt
  ·rw[if_pos h,if_pos h];congr 1;unfold rowE;congr 1;funext r';simp[updE];intro h;exact(hq h.symm).elim
  ·rw[if_neg h,if_neg h]
def updN (nt:Nat) (e:Nat->Nat->AV) (q r:Nat) (v:AV):Nat->Nat->AV:=if r<16/\16*q+r<nt then updE e q r v else e
theorem tmE_none {nt:Nat} {e:Nat->Nat->AV} {q r:Nat} {v:AV} (h:¬(r<16/\16*q+r<nt)):setT (tmE nt e) q r v=tmE nt e:=by
 unfold setT;apply List.ext_getElem?;intro q';rw[List.getElem?_set,Qgr,Qjc,Qjc];have hl:(tmE nt e).length=(nt+15)/16:=by simp[tmE]
 by_cases hq:q=q'
 ·subst hq;rw[if_pos rfl];by_cases hb:16*q<nt
  ·rw[if_pos (by omega),if_pos hb,Option.getD_some];congr 1;have hrl:(rowE nt e q).length=min 16 (nt-16*q):=by simp[rowE]
   apply List.ext_getElem?;intro r';rw[List.getElem?_set];by_cases hr:r=r'
   ·subst hr;rw[if_pos rfl,if_neg (by omega),List.getElem?_eq_none (by omega)]
   ·rw[if_neg hr]
  ·rw[if_neg (by omega),if_neg hb]
 ·rw[if_neg hq]
theorem set_N {nt:Nat} {e:Nat->Nat->AV} {q r:Nat} {v:AV}:setT (tmE nt e) q r v=tmE nt (updN nt e q r v):=by
 unfold updN;split
 ·rename_i h;exact set_tmE h.1 h.2
 ·rename_i h;exact tmE_none h
theorem tmE_out {nt:Nat} {e:Nat->Nat->AV} {q r:Nat} (h:inR (tmE nt e) q r):16*q+r<nt:=by
 obtain⟨row,h1,h2⟩:=h;rw[Qjc]at h1;split at h1
 ·cases h1;simp[rowE]at h2;omega
 ·cases h1
theorem envI_TmR {nt:Nat} {args:List AV} {ρ:Rho} {w:World} {xs:List Value} (hx:All2 (AVR v0 ρ w) args xs):TmR v0 ρ w (tmE nt (envI args)) {tmps:=xs.toArray++Array.replicate (nt-xs.toArray.size) undef,defers:=[]}:=by
 refine⟨λt ht=>?_,λt=>?_⟩
 ·have:=tmE_out ht;simp;omega
 ·by_cases ht:t<nt
  ·rw[Qu0 (by omega) (by omega)];unfold envI;rw[show 16*(t/16)+t%16=t by omega];by_cases h1:t<args.length
   ·obtain⟨b,h2,h3⟩:=hx.get (List.getElem?_eq_getElem h1);have h4:t<xs.length:=by rw[<-hx.length];exact h1
    rw[List.getElem?_eq_getElem h1,Option.getD_some,Array.getD_eq_getD_getElem?,Array.getElem?_append_left (by simpa using h4)];simp only[List.getElem?_toArray,h2,Option.getD_some];exact h3
   ·have h4:¬t<xs.length:=by rw[<-hx.length];exact h1
    rw[List.getElem?_eq_none (by omega),Array.getD_eq_getD_getElem?,Array.getElem?_append_right (by simpa using h4),Array.getElem?_replicate];split<;>exact⟨[],rfl,trivial⟩
  ·have:get (tmE nt (envI args)) (t/16) (t%16)=.one .un:=by
    unfold get;rw[Qgr,Qgr,Qjc];split
    ·rw[Option.getD_some,Ql8,if_neg (by omega)];rfl
    ·rfl
   rw[this];trivial
def textP (P:Program) (fuel:Nat) (af:AFunc) (args:List AV) (fz:Fz) (mu:St) (n:Nat) (k:KT Prop):Prop:=
 dcode pOrc False (CP P) fz fuel af.body (tmE af.ntmps (envI args)) mu n (endP fz af.res k)
theorem CP_of {P:Program} {f:Nat} {af:AFunc} {args:List AV} {fz:Fz} {mu:St} {n:Nat} {k:KT Prop} (hf:FOk P f af) (hmx:P.follows .mixedOrders=true) (fuel:Nat)
 (h:textP P fuel af args fz mu n k):CP P f args fz mu n k:=by
 have hz:¬(λp:Prop=>p) False:=λh=>h;obtain⟨hb,fn,m,hfn,hp⟩:=hf;unfold Ql2 at hp;cases hbody:fn.body with
 |none=>rw[hbody]at hp;cases hp
 |some c=>
  rw[hbody]at hp;simp only at hp;split at hp
  ·rename_i b r hpc hpr;cases hp;have h1:=h;have h2:=λρ w (xs:List Value) (hx:All2 (AVR v0 ρ w) args xs)=>envI_TmR (nt:=fn.ntmps) hx;obtain⟨e,tm',mu',n',h3,h4⟩:=Qgf (P:=P) (val:=v0) (T:=λp:Prop=>p) hz CP_sound pOrc_ok hmx c hpc h1;have h5:resK False fz r tm' mu' (λv=>k v mu' n')/\(e=.normal\/e=.ret):=by
    cases e with
    |normal=>exact⟨h3,.inl rfl⟩
    |ret=>exact⟨h3,.inr rfl⟩
    |exit id=>exact(h3:False).elim
   obtain⟨h6,h7⟩:=h5;obtain⟨v,h8,h9⟩:=Qod (P:=P) (val:=v0) (T:=λp:Prop=>p) hz hpr h6;refine⟨v,mu',n',h8,hb,h4.1,λρ w xs hr hx hf=>?_⟩;refine calls_of_wp hfn hbody (h4.2 ρ w _ hr (h2 ρ w xs hx) hf _ λa' w' hp=>?_);obtain⟨d,ρ',p1,p2,p3,p4,p5,p6⟩:=hp;obtain⟨x,g1,g2⟩:=h9 ρ' w' a' p2 p3;have:a'.defers=[]/\∃v_1,(results fn a'.tmps).run P w'=.ok v_1 w'/\∃x,Ending.returned v_1=.returned x/\Post v0 ρ fz mu n w v mu' n' x w':=
    ⟨d,x,g1,x,rfl,ρ',p1,p2,g2,p4,p5,p6⟩
   rcases h7 with rfl|rfl
   ·exact this
   ·exact this
  ·cases hp
section
variable {fz:Fz} {mu:St} {n:Nat} {fu:Nat} {k:AExit->TM->St->Nat->Prop} {P:Program} {nt:Nat} {en:Nat->Nat->AV}
inductive W2 (a b:Prop):Type where|mk
inductive WK (k:KT Prop):Type where|mk
inductive WL (D:TM->St->Nat->(AExit->TM->St->Nat->Prop)->Prop) (k:AExit->TM->St->Nat->Prop):Type where|mk
def Br (t:Bool) (a b:Prop) (_:W2 a b):Prop:=cond t a b
theorem Br_true {a b:Prop} {w:W2 a b}:Br true a b w=a:=nr rfl
theorem Br_false {a b:Prop} {w:W2 a b}:Br false a b w=b:=nr rfl
theorem beq_t {b:Bool}:(b==true)=b:=by cases b<;>rfl
theorem beq_f {b:Bool}:(b==false)=!b:=by cases b<;>rfl
theorem Br_not {t:Bool} {a b:Prop} {w:W2 a b}:Br (!t) a b w=Br t b a .mk:=by cases t<;>rfl
theorem Qeo {t:Bool} {a b:Prop} {w:W2 a b} (h1:t=true->a) (h2:t=false->b):Br t a b w:=by cases t;exact h2 rfl;exact h1 rfl
def CPh (P:Program) (f:Nat) (args:List AV) (fz:Fz) (mu:St) (n:Nat) (k:KT Prop) (_:WK k):Prop:=CP P f args fz mu n k
def CPr (P:Program) (f:Nat) (args:List AV) (fz:Fz) (mu:St) (n:Nat) (k:KT Prop) (_:WK k):Prop:=CP P f args (with' mu fz) [] n λv new n'=>k v (new++mu) n'
def Lp (D:TM->St->Nat->(AExit->TM->St->Nat->Prop)->Prop) (fu:Nat) (tm:TM) (mu:St) (n:Nat) (k:AExit->TM->St->Nat->Prop) (_:WL D k):Prop:=loopD False D fu tm mu n k
theorem Qiy {D:TM->St->Nat->(AExit->TM->St->Nat->Prop)->Prop} {fu:Nat} {tm:TM} {k:AExit->TM->St->Nat->Prop} {w:WL D k}:Lp D (fu+1) tm mu n k w=D tm mu n (onw (λtm mu n=>Lp D fu tm mu n k .mk) k):=nr rfl
def Qh6 {α:Type} (o:Option α) (k:α->Prop):Prop:=Option.rec (motive:=λ_=>Prop) False k o
@[congr] theorem onSome_congr {α:Type} {o o':Option α} {k:α->Prop} (h:o=o'):Qh6 o k=Qh6 o' k:=by rw[h]
theorem Qmy {α:Type} {a:α} {k:α->Prop}:Qh6 (some a) k=k a:=nr rfl
def Need (c:Prop) (p:Prop):Prop:=c/\p
theorem Qmu {p:Prop}:Need True p=p:=by simp[Need]
@[congr] theorem onOne_congr {v v':AV} {z:Prop} {k:SV->Prop} (h:v=v'):v.onOne z k=v'.onOne z k:=by rw[h]
@[congr] theorem onAg_congr {v v':AV} {z:Prop} {k:List SV->Prop} (h:v=v'):v.onAg z k=v'.onAg z k:=by rw[h]
@[congr] theorem onTp_congr {v v':AV} {z:Prop} {k:List CV->Prop} (h:v=v'):v.onTp z k=v'.onTp z k:=by rw[h]
@[congr] theorem onCells_congr {v v':AV} {z:Prop} {k:List SV->Prop} (h:v=v'):v.onCells z k=v'.onCells z k:=by rw[h]
theorem onOne_p {s:SV} {z:Prop} {k:SV->Prop}:(AV.one s).onOne z k=k s:=nr rfl
theorem onAg_p {s:List SV} {z:Prop} {k:List SV->Prop}:(AV.ag s).onAg z k=k s:=nr rfl
theorem onTp_p {s:List CV} {z:Prop} {k:List CV->Prop}:(AV.tp s).onTp z k=k s:=nr rfl
theorem Qrp {s:SV} {z:Prop} {k:List SV->Prop}:(AV.one s).onCells z k=k [s]:=nr rfl
theorem Qug {s:List SV} {z:Prop} {k:List SV->Prop}:(AV.ag s).onCells z k=k s:=nr rfl
theorem onInt_p {kd:IntKind} {i:Int} {z:Prop} {k:IntKind->Int->Prop}:(SV.int kd i).onInt z k=k kd i:=nr rfl
theorem onBool_p {b:Bool} {z:Prop} {k:Bool->Prop}:(SV.bool b).Qfv z k=k b:=nr rfl
theorem onStr_p {l m:Nat} {z:Prop} {k:Nat->Nat->Prop}:(SV.str l m).onStr z k=k l m:=nr rfl
theorem onPtr_p {a b:Nat} {z:Prop} {k:Nat->Nat->Prop}:(SV.optr a b).onPtr z k=k a b:=nr rfl
theorem onSl_p {a b c d e:Nat} {z:Prop} {k:Nat->Nat->Nat->Nat->Nat->Prop}:(SV.osl a b c d e).onSl z k=k a b c d e:=nr rfl
theorem onFn_p {f:Nat} {c:List (Nat×Nat)} {z:Prop} {k:Nat->List (Nat×Nat)->Prop}:(SV.fn f c).onFn z k=k f c:=nr rfl
theorem dc_skip:dcode pOrc False (CP P) fz fu .skip (tmE nt en) mu n k=k .normal (tmE nt en) mu n:=nr rfl
theorem dc_reg {ops:List AOper}:dcode pOrc False (CP P) fz fu (.reg ops) (tmE nt en) mu n k=runK pOrc False (CP P) fz ops (tmE nt en) mu n (λtm mu n=>k .normal tm mu n):=nr rfl
theorem dc_draw {ops:List AOper}:dcode pOrc False (CP P) fz fu (.draw ops) (tmE nt en) mu n k=drawK pOrc False (CP P) fz ops (tmE nt en) mu n (λtm mu n=>k .normal tm mu n):=nr rfl
theorem Qm5 {a b:ACode}:dcode pOrc False (CP P) fz fu (.seq a b) (tmE nt en) mu n k=dcode pOrc False (CP P) fz fu a (tmE nt en) mu n (onw (λtm mu n=>dcode pOrc False (CP P) fz fu b tm mu n k) k):=nr rfl
theorem dc_cond {x:Od} {a b:ACode}:dcode pOrc False (CP P) fz fu (.cond x a b) (tmE nt en) mu n k=(ev (tmE nt en) x).onOne False λs=>s.Qfv False λt=>Br t (dcode pOrc False (CP P) fz fu a (tmE nt en) mu n k) (dcode pOrc False (CP P) fz fu b (tmE nt en) mu n k) .mk:=nr rfl
theorem dc_blk {id:Nat} {a:ACode}:dcode pOrc False (CP P) fz fu (.blk id a) (tmE nt en) mu n k=dcode pOrc False (CP P) fz fu a (tmE nt en) mu n (inB id k):=nr rfl
theorem dc_loop {a:ACode}:dcode pOrc False (CP P) fz fu (.loop a) (tmE nt en) mu n k=Lp (dcode pOrc False (CP P) fz fu a) fu (tmE nt en) mu n k .mk:=nr rfl
theorem dc_exit {id:Nat}:dcode pOrc False (CP P) fz fu (.exit id) (tmE nt en) mu n k=k (.exit id) (tmE nt en) mu n:=nr rfl
theorem dc_ret:dcode pOrc False (CP P) fz fu .ret (tmE nt en) mu n k=k .ret (tmE nt en) mu n:=nr rfl
theorem onw_n {next:TM->St->Nat->Prop}:onw next k .normal (tmE nt en) mu n=next (tmE nt en) mu n:=nr rfl
theorem onw_x {next:TM->St->Nat->Prop} {id:Nat}:onw next k (.exit id) (tmE nt en) mu n=k (.exit id) (tmE nt en) mu n:=nr rfl
theorem onw_r {next:TM->St->Nat->Prop}:onw next k .ret (tmE nt en) mu n=k .ret (tmE nt en) mu n:=nr rfl
theorem inB_n {id:Nat}:inB id k .normal (tmE nt en) mu n=k .normal (tmE nt en) mu n:=nr rfl
theorem inB_same {id:Nat}:inB id k (.exit id) (tmE nt en) mu n=k .normal (tmE nt en) mu n:=by
 show cond (Nat.beq id id) _ _=_;rw[show Nat.beq id id=true by simp];rfl
theorem inB_x {id id':Nat} (h:¬id'=id):inB id k (.exit id') (tmE nt en) mu n=k (.exit id') (tmE nt en) mu n:=by
 show cond (Nat.beq id' id) _ _=_;rw[Qn7 h];rfl
theorem inB_r {id:Nat}:inB id k .ret (tmE nt en) mu n=k .ret (tmE nt en) mu n:=nr rfl
theorem endP_n {res:List ARes} {k:KT Prop}:endP fz res k .normal (tmE nt en) mu n=resK False fz res (tmE nt en) mu (λv=>k v mu n):=nr rfl
theorem endP_r {res:List ARes} {k:KT Prop}:endP fz res k .ret (tmE nt en) mu n=resK False fz res (tmE nt en) mu (λv=>k v mu n):=nr rfl
theorem run_nil {k:TM->St->Nat->Prop}:runK pOrc False (CP P) fz [] (tmE nt en) mu n k=k (tmE nt en) mu n:=nr rfl
theorem run_c0 {d:Option (Nat×Nat)} {op:AOp} {anc:List Nat} {ops:List AOper} {k:TM->St->Nat->Prop}:runK pOrc False (CP P) fz (⟨d,op,none,0,anc⟩::ops) (tmE nt en) mu n k=
 aop pOrc False (CP P) fz (tmE nt en) mu n false op λv mu n=>Qe8 (tmE nt en) d v λtm=>runK pOrc False (CP P) fz ops tm mu n k:=nr rfl
theorem run_c1 {d:Option (Nat×Nat)} {op:AOp} {anc:List Nat} {ops:List AOper} {k:TM->St->Nat->Prop}:runK pOrc False (CP P) fz (⟨d,op,none,1,anc⟩::ops) (tmE nt en) mu n k=
 aop pOrc False (CP P) fz (tmE nt en) mu n true op λv mu n=>Qe8 (tmE nt en) d v λtm=>runK pOrc False (CP P) fz ops tm mu n k:=nr rfl
theorem run_c2 {d:Option (Nat×Nat)} {op:AOp} {anc:List Nat} {ops:List AOper} {k:TM->St->Nat->Prop}:runK pOrc False (CP P) fz (⟨d,op,none,2,anc⟩::ops) (tmE nt en) mu n k=
 aop pOrc False (CP P) fz (tmE nt en) mu n false op λv mu n=>Qe8 (tmE nt en) d v λtm=>runK pOrc False (CP P) fz ops tm mu n k:=nr rfl
theorem run_c3 {d:Option (Nat×Nat)} {op:AOp} {anc:List Nat} {ops:List AOper} {k:TM->St->Nat->Prop}:runK pOrc False (CP P) fz (⟨d,op,none,3,anc⟩::ops) (tmE nt en) mu n k=
 aop pOrc False (CP P) fz (tmE nt en) mu n false op λv mu n=>Qe8 (tmE nt en) d v λtm=>runK pOrc False (CP P) fz ops tm mu n k:=nr rfl
theorem run_c4 {d:Option (Nat×Nat)} {op:AOp} {anc:List Nat} {ops:List AOper} {k:TM->St->Nat->Prop}:runK pOrc False (CP P) fz (⟨d,op,none,4,anc⟩::ops) (tmE nt en) mu n k=
 aop pOrc False (CP P) fz (tmE nt en) mu n false op λv mu n=>Qe8 (tmE nt en) d v λtm=>runK pOrc False (CP P) fz ops tm mu n k:=nr rfl
def wantP (v:AV) (b:Bool) (yes no:Prop):Prop:=AV.rec (motive:=λ_=>Prop) (λs=>s.Qfv False λt=>cond (t==b) yes no) (λ_=>False) (λl=>List.rec (motive:=λ_=>Prop) no (λ_ _ _=>False) l) v
@[congr] theorem wantP_congr {v v':AV} {b:Bool} {p q:Prop} (h:v=v'):wantP v b p q=wantP v' b p q:=by rw[h]
theorem Qv2 {b:Bool} {p q:Prop}:wantP (.one (.bool b)) b p q=p:=by cases b<;>rfl
theorem wantP_tf {p q:Prop}:wantP (.one (.bool true)) false p q=q:=nr rfl
theorem wantP_ft {p q:Prop}:wantP (.one (.bool false)) true p q=q:=nr rfl
theorem wantP_br {t b:Bool} {p q:Prop}:wantP (.one (.bool t)) b p q=Br (t==b) p q .mk:=nr rfl
theorem Qr7 {b:Bool} {p q:Prop}:wantP noVal b p q=q:=nr rfl
theorem Quy {b:Bool} {p q:Prop}:wantP (.tp []) b p q=q:=nr rfl
theorem run_g0 {d:Option (Nat×Nat)} {op:AOp} {q q':Nat} {b:Bool} {anc:List Nat} {ops:List AOper} {k:TM->St->Nat->Prop}:runK pOrc False (CP P) fz (⟨d,op,some (q,q',b),0,anc⟩::ops) (tmE nt en) mu n k=
 wantP (get (tmE nt en) q q') b (aop pOrc False (CP P) fz (tmE nt en) mu n false op λv mu n=>Qe8 (tmE nt en) d v λtm=>runK pOrc False (CP P) fz ops tm mu n k) (Qe8 (tmE nt en) d noVal λtm=>runK pOrc False (CP P) fz ops tm mu n k):=nr rfl
theorem run_g1 {d:Option (Nat×Nat)} {op:AOp} {q q':Nat} {b:Bool} {anc:List Nat} {ops:List AOper} {k:TM->St->Nat->Prop}:runK pOrc False (CP P) fz (⟨d,op,some (q,q',b),1,anc⟩::ops) (tmE nt en) mu n k=
 wantP (get (tmE nt en) q q') b (aop pOrc False (CP P) fz (tmE nt en) mu n true op λv mu n=>Qe8 (tmE nt en) d v λtm=>runK pOrc False (CP P) fz ops tm mu n k) (Qe8 (tmE nt en) d noVal λtm=>runK pOrc False (CP P) fz ops tm mu n k):=nr rfl
theorem run_g2 {d:Option (Nat×Nat)} {op:AOp} {q q':Nat} {b:Bool} {anc:List Nat} {ops:List AOper} {k:TM->St->Nat->Prop}:runK pOrc False (CP P) fz (⟨d,op,some (q,q',b),2,anc⟩::ops) (tmE nt en) mu n k=
 wantP (get (tmE nt en) q q') b (aop pOrc False (CP P) fz (tmE nt en) mu n false op λv mu n=>Qe8 (tmE nt en) d v λtm=>runK pOrc False (CP P) fz ops tm mu n k) (Qe8 (tmE nt en) d noVal λtm=>runK pOrc False (CP P) fz ops tm mu n k):=nr rfl
theorem run_g3 {d:Option (Nat×Nat)} {op:AOp} {q q':Nat} {b:Bool} {anc:List Nat} {ops:List AOper} {k:TM->St->Nat->Prop}:runK pOrc False (CP P) fz (⟨d,op,some (q,q',b),3,anc⟩::ops) (tmE nt en) mu n k=
 wantP (get (tmE nt en) q q') b (aop pOrc False (CP P) fz (tmE nt en) mu n false op λv mu n=>Qe8 (tmE nt en) d v λtm=>runK pOrc False (CP P) fz ops tm mu n k) (Qe8 (tmE nt en) d noVal λtm=>runK pOrc False (CP P) fz ops tm mu n k):=nr rfl
theorem run_g4 {d:Option (Nat×Nat)} {op:AOp} {q q':Nat} {b:Bool} {anc:List Nat} {ops:List AOper} {k:TM->St->Nat->Prop}:runK pOrc False (CP P) fz (⟨d,op,some (q,q',b),4,anc⟩::ops) (tmE nt en) mu n k=
 wantP (get (tmE nt en) q q') b (aop pOrc False (CP P) fz (tmE nt en) mu n false op λv mu n=>Qe8 (tmE nt en) d v λtm=>runK pOrc False (CP P) fz ops tm mu n k) (Qe8 (tmE nt en) d noVal λtm=>runK pOrc False (CP P) fz ops tm mu n k):=nr rfl
end
end Go.Ev
namespace Go.Ev
section
variable {fz:Fz} {tm:TM} {mu:St} {n:Nat} {P:Program} {ro:Bool} {k:KT Prop}
theorem Qgy {c:Bool} {p:Prop}:cond c p False=Need (c=true) p:=by cases c<;>simp[Need]
theorem Qp4 {c:Bool} {p:Prop}:cond c False p=Need (c=false) p:=by cases c<;>simp[Need]
theorem Qxy {l:List SV} {m:Nat} {k:List SV->Prop}:takeK l m False k=Need (m<=l.length) (k (l.take m)):=by
 induction l generalizing m k with
 |nil=>cases m with
  |zero=>show k []=_;simp[Need]
  |succ m=>show False=_;simp[Need]
 |cons h t ih=>cases m with
  |zero=>show k []=_;simp[Need]
  |succ m=>
   refine(ih (m:=m) (k:=λr=>k (h::r))).trans ?_;simp[Need]
theorem Qnr {l:List SV} {off m:Nat} {k:List SV->Prop}:subK l off m False k=Need (off+m<=l.length) (k ((l.drop off).take m)):=by
 induction l generalizing off k with
 |nil=>cases off with
  |zero=>cases m with
   |zero=>show k []=_;simp[Need]
   |succ m=>show False=_;simp[Need]
  |succ o=>show False=_;simp[Need]
 |cons h t ih=>cases off with
  |zero=>refine(Qxy (l:=h::t)).trans ?_;simp
  |succ o=>
   refine(ih (off:=o)).trans ?_;rw[show(o+1+m<=(h::t).length)=(o+m<=t.length) by simp;omega];rfl
theorem Qv9 {vs l:List SV} {k:List SV->Prop}:headK vs l False k=Need (vs.length<=l.length) (k (vs++l.drop vs.length)):=by
 induction vs generalizing l k with
 |nil=>show k l=_;simp[Need]
 |cons v vs ih=>cases l with
  |nil=>show False=_;simp[Need]
  |cons h t=>
   refine(ih (l:=t) (k:=λr=>k (v::r))).trans ?_;simp[Need]
theorem Qsc {l:List SV} {off:Nat} {vs:List SV} {k:List SV->Prop}:overK l off vs False k=Need (off+vs.length<=l.length) (k (over l off vs)):=by
 induction l generalizing off k with
 |nil=>cases off with
  |zero=>refine(Qv9 (vs:=vs) (l:=[])).trans ?_;simp[Need,over]
  |succ o=>show False=_;simp[Need]
 |cons h t ih=>cases off with
  |zero=>refine(Qv9 (vs:=vs) (l:=h::t)).trans ?_;simp[over]
  |succ o=>
   refine(ih (off:=o) (k:=λr=>k (h::r))).trans ?_;have e:(o+1+vs.length<=(h::t).length)=(o+vs.length<=t.length):=by simp;omega
   rw[e];simp only[over,List.take_succ_cons,List.cons_append];rw[show o+1+vs.length=(o+vs.length)+1 by omega,List.drop_succ_cons]
theorem Qo9 {cs:List SV} {k:List SV->Prop}:Qms False k cs=Need (mkd cs=false) (k cs):=Qp4
theorem Qmo {id:Nat} {k:List SV->Prop}:Qhs fz mu id False k=Qh6 (with' mu fz id) λcs=>Need (mkd cs=false) (k cs):=by
 unfold Qhs;rw[Qe5];cases look mu id with
 |some c=>exact Qo9
 |none=>cases fz id with
  |some c=>exact Qo9
  |none=>rfl
theorem Qo4 {id:Nat} {k:List SV->Prop}:Qh7 mu id False k=Qh6 (look mu id) λcs=>Need (mkd cs=false) (k cs):=by
 unfold Qh7;cases look mu id with
 |some c=>exact Qo9
 |none=>rfl
theorem asRes_ag {r:List SV} {k:AV->Prop}:asRes true r False k=k (.ag r):=nr rfl
theorem Qv7 {s:SV} {k:AV->Prop}:asRes false [s] False k=k (.one s):=nr rfl
@[congr] theorem asRes_congr {b:Bool} {r r':List SV} {z:Prop} {k:AV->Prop} (h:r=r'):asRes b r z k=asRes b r' z k:=by rw[h]
theorem over_0 {a b:SV} {l vs:List SV}:over (a::l) 0 (b::vs)=b::over l 0 vs:=by
 simp[over]
theorem rep_0 {z:List SV}:rep z 0=[]:=nr rfl
theorem rep_s {z:List SV} {n:Nat}:rep z (n+1)=z++rep z n:=nr rfl
theorem cast_lit {n:Nat}:(Nat.cast (no_index (OfNat.ofNat n)):Int)=OfNat.ofNat n:=nr rfl
theorem over_n {l:List SV}:over l 0 []=l:=by simp[over]
theorem over_s {a:SV} {l vs:List SV} {k:Nat}:over (a::l) (k+1) vs=a::over l k vs:=by
 simp only[over,List.take_succ_cons,List.cons_append];rw[show k+1+vs.length=(k+vs.length)+1 by omega,List.drop_succ_cons]
theorem Qer {i:Nat} {c:List SV} {s:St} {id:Nat}:look ((i,c)::s) id=if i=id then some c else look s id:=Qey _ _ _
theorem Qfl {i:Nat} {c:List SV} {s:St} {id:Nat}:with' ((i,c)::s) fz id=if i=id then some c else with' s fz id:=by
 rw[Qe5,Qer,Qe5];by_cases h:i=id
 ·simp only[h,if_true]
 ·simp only[h,if_false]
theorem with_nil:with' [] fz=fz:=nr rfl
theorem Qlk {i:Nat} {c d:List SV} {s:St} {id:Nat}:putS ((i,c)::s) id d=if i=id then(i,d)::s else(i,c)::putS s id d:=nr rfl
theorem killS_c {i:Nat} {c:List SV} {s:St} {id:Nat}:killS ((i,c)::s) id=if i=id then killS s id else(i,c)::killS s id:=nr rfl
theorem get_p {nt:Nat} {en:Nat->Nat->AV} {q r:Nat} (h1:Nat.blt r 16=true) (h2:Nat.blt (16*q+r) nt=true):get (tmE nt en) q r=en q r:=Qu0 (by simpa using h1) (by simpa using h2)
theorem ev_t {nt:Nat} {en:Nat->Nat->AV} {q r:Nat} (h1:Nat.blt r 16=true) (h2:Nat.blt (16*q+r) nt=true):ev (tmE nt en) (.t q r)=en q r:=get_p h1 h2
theorem Qw1 {nt:Nat} {en:Nat->Nat->AV} {q r:Nat} {v:AV} (h1:Nat.blt r 16=true) (h2:Nat.blt (16*q+r) nt=true):updN nt en q r v q r=v:=by
 unfold updN;rw[if_pos ⟨by simpa using h1,by simpa using h2⟩];simp[updE]
theorem updE_r {nt:Nat} {en:Nat->Nat->AV} {q r q' r':Nat} {v:AV} (h:¬r'=r):updN nt en q r v q' r'=en q' r':=by unfold updN;split<;>simp[updE,h]
theorem updE_q {nt:Nat} {en:Nat->Nat->AV} {q r q' r':Nat} {v:AV} (h:¬q'=q):updN nt en q r v q' r'=en q' r':=by unfold updN;split<;>simp[updE,h]
def mvK (v:AV) (k:AV->Prop):Prop:=k v
@[congr] theorem mvK_congr {v v':AV} {k:AV->Prop} (h:v=v'):mvK v k=mvK v' k:=by rw[h]
theorem mvK_one {s:SV} {k:AV->Prop}:mvK (.one s) k=k (.one s):=nr rfl
theorem mvK_ag {s:List SV} {k:AV->Prop}:mvK (.ag s) k=k (.ag s):=nr rfl
theorem mvK_tp {s:List CV} {k:AV->Prop}:mvK (.tp s) k=k (.tp s):=nr rfl
theorem mvK_no {k:AV->Prop}:mvK noVal k=k noVal:=nr rfl
theorem env_0 {a:AV} {l:List AV}:envI (a::l) 0 0=a:=rfl
theorem env_1 {a b:AV} {l:List AV}:envI (a::b::l) 0 1=b:=rfl
theorem env_2 {a b c:AV} {l:List AV}:envI (a::b::c::l) 0 2=c:=rfl
theorem env_3 {a b c d:AV} {l:List AV}:envI (a::b::c::d::l) 0 3=d:=rfl
theorem env_4 {a b c d e:AV} {l:List AV}:envI (a::b::c::d::e::l) 0 4=e:=rfl
theorem ev_c {v:AV}:ev tm (.c v)=v:=nr rfl
theorem Qv4 {v:AV} {k:TM->Prop}:Qe8 tm none v k=k tm:=nr rfl
theorem setDst_t {nt:Nat} {en:Nat->Nat->AV} {q r:Nat} {v:AV} {k:TM->Prop}:Qe8 (tmE nt en) (some (q,r)) v k=k (tmE nt (updN nt en q r v)):=by
 rw[<-set_N];exact Qoz _ _ _ _ _
theorem Qw9 {kd:IntKind} {i:Int}:SV.known (.int kd i)=true:=nr rfl
theorem Qty {b:Bool}:SV.known (.bool b)=true:=nr rfl
theorem Qw4 {l m:Nat}:SV.known (.str l m)=true:=nr rfl
theorem Qu8:SV.known .nsl=true:=nr rfl
theorem Qvp:SV.known .npt=true:=nr rfl
theorem Qwe:SV.known .nfn=true:=nr rfl
theorem Quh {a b:Nat}:SV.known (.optr a b)=true:=nr rfl
theorem Qvl {a b c d e:Nat}:SV.known (.osl a b c d e)=true:=nr rfl
theorem Qwc:SV.known .esl=true:=nr rfl
theorem Qvh:SV.known .zsl=true:=nr rfl
theorem known_fn {f:Nat} {c:List (Nat×Nat)}:SV.known (.fn f c)=true:=nr rfl
theorem Qll:Qeq []=true:=nr rfl
theorem Qgg {s:SV} {l:List SV}:Qeq (s::l)=(s.known&&Qeq l):=by
 show cond s.known (Qeq l) false=_;cases s.known<;>rfl
theorem Qlp {l m:List SV}:Qeq (l++m)=(Qeq l&&Qeq m):=by
 induction l with
 |nil=>simp[Qll]
 |cons a l ih=>rw[List.cons_append,Qgg,Qgg,ih,Bool.and_assoc]
theorem mkd_nil:mkd []=false:=nr rfl
theorem mkd_cons {s:SV} {l:List SV}:mkd (s::l)=s.isMk:=nr rfl
theorem mk_int {kd:IntKind} {i:Int}:SV.isMk (.int kd i)=false:=nr rfl
theorem mk_bool {b:Bool}:SV.isMk (.bool b)=false:=nr rfl
theorem mk_str {l m:Nat}:SV.isMk (.str l m)=false:=nr rfl
theorem mk_nsl:SV.isMk .nsl=false:=nr rfl
theorem mk_npt:SV.isMk .npt=false:=nr rfl
theorem mk_nfn:SV.isMk .nfn=false:=nr rfl
theorem mk_optr {a b:Nat}:SV.isMk (.optr a b)=false:=nr rfl
theorem mk_osl {a b c d e:Nat}:SV.isMk (.osl a b c d e)=false:=nr rfl
theorem mk_esl:SV.isMk .esl=false:=nr rfl
theorem mk_zsl:SV.isMk .zsl=false:=nr rfl
theorem mk_fn {f:Nat} {c:List (Nat×Nat)}:SV.isMk (.fn f c)=false:=nr rfl
def fT (v:AV) (p:Prop):Prop:=AV.rec (motive:=λ_=>Prop) (λs=>s.onSym p λ_ _=>False) (λ_=>p) (λ_=>p) v
@[congr] theorem fT_congr {v v':AV} {p:Prop} (h:v=v'):fT v p=fT v' p:=by rw[h]
theorem fT_int {kd:IntKind} {i:Int} {p:Prop}:fT (.one (.int kd i)) p=p:=nr rfl
theorem forceK_t {q r:Nat} {k:TM->Prop}:Qfj pOrc tm (.t q r) k=fT (ev tm (.t q r)) (k tm):=nr rfl
theorem forceK_c {v:AV} {k:TM->Prop}:Qfj pOrc tm (.c v) k=k tm:=nr rfl
theorem forceO_n {k:TM->Prop}:Qhf pOrc tm none k=k tm:=nr rfl
theorem forceO_s {x:Od} {k:TM->Prop}:Qhf pOrc tm (some x) k=Qfj pOrc tm x k:=nr rfl
theorem a_mv {x:Od}:aop pOrc False (CP P) fz tm mu n ro (.mv x) k=mvK (ev tm x) λv=>k v mu n:=nr rfl
theorem a_pick {c a b:Od}:aop pOrc False (CP P) fz tm mu n ro (.pick c a b) k=(ev tm c).onOne False λs=>s.Qfv False λt=>Br t (mvK (ev tm a) λv=>k v mu n) (mvK (ev tm b) λv=>k v mu n) .mk:=nr rfl
theorem a_alloc {z:List SV}:aop pOrc False (CP P) fz tm mu n ro (.alloc z) k=k (.one (.optr n 0)) ((n,z)::mu) (n+1):=by
 show fN (Nat.succ n) (λm=>k (.one (.optr n 0)) ((n,z)::mu) m)=_;rw[fN_eq]
theorem a_box {x:Od}:aop pOrc False (CP P) fz tm mu n ro (.box x) k=(ev tm x).onCells False λcs=>Need (Qeq cs=true) (k (.one (.optr n 0)) ((n,cs)::mu) (n+1)):=by
 show(ev tm x).onCells False (λcs=>cond (Qeq cs) (oNew mu n cs k) False)=_;congr 1;funext cs;rw[Qgy];unfold oNew;rw[fN_eq]
theorem fill_nil {cs:List SV} {k:List SV->Prop}:fill False tm [] cs k=k cs:=nr rfl
theorem Qvd {p:Nat×Nat×Od} {ps:List (Nat×Nat×Od)} {cs:List SV} {k:List SV->Prop}:fill False tm (p::ps) cs k=
 (ev tm p.2.2).onCells False λvs=>Need (Nat.beq vs.length p.2.1=true) (Need (Qeq vs=true) (Need (p.1+vs.length<=cs.length) (fill False tm ps (over cs p.1 vs) k))):=by
 show(ev tm p.2.2).onCells False (λvs=>lenK vs 0 λm=>cond (Nat.beq m p.2.1) (cond (Qeq vs) (overK cs p.1 vs False λcs=>fill False tm ps cs k) False) False)=_;congr 1;funext vs;rw[Qlb,Nat.zero_add,Qgy,Qgy,Qsc]
theorem a_build {z:List SV} {ps:List (Nat×Nat×Od)}:aop pOrc False (CP P) fz tm mu n ro (.build z ps) k=fill False tm ps z λcs=>k (.ag cs) mu n:=nr rfl
theorem a_bslice {s len:Nat} {z:List SV} {ps:List (Nat×Nat×Od)}:aop pOrc False (CP P) fz tm mu n ro (.bslice s len z ps) k=fill False tm ps (rep z len) λcs=>k (.one (.osl n 0 len len s)) ((n,cs)::mu) (n+1):=by
 show copyK (rep z len) (λcs=>fill False tm ps cs λcs=>fN (Nat.succ n) λm=>k (.one (.osl n 0 len len s)) ((n,cs)::mu) m)=_;rw[Qjx];rfl
theorem a_load {agg:Bool} {m:Nat} {x:Od}:aop pOrc False (CP P) fz tm mu n ro (.load agg m x) k=
 (ev tm x).onOne False λs=>s.onPtr False λid off=>Qh6 (with' mu fz id) λcs=>Need (mkd cs=false) (Need (off+m<=cs.length) (asRes agg ((cs.drop off).take m) False λv=>k v mu n)):=by
 show(ev tm x).onOne False (λs=>s.onPtr False λid off=>Qhs fz mu id False λcs=>subK cs off m False λr=>asRes agg r False λv=>k v mu n)=_;congr 1;funext s;congr 1;funext id off;rw[Qmo];congr 1;funext cs;rw[Qnr]
theorem a_store {m:Nat} {x v:Od}:aop pOrc False (CP P) fz tm mu n ro (.store m x v) k=
 (ev tm x).onOne False λs=>s.onPtr False λid off=>(ev tm v).onCells False λvs=>Need (Nat.beq vs.length m=true) (Need (Qeq vs=true) (Qh6 (look mu id) λcs=>Need (mkd cs=false) (Need (off+vs.length<=cs.length) (k noVal (putS mu id (over cs off vs)) n)))):=by
 show(ev tm x).onOne False (λs=>s.onPtr False λid off=>(ev tm v).onCells False λvs=>lenK vs 0 λl=>cond (Nat.beq l m) (oPut False mu id off vs λmu=>k noVal mu n) False)=_;congr 1;funext s;congr 1;funext id off;congr 1;funext vs;rw[Qlb,Nat.zero_add,Qgy];unfold oPut;rw[Qgy,Qo4];congr 2;congr 1;funext cs;rw[Qsc,Qmv]
theorem a_bin {op:BinOp} {x y:Od}:aop pOrc False (CP P) fz tm mu n ro (.bin op x y) k=(ev tm x).onOne False λs=>(ev tm y).onOne False λu=>u.onInt (u.onSym False λkd' j=>s.onInt False λkd a=>False) λkd' b=>s.onInt False λkd a=>Need (IntKind.eqb kd kd'=true) (binI op kd a b False λr=>k (.one r) mu n):=by
 show(ev tm x).onOne False (λs=>(ev tm y).onOne False λu=>_)=_;congr 1;funext s;congr 1;funext u;cases u<;>cases s<;>first|rfl|(show cond _ _ False=_;first|rw[Qgy];rfl|(cases IntKind.eqb _ _<;>rfl))|skip
def onNil (s:SV) (p:Prop):Prop:=SV.rec (motive:=λ_=>Prop) False (λ_ _=>False) (λ_=>False) (λ_ _=>False) False False False (λ_ _=>p) (λ_ _ _ _ _=>False) False False (λ_ _=>p) (λ_ _=>False) False (λ_=>False) False (λ_=>False) s
theorem onNil_p {a b:Nat} {p:Prop}:onNil (.optr a b) p=p:=nr rfl
theorem onNil_f {a:Nat} {l:List (Nat×Nat)} {p:Prop}:onNil (.fn a l) p=p:=nr rfl
theorem a_nilc {x:Od}:aop pOrc False (CP P) fz tm mu n ro (.nilc x) k=(ev tm x).onOne False λs=>onNil s (k (.one s) mu n):=nr rfl
theorem nil_nsl:nilness true .nsl=some true:=rfl
theorem nil_osl {a b c d e:Nat}:nilness true (.osl a b c d e)=some false:=rfl
theorem nil_esl:nilness true .esl=some false:=rfl
theorem nil_zsl:nilness true .zsl=some false:=rfl
theorem nil_npt:nilness false .npt=some true:=rfl
theorem nil_ptr {a b:Nat}:nilness false (.optr a b)=some false:=rfl
theorem a_sbin {op:BinOp} {x y:Od}:aop pOrc False (CP P) fz tm mu n ro (.sbin op x y) k=(ev tm x).onOne False λs=>s.onStr False λl a=>(ev tm y).onOne False λu=>u.onStr False λl' b=>Qm9 op l a l' b False λr=>k (.one r) mu n:=nr rfl
theorem a_eqb {neg:Bool} {x y:Od}:aop pOrc False (CP P) fz tm mu n ro (.eqb neg x y) k=(ev tm x).onOne False λs=>s.Qfv False λa=>(ev tm y).onOne False λu=>u.Qfv False λb=>k (.one (.bool (neg !=(a==b)))) mu n:=by
 show(ev tm x).onOne False (λs=>s.Qfv False λa=>(ev tm y).onOne False λu=>u.Qfv False λb=>fB (neg !=(a==b)) λr=>k (.one (.bool r)) mu n)=_;congr 1;funext s;congr 1;funext a;congr 1;funext u;congr 1;funext b;rw[fB_eq]
theorem a_eqn {sl neg:Bool} {x y:Od}:aop pOrc False (CP P) fz tm mu n ro (.eqn sl neg x y) k=(ev tm x).onOne False λs=>(ev tm y).onOne False λu=>Qh6 (nilness sl s) λa=>Qh6 (nilness sl u) λb=>Need ((a||b)=true) (k (.one (.bool (neg !=(a&&b)))) mu n):=by
 show(ev tm x).onOne False (λs=>(ev tm y).onOne False λu=>Option.rec (motive:=λ_=>Prop) False (λa=>Option.rec (motive:=λ_=>Prop) False (λb=>cond (a||b) (fB (neg !=(a&&b)) λr=>k (.one (.bool r)) mu n) False) (nilness sl u)) (nilness sl s))=_;congr 1;funext s;congr 1;funext u;cases nilness sl s with
 |none=>rfl
 |some a=>cases nilness sl u with
  |none=>rfl
  |some b=>show cond _ _ False=_;rw[Qgy,fB_eq];rfl
theorem a_eqs {ks:List Nat} {neg:Bool} {x y:Od}:aop pOrc False (CP P) fz tm mu n ro (.eqs ks neg x y) k=(ev tm x).onAg False λa=>(ev tm y).onAg False λb=>Qh6 (Qgm ks a b) λe=>k (.one (.bool (neg !=e))) mu n:=by
 show(ev tm x).onAg False (λa=>(ev tm y).onAg False λb=>Option.rec (motive:=λ_=>Prop) False (λe=>fB (neg !=e) λr=>k (.one (.bool r)) mu n) (Qgm ks a b))=_;congr 1;funext a;congr 1;funext b;cases Qgm ks a b with
 |none=>rfl
 |some e=>show fB _ _=_;rw[fB_eq];rfl
theorem a_not {x:Od}:aop pOrc False (CP P) fz tm mu n ro (.not x) k=(ev tm x).onOne False λs=>s.Qfv False λa=>k (.one (.bool (!a))) mu n:=by
 show(ev tm x).onOne False (λs=>s.Qfv False λa=>fB (not a) λr=>k (.one (.bool r)) mu n)=_;congr 1;funext s;congr 1;funext a;rw[fB_eq]
theorem a_neg {x:Od}:aop pOrc False (CP P) fz tm mu n ro (.neg x) k=Qfj pOrc tm x λtm=>(ev tm x).onOne False λs=>s.onInt False λkd a=>k (.one (.int kd (kd.wrap (0-a)))) mu n:=by
 show Qfj pOrc tm x (λtm=>(ev tm x).onOne False λs=>s.onInt False λkd a=>fI (kd.wrap (0-a)) λr=>k (.one (.int kd r)) mu n)=_;congr 1;funext tm;congr 1;funext s;congr 1;funext kd a;rw[fI_eq]
theorem a_conv {kd:IntKind} {x:Od}:aop pOrc False (CP P) fz tm mu n ro (.conv kd x) k=(ev tm x).onOne False λs=>s.onInt (s.onSym False λ_ _=>False) λ_ a=>k (.one (.int kd (kd.wrap a))) mu n:=by
 show(ev tm x).onOne False (λs=>s.onInt (s.onSym False λ_ i=>False) λ_ a=>wrapK kd a λr=>k (.one (.int kd r)) mu n)=_;congr 1;funext s;congr 1;funext _ a;rw[Qih]
theorem a_shr {x y:Od}:aop pOrc False (CP P) fz tm mu n ro (.shift false x y) k=Qfj pOrc tm x λtm=>Qfj pOrc tm y λtm=>(ev tm x).onOne False λs=>s.onInt False λkd a=>(ev tm y).onOne False λu=>u.onInt False λ_ b=>Need (0<=b) (k (.one (.int kd (a.fdiv (2^min b.toNat kd.bits)))) mu n):=by
 show Qfj pOrc tm x (λtm=>Qfj pOrc tm y λtm=>(ev tm x).onOne False λs=>s.onInt False λkd a=>(ev tm y).onOne False λu=>u.onInt False λ_ b=>cond (ltI b 0) False (fI (a.fdiv (2^min b.toNat kd.bits)) λn'=>k (.one (.int kd n')) mu n))=_;congr 1;funext tm;congr 1;funext tm;congr 1;funext s;congr 1;funext kd a;congr 1;funext u;congr 1;funext _ b;rw[Qp4,fI_eq,Qhe];simp
theorem Qwi {k:List (Nat×Nat)->Prop}:capsK False tm [] k=k []:=nr rfl
theorem Qtm {x:Od} {l:List Od} {k:List (Nat×Nat)->Prop}:capsK False tm (x::l) k=(ev tm x).onOne False λs=>s.onPtr False λid off=>capsK False tm l λr=>k ((id,off)::r):=nr rfl
theorem a_mkfn {f:Nat} {cs:List Od}:aop pOrc False (CP P) fz tm mu n ro (.mkfn f cs) k=capsK False tm cs λcs=>k (.one (.fn f cs)) mu n:=nr rfl
theorem a_mkslice {s b:Nat} {z:List SV} {l c:Od}:aop pOrc False (CP P) fz tm mu n ro (.mkslice s b z l c) k=Qfj pOrc tm l λtm=>Qfj pOrc tm c λtm=>(ev tm l).onOne False λa=>a.onInt False λka a=>(ev tm c).onOne False λd=>d.onInt False λkb d=>
 Need ((IntKind.eqb ka .i64&&IntKind.eqb kb .i64&&not (ltI a 0)&&not (ltI d a)&&fits d.toNat b)=true) (k (.one (.osl n 0 a.toNat a.toNat s)) ((n,rep z a.toNat)::mu) (n+1)):=by
 show Qfj pOrc tm l (λtm=>Qfj pOrc tm c λtm=>(ev tm l).onOne False λa=>a.onInt False λka a=>(ev tm c).onOne False λd=>d.onInt False λkb d=>
  cond (IntKind.eqb ka .i64&&IntKind.eqb kb .i64&&not (ltI a 0)&&not (ltI d a)&&fits d.toNat b) (fN a.toNat λm=>copyK (rep z m) λcs=>fN (Nat.succ n) λn'=>k (.one (.osl n 0 m m s)) ((n,cs)::mu) n') False)=_
 congr 1;funext tm;congr 1;funext tm;congr 1;funext a;congr 1;funext ka a;congr 1;funext d;congr 1;funext kb d;rw[Qgy,fN_eq,Qjx,fN_eq]
theorem a_slc {str:Bool} {s:Nat} {x:Od} {lo hi mx:Option Od}:aop pOrc False (CP P) fz tm mu n ro (.slc str s x lo hi mx) k=Qhf pOrc tm lo λtm=>Qhf pOrc tm hi λtm=>Qhf pOrc tm mx λtm=>(ev tm x).onOne False λv=>
 Need ((v.isStr==str)=true) (Qh6 (Qgl s v (lo.map (ev tm)) (hi.map (ev tm)) (mx.map (ev tm))) λr=>k (.one r) mu n):=by
 show Qhf pOrc tm lo (λtm=>Qhf pOrc tm hi λtm=>Qhf pOrc tm mx λtm=>(ev tm x).onOne False λv=>cond (v.isStr==str) (Option.rec (motive:=λ_=>Prop) False (λr=>fSV r λr=>k (.one r) mu n) (Qgl s v (lo.map (ev tm)) (hi.map (ev tm)) (mx.map (ev tm)))) False)=_;congr 1;funext tm;congr 1;funext tm;congr 1;funext tm;congr 1;funext v;rw[Qgy];congr 1;cases Qgl s v (lo.map (ev tm)) (hi.map (ev tm)) (mx.map (ev tm))with
 |none=>rfl
 |some r=>show fSV r _=_;rw[Qm6];rfl
theorem a_faddr {off:Nat} {x:Od}:aop pOrc False (CP P) fz tm mu n ro (.faddr off x) k=(ev tm x).onOne False λs=>s.onPtr False λid o=>k (.one (.optr id (o+off))) mu n:=by
 show(ev tm x).onOne False (λs=>s.onPtr False λid o=>fN (Nat.add o off) λo=>k (.one (.optr id o)) mu n)=_;congr 1;funext s;congr 1;funext id o;rw[fN_eq];rfl
theorem a_fld {off:Nat} {agg:Bool} {m:Nat} {x:Od}:aop pOrc False (CP P) fz tm mu n ro (.fld off agg m x) k=(ev tm x).onAg False λcs=>Need (off+m<=cs.length) (asRes agg ((cs.drop off).take m) False λv=>k v mu n):=by
 show(ev tm x).onAg False (λcs=>subK cs off m False λr=>asRes agg r False λv=>k v mu n)=_;congr 1;funext cs;rw[Qnr]
theorem a_iaddr {s:Nat} {x i:Od}:aop pOrc False (CP P) fz tm mu n ro (.iaddr s x i) k=Qfj pOrc tm i λtm=>(ev tm i).onOne False λi=>i.onInt False λ_ i=>(ev tm x).onOne False λv=>v.onSl False λid off len _ s'=>
 Need ((Nat.beq s' s&&not (ltI i 0)&&Nat.blt i.toNat len)=true) (k (.one (.optr id (off+i.toNat*s))) mu n):=by
 show Qfj pOrc tm i (λtm=>(ev tm i).onOne False λi=>i.onInt False λ_ i=>(ev tm x).onOne False λv=>v.onSl False λid off len _ s'=>cond (Nat.beq s' s&&not (ltI i 0)&&Nat.blt i.toNat len) (fN (Nat.add off (Nat.mul i.toNat s)) λo=>k (.one (.optr id o)) mu n) False)=_;congr 1;funext tm;congr 1;funext i;congr 1;funext _ i;congr 1;funext v;congr 1;funext id off len _ s';rw[Qgy,fN_eq];rfl
theorem a_iaddrA {s len:Nat} {x i:Od}:aop pOrc False (CP P) fz tm mu n ro (.iaddrA s len x i) k=Qfj pOrc tm i λtm=>(ev tm i).onOne False λi=>i.onInt False λ_ i=>(ev tm x).onOne False λv=>v.onPtr False λid off=>
 Need ((not (ltI i 0)&&Nat.blt i.toNat len)=true) (k (.one (.optr id (off+i.toNat*s))) mu n):=by
 show Qfj pOrc tm i (λtm=>(ev tm i).onOne False λi=>i.onInt False λ_ i=>(ev tm x).onOne False λv=>v.onPtr False λid off=>cond (not (ltI i 0)&&Nat.blt i.toNat len) (fN (Nat.add off (Nat.mul i.toNat s)) λo=>k (.one (.optr id o)) mu n) False)=_;congr 1;funext tm;congr 1;funext i;congr 1;funext _ i;congr 1;funext v;congr 1;funext id off;rw[Qgy,fN_eq];rfl
theorem a_idx {x i:Od}:aop pOrc False (CP P) fz tm mu n ro (.idx x i) k=Qfj pOrc tm i λtm=>(ev tm i).onOne False λi=>i.onInt False λ_ i=>(ev tm x).onOne False λv=>v.onStr False λl b=>
 Need (ltI i 0=false) (Need (Nat.blt i.toNat l=true) (k (.one (.int .u8 (Int.ofNat (b/256^(l-1-i.toNat)%256)))) mu n)):=by
 show Qfj pOrc tm i (λtm=>(ev tm i).onOne False λi=>i.onInt False λ_ i=>(ev tm x).onOne False λv=>v.onStr False λl b=>cond (ltI i 0) False (cond (Nat.blt i.toNat l) (fN (Nat.mod (Nat.div b (Nat.pow 256 (Nat.sub (Nat.pred l) i.toNat))) 256) λc=>k (.one (.int .u8 (Int.ofNat c))) mu n) False))=_;congr 1;funext tm;congr 1;funext i;congr 1;funext _ i;congr 1;funext v;congr 1;funext l b;rw[Qp4,Qgy,fN_eq];rfl
theorem nthK_0 {α:Type} {a:α} {l:List α} {k:α->Prop}:nthK (a::l) 0 False k=k a:=nr rfl
theorem nthK_s {α:Type} {a:α} {l:List α} {i:Nat} {k:α->Prop}:nthK (a::l) (i+1) False k=nthK l i False k:=nr rfl
def onCV (c:CV) (k:AV->Prop):Prop:=CV.rec (motive:=λ_=>Prop) (λs=>k (.one s)) (λl=>k (.ag l)) c
theorem onCV_one {s:SV} {k:AV->Prop}:onCV (.one s) k=k (.one s):=nr rfl
theorem onCV_ag {s:List SV} {k:AV->Prop}:onCV (.ag s) k=k (.ag s):=nr rfl
theorem a_extr {x:Od} {i:Nat}:aop pOrc False (CP P) fz tm mu n ro (.extr x i) k=(ev tm x).onTp False λps=>nthK ps i False λc=>onCV c λv=>k v mu n:=nr rfl
def onLen (s:SV) (k:Nat->Prop):Prop:=SV.rec (motive:=λ_=>Prop) False (λ_ _=>False) (λ_=>False) (λl _=>k l) (k 0) False False (λ_ _=>False) (λ_ _ len _ _=>k len) (k 0) (k 0) (λ_ _=>False) (λ_ _=>False) False (λ_=>False) False (λ_=>False) s
theorem Qvx {l b:Nat} {k:Nat->Prop}:onLen (.str l b) k=k l:=nr rfl
theorem Qvi {k:Nat->Prop}:onLen .nsl k=k 0:=nr rfl
theorem Qxc {k:Nat->Prop}:onLen .esl k=k 0:=nr rfl
theorem Qw8 {k:Nat->Prop}:onLen .zsl k=k 0:=nr rfl
theorem Qwk {a b c d e:Nat} {k:Nat->Prop}:onLen (.osl a b c d e) k=k c:=nr rfl
theorem a_len {str:Bool} {x:Od}:aop pOrc False (CP P) fz tm mu n ro (.len str x) k=(ev tm x).onOne False λs=>Need ((s.isStr==str)=true) (onLen s λl=>k (.one (.int .i64 (Int.ofNat l))) mu n):=by
 show(ev tm x).onOne False (λs=>cond (s.isStr==str) _ False)=_;congr 1;funext s;rw[Qgy];rfl
theorem Qu9 {l b:Nat}:SV.isStr (.str l b)=true:=nr rfl
theorem Qxx:SV.isStr .nsl=false:=nr rfl
theorem Qwq:SV.isStr .esl=false:=nr rfl
theorem Qxg:SV.isStr .zsl=false:=nr rfl
theorem Qvk {a b c d e:Nat}:SV.isStr (.osl a b c d e)=false:=nr rfl
theorem a_max {x:Od} {xs:List Od}:aop pOrc False (CP P) fz tm mu n ro (.max x xs) k=(ev tm x).onOne False λs=>maxK pOrc False (evs tm xs) s λr=>k (.one r) mu n:=nr rfl
theorem a_min {x:Od} {xs:List Od}:aop pOrc False (CP P) fz tm mu n ro (.min x xs) k=(ev tm x).onOne False λs=>minK pOrc False (evs tm xs) s λr=>k (.one r) mu n:=nr rfl
theorem maxK_nil {a:SV} {k:SV->Prop}:maxK pOrc False [] a k=k a:=nr rfl
theorem minK_nil {a:SV} {k:SV->Prop}:minK pOrc False [] a k=k a:=nr rfl
theorem maxK_int {kd:IntKind} {i j:Int} {l:List AV} {k:SV->Prop}:maxK pOrc False (.one (.int kd j)::l) (.int kd i) k=maxK pOrc False l (.int kd (max i j)) k:=by
 show cond (IntKind.eqb kd kd) ((λt=>cond t (maxK pOrc False l (.int kd j) k) (maxK pOrc False l (.int kd i) k)) (ltI i j)) False=_;have e:IntKind.eqb kd kd=true:=by cases kd<;>rfl
 rw[e,Qhe];by_cases h:i<j
 ·rw[show decide (i<j)=true by simpa using h,show max i j=j by omega];rfl
 ·rw[show decide (i<j)=false by simpa using h,show max i j=i by omega];rfl
theorem minK_int {kd:IntKind} {i j:Int} {l:List AV} {k:SV->Prop}:minK pOrc False (.one (.int kd j)::l) (.int kd i) k=minK pOrc False l (.int kd (min i j)) k:=by
 show cond (IntKind.eqb kd kd) ((λt=>cond t (minK pOrc False l (.int kd j) k) (minK pOrc False l (.int kd i) k)) (ltI j i)) False=_;have e:IntKind.eqb kd kd=true:=by cases kd<;>rfl
 rw[e,Qhe];by_cases h:j<i
 ·rw[show decide (j<i)=true by simpa using h,show min i j=j by omega];rfl
 ·rw[show decide (j<i)=false by simpa using h,show min i j=i by omega];rfl
theorem a_call0 {f:Od} {asl:List Od}:aop pOrc False (CP P) fz tm mu n false (.call f asl) k=(ev tm f).onOne False λs=>s.onFn False λg cs=>CPh P g (asl.map (ev tm)++Qij cs) fz mu n k .mk:=by
 show(ev tm f).onOne False (λs=>s.onFn False λg cs=>argsK tm asl (Qij cs) λvs=>CP P g vs fz mu n k)=_;congr 1;funext s;congr 1;funext g cs;rw[Qoj];rfl
theorem a_call1 {f:Od} {asl:List Od}:aop pOrc False (CP P) fz tm mu n true (.call f asl) k=(ev tm f).onOne False λs=>s.onFn False λg cs=>CPr P g (asl.map (ev tm)++Qij cs) fz mu n k .mk:=by
 show(ev tm f).onOne False (λs=>s.onFn False λg cs=>argsK tm asl (Qij cs) λvs=>CP P g vs (with' mu fz) [] n λv new n'=>joinK new mu λmu=>k v mu n')=_;congr 1;funext s;congr 1;funext g cs;rw[Qoj];show CP _ _ _ _ _ _ _=CP _ _ _ _ _ _ _;congr 1;funext v new n';rw[Qig]
theorem Qre:Qij []=[]:=nr rfl
theorem Qqn {p:Nat×Nat} {l:List (Nat×Nat)}:Qij (p::l)=.one (.optr p.1 p.2)::Qij l:=nr rfl
def onSrc (M:Fz) (s:Nat) (x:SV) (k:List SV->Nat->Prop):Prop:=
 SV.rec (motive:=λ_=>Prop) False (λ_ _=>False) (λ_=>False) (λl b=>Need (Nat.beq s 1=true) (k (Qlw (sB l b)) l)) (k [] 0) False False (λ_ _=>False)
  (λid off len _ s'=>Need (Nat.beq s' s=true) (Qh6 (M id) λcs=>Need (mkd cs=false) (Need (off+len*s<=cs.length) (k ((cs.drop off).take (len*s)) len)))) (k [] 0) (k [] 0) (λ_ _=>False) (λ_ _=>False) False (λ_=>False) False (λ_=>False) x
theorem srcK_p {s:Nat} {x:SV} {k:List SV->Nat->Prop}:srcK fz mu s x False k=onSrc (with' mu fz) s x k:=by
 cases x with
 |str l b=>show cond (Nat.beq s 1) (digK l b [] λr=>k r l) False=_;rw[Qgy,Qrx,List.append_nil];rfl
 |osl id off len c s'=>
  show cond (Nat.beq s' s) (Qhs fz mu id False λcs=>fN (Nat.mul len s) λm=>fN off λoff=>subK cs off m False λr=>k r len) False=_;rw[Qgy,Qmo];show Need _ _=Need _ _;congr 1;congr 1;funext cs;rw[fN_eq,fN_eq,Qnr];rfl
 |_=>rfl
theorem Qxr {M:Fz} {s:Nat} {k:List SV->Nat->Prop}:onSrc M s .nsl k=k [] 0:=nr rfl
theorem Qx9 {M:Fz} {s:Nat} {k:List SV->Nat->Prop}:onSrc M s .esl k=k [] 0:=nr rfl
theorem Qxn {M:Fz} {s:Nat} {k:List SV->Nat->Prop}:onSrc M s .zsl k=k [] 0:=nr rfl
theorem Qq2 {M:Fz} {s id off len c s':Nat} {k:List SV->Nat->Prop}:onSrc M s (.osl id off len c s') k=Need (Nat.beq s' s=true) (Qh6 (M id) λcs=>Need (mkd cs=false) (Need (off+len*s<=cs.length) (k ((cs.drop off).take (len*s)) len))):=nr rfl
theorem Qv0 {M:Fz} {l b:Nat} {k:List SV->Nat->Prop}:onSrc M 1 (.str l b) k=k (Qlw (sB l b)) l:=by show Need _ _=_;simp[Need]
def onApp (mu:St) (n s bytes:Nat) (x:SV) (src:List SV) (cnt:Nat) (k:KT Prop):Prop:=
 SV.rec (motive:=λ_=>Prop) False (λ_ _=>False) (λ_=>False) (λ_ _=>False) (Qln False mu n s bytes x src cnt k) False False (λ_ _=>False)
  (λid off len cap s'=>appOwn False mu n s bytes x id off len cap s' src cnt k) (Qln False mu n s bytes x src cnt k) False (λ_ _=>False) (λ_ _=>False) False (λ_=>False) False (λ_=>False) x
@[congr] theorem onApp_congr {s b:Nat} {x x':SV} {src src':List SV} {cnt cnt':Nat} (h:x=x') (h2:src=src') (h3:cnt=cnt'):onApp mu n s b x src cnt k=onApp mu n s b x' src' cnt' k:=by rw[h,h2,h3]
theorem a_append {s b:Nat} {x y:Od}:aop pOrc False (CP P) fz tm mu n ro (.append s b x y) k=(ev tm x).onOne False λx=>(ev tm y).onOne False λy=>onSrc (with' mu fz) s y λsrc cnt=>Need (Qeq src=true) (onApp mu n s b x src cnt k):=by
 show(ev tm x).onOne False (λx=>(ev tm y).onOne False λy=>srcK fz mu s y False λsrc cnt=>cond (Qeq src) _ False)=_;congr 1;funext x;congr 1;funext y;rw[srcK_p];congr 1;funext src cnt;rw[Qgy];rfl
theorem Qsp {s b:Nat} {x:SV} {src:List SV} {cnt:Nat} (h:cnt≠0):Qln False mu n s b x src cnt k=Need (fits cnt b=true) (k (.one (.osl n 0 cnt cnt s)) ((n,src)::mu) (n+1)):=by
 unfold Qln;rw[show Nat.beq cnt 0=false from Qn7 h];show cond _ _ False=_;rw[Qgy,fN_eq]
theorem Qup {s b:Nat} {src:List SV}:onApp mu n s b .nsl src 0 k=k (.one .nsl) mu n:=nr rfl
theorem Quo {s b:Nat} {src:List SV}:onApp mu n s b .esl src 0 k=k (.one .esl) mu n:=nr rfl
theorem Qn0 {s b id off len c s':Nat} {src:List SV}:onApp mu n s b (.osl id off len c s') src 0 k=k (.one (.osl id off len c s')) mu n:=nr rfl
theorem Qpm {s b:Nat} {src:List SV} {cnt:Nat} (h:cnt≠0):onApp mu n s b .nsl src cnt k=Need (fits cnt b=true) (k (.one (.osl n 0 cnt cnt s)) ((n,src)::mu) (n+1)):=Qsp h
theorem Qpw {s b:Nat} {src:List SV} {cnt:Nat} (h:cnt≠0):onApp mu n s b .esl src cnt k=Need (fits cnt b=true) (k (.one (.osl n 0 cnt cnt s)) ((n,src)::mu) (n+1)):=Qsp h
theorem Qvj {s b id off len c:Nat} {src cs:List SV} {cnt:Nat} (h:cnt≠0) (hl:look mu id=some cs) (hm:mkd cs=false) (hk:cs.length=off+len*s):onApp mu n s b (.osl id off len c s) src cnt k=
 Need (fits (len+cnt) b=true) (k (.one (.osl n 0 (len+cnt) (len+cnt) s)) ((n,cs.drop off++src)::killS mu id) (n+1)):=by
 show appOwn False mu n s b (.osl id off len c s) id off len c s src cnt k=_;unfold appOwn;rw[show Nat.beq cnt 0=false from Qn7 h];show cond _ _ False=_;rw[Qgy,Qo4,hl];have e1:(Nat.beq s s&&fits (len+cnt) b)=fits (len+cnt) b:=by rw[show Nat.beq s s=true by simp];rfl
 show Need ((Nat.beq s s&&fits (len+cnt) b)=true) _=_;rw[e1];congr 1;show Need (mkd cs=false) _=_;rw[show(mkd cs=false)=True by simp[hm],Qmu,fN_eq,Qnr];have e2:(off+Nat.mul len s<=cs.length)=True:=by simp only[Nat.mul_eq,eq_iff_iff,iff_true];omega
 rw[e2,Qmu,Qlb];have e3:Nat.beq (0+cs.length) (Nat.add off (Nat.mul len s))=true:=by
  rw[show Nat.add off (Nat.mul len s)=0+cs.length by simp only[Nat.add_eq,Nat.mul_eq];omega];simp
 rw[e3];show appK _ src _=_;rw[Qvc,Qjs,fN_eq,fN_eq];have e4:(cs.drop off).take (Nat.mul len s)=cs.drop off:=List.take_of_length_le (by simp only[Nat.mul_eq,List.length_drop];omega);rw[e4];rfl
theorem a_copy {s:Nat} {x y:Od}:aop pOrc False (CP P) fz tm mu n ro (.copy s x y) k=(ev tm x).onOne False λx=>x.onSl False λid off len _ s'=>(ev tm y).onOne False λy=>Need (Nat.beq s' s=true) (onSrc (with' mu fz) s y λsrc cnt=>
 Need (min cnt len*s<=src.length) (Need (Qeq (src.take (min cnt len*s))=true) (Qh6 (look mu id) λcs=>Need (mkd cs=false) (Need (off+(src.take (min cnt len*s)).length<=cs.length) (k (.one (.int .i64 (Int.ofNat (min cnt len)))) (putS mu id (over cs off (src.take (min cnt len*s)))) n))))):=by
 show(ev tm x).onOne False (λx=>x.onSl False λid off len _ s'=>(ev tm y).onOne False λy=>cond (Nat.beq s' s) (srcK fz mu s y False λsrc cnt=>fN (Nat.min cnt len) λm=>takeK src (Nat.mul m s) False λsrc=>oPut False mu id off src λmu=>k (.one (.int .i64 (Int.ofNat m))) mu n) False)=_;congr 1;funext x;congr 1;funext id off len _ s';congr 1;funext y;rw[Qgy,srcK_p];congr 1;congr 1;funext src cnt;rw[fN_eq,Qxy];show Need _ _=Need _ _;congr 1;unfold oPut;rw[Qgy,Qo4];congr 2;congr 1;funext cs;rw[Qsc,Qmv];rfl
theorem res_nil {k:AV->Prop}:resK False fz [] tm mu k=k (.tp []):=nr rfl
theorem res_one {r:ARes} {k:AV->Prop}:resK False fz [r] tm mu k=Qk3 False fz r tm mu k:=nr rfl
theorem res_more {r r':ARes} {l:List ARes} {k:AV->Prop}:resK False fz (r::r'::l) tm mu k=Qlt False fz (r::r'::l) tm mu λcs=>k (.tp cs):=nr rfl
theorem Qtq {k:List CV->Prop}:Qlt False fz [] tm mu k=k []:=nr rfl
def onTo (v:AV) (k:CV->Prop):Prop:=toCV False v k
theorem onTo_one {s:SV} {k:CV->Prop}:onTo (.one s) k=k (.one s):=nr rfl
theorem onTo_ag {s:List SV} {k:CV->Prop}:onTo (.ag s) k=k (.ag s):=nr rfl
theorem Qr0 {r:ARes} {l:List ARes} {k:List CV->Prop}:Qlt False fz (r::l) tm mu k=Qk3 False fz r tm mu λv=>onTo v λc=>Qlt False fz l tm mu λcs=>k (c::cs):=nr rfl
theorem resVal_t {q r:Nat} {k:AV->Prop}:Qk3 False fz (.tmp q r) tm mu k=mvK (ev tm (.t q r)) k:=nr rfl
theorem resVal_c {q r:Nat} {agg:Bool} {m:Nat} {k:AV->Prop}:Qk3 False fz (.cell q r agg m) tm mu k=(ev tm (.t q r)).onOne False λs=>s.onPtr False λid off=>Qh6 (with' mu fz id) λcs=>Need (mkd cs=false) (Need (off+m<=cs.length) (asRes agg ((cs.drop off).take m) False k)):=by
 show(ev tm (.t q r)).onOne False (λs=>s.onPtr False λid off=>Qhs fz mu id False λcs=>subK cs off m False λc=>asRes agg c False k)=_;congr 1;funext s;congr 1;funext id off;rw[Qmo];congr 1;funext cs;rw[Qnr]
theorem eqb_same {kd:IntKind}:IntKind.eqb kd kd=true:=by cases kd<;>rfl
theorem b_add {kd:IntKind} {a b:Int} {k:SV->Prop}:binI .add kd a b False k=k (.int kd (kd.wrap (a+b))):=Qih kd (Int.add a b) λn=>k (.int kd n)
theorem b_sub {kd:IntKind} {a b:Int} {k:SV->Prop}:binI .sub kd a b False k=k (.int kd (kd.wrap (a-b))):=Qih kd (Int.sub a b) λn=>k (.int kd n)
theorem b_mul {kd:IntKind} {a b:Int} {k:SV->Prop}:binI .mul kd a b False k=k (.int kd (kd.wrap (a*b))):=Qih kd (Int.mul a b) λn=>k (.int kd n)
theorem b_quo {kd:IntKind} {a b:Int} {k:SV->Prop}:binI .quo kd a b False k=Need (b≠0) (k (.int kd (kd.wrap (a.tdiv b)))):=by
 show cond (eqI b 0) False (fI (kd.wrap (a.tdiv b)) λn=>k (.int kd n))=_;rw[Qp4,fI_eq,Qit];simp
theorem b_rem {kd:IntKind} {a b:Int} {k:SV->Prop}:binI .rem kd a b False k=Need (b≠0) (k (.int kd (a.tmod b))):=by
 show cond (eqI b 0) False (fI (a.tmod b) λn=>k (.int kd n))=_;rw[Qp4,fI_eq,Qit];simp
theorem b_and {kd:IntKind} {a b:Int} {k:SV->Prop}:binI .and kd a b False k=k (.int kd (kd.wrap (BitVec.ofInt kd.bits a&&&BitVec.ofInt kd.bits b).toNat)):=fI_eq (kd.wrap (BitVec.ofInt kd.bits a&&&BitVec.ofInt kd.bits b).toNat) λn=>k (.int kd n)
theorem b_xor {kd:IntKind} {a b:Int} {k:SV->Prop}:binI .xor kd a b False k=k (.int kd (kd.wrap (BitVec.ofInt kd.bits a^^^BitVec.ofInt kd.bits b).toNat)):=fI_eq (kd.wrap (BitVec.ofInt kd.bits a^^^BitVec.ofInt kd.bits b).toNat) λn=>k (.int kd n)
theorem b_eql {kd:IntKind} {a b:Int} {k:SV->Prop}:binI .eql kd a b False k=k (.bool (decide (a=b))):=(fB_eq (eqI a b) λr=>k (.bool r)).trans (by rw[Qit])
theorem b_neq {kd:IntKind} {a b:Int} {k:SV->Prop}:binI .neq kd a b False k=k (.bool (!decide (a=b))):=(fB_eq (eqI a b) λr=>k (.bool (not r))).trans (by rw[Qit])
theorem b_lss {kd:IntKind} {a b:Int} {k:SV->Prop}:binI .lss kd a b False k=k (.bool (decide (a<b))):=(fB_eq (ltI a b) λr=>k (.bool r)).trans (by rw[Qhe])
theorem b_leq {kd:IntKind} {a b:Int} {k:SV->Prop}:binI .leq kd a b False k=k (.bool (decide (a<=b))):=by
 refine(fB_eq (ltI b a) λr=>k (.bool (not r))).trans ?_;rw[Qhe];congr 2;by_cases h:b<a
 ·have:¬a<=b:=by omega
  simp[h,this]
 ·have:a<=b:=by omega
  simp[h,this]
theorem b_gtr {kd:IntKind} {a b:Int} {k:SV->Prop}:binI .gtr kd a b False k=k (.bool (decide (b<a))):=(fB_eq (ltI b a) λr=>k (.bool r)).trans (by rw[Qhe])
theorem b_geq {kd:IntKind} {a b:Int} {k:SV->Prop}:binI .geq kd a b False k=k (.bool (decide (b<=a))):=by
 refine(fB_eq (ltI a b) λr=>k (.bool (not r))).trans ?_;rw[Qhe];congr 2;by_cases h:a<b
 ·have:¬b<=a:=by omega
  simp[h,this]
 ·have:b<=a:=by omega
  simp[h,this]
theorem s_neq {l a l' b:Nat} {k:SV->Prop}:Qm9 .neq l a l' b False k=k (.bool (!strEq l a l' b)):=fB_eq (strEq l a l' b) λr=>k (.bool (not r))
theorem s_eql {l a l' b:Nat} {k:SV->Prop}:Qm9 .eql l a l' b False k=k (.bool (strEq l a l' b)):=fB_eq (strEq l a l' b) λr=>k (.bool r)
theorem dc_at {nt:Nat} {en:Nat->Nat->AV} {fu:Nat} {c c':ACode} {k:AExit->TM->St->Nat->Prop} (h:c=c'):dcode pOrc False (CP P) fz fu c (tmE nt en) mu n k=dcode pOrc False (CP P) fz fu c' (tmE nt en) mu n k:=by rw[h]
theorem Qvq {a:Nat}:Nat.beq a a=true:=by simp
theorem bx1 {n:Nat}:(n+1=n)=False:=by simp
theorem bx2 {n:Nat}:(n=n+1)=False:=by simp
theorem bx3 {n:Nat}:(n+1+1=n)=False:=by simp;omega
theorem bx4 {n:Nat}:(n=n+1+1)=False:=by simp;omega
theorem bx5 {n:Nat}:(n+1+1+1=n)=False:=by simp;omega
theorem bx6 {n:Nat}:(n=n+1+1+1)=False:=by simp;omega
theorem cast_neg {a:Nat}:((a:Int)<0)=False:=by simp
theorem cast_lt {a b:Nat}:((a:Int)<(b:Int))=(a<b):=by simp
theorem cast_le {a b:Nat}:((a:Int)<=(b:Int))=(a<=b):=by simp
theorem castN_eq {a b:Nat}:((a:Int)=(b:Int))=(a=b):=propext Int.ofNat_inj
theorem cast_of {a:Nat}:Int.ofNat a=(a:Int):=nr rfl
theorem cast_nat {a:Nat}:(a:Int).toNat=a:=by simp
theorem blt_p {a b:Nat}:(Nat.blt a b=true)=(a<b):=by simp
theorem and_p {a b:Bool}:((a&&b)=true)=(a=true/\b=true):=by simp
theorem bool_tt:(true=true)=True:=by simp
theorem bool_ft:(false=true)=False:=by simp
theorem bool_tf:(true=false)=False:=by simp
theorem bool_ff:(false=false)=True:=by simp
theorem wrap64 {x:Int} (h1: -9223372036854775808<=x) (h2:x<9223372036854775808):IntKind.i64.wrap x=x:=by
 simp[IntKind.wrap,IntKind.bits,IntKind.signed];omega
end
end Go.Ev
namespace Go.Ev
section
variable {fz:Fz} {mu:St} {n:Nat} {P:Program} {nt:Nat} {en:Nat->Nat->AV} {ad:List St}
def nilK (new:St) (p:Prop):Prop:=List.rec (motive:=λ_=>Prop) p (λ_ _ _=>False) new
theorem nilK_nil {p:Prop}:nilK [] p=p:=nr rfl
theorem ads_nil:adsOf ad []=[]:=nr rfl
theorem ads_cons {i:Nat} {l:List Nat}:adsOf ad (i::l)=nth [] ad i++adsOf ad l:=nr rfl
theorem ath_0 {a:St} {l:List St}:nth [] (a::l) 0=a:=rfl
theorem ath_s {a:St} {l:List St} {i:Nat}:nth [] (a::l) (i+1)=nth [] l i:=rfl
theorem ast_0 {a b:St} {l:List St}:(a::l).set 0 b=b::l:=rfl
theorem ast_s {a b:St} {l:List St} {i:Nat}:(a::l).set (i+1) b=a::l.set i b:=rfl
def adK (ad:List St) (k:List St->Prop):Prop:=k ad
@[congr] theorem adK_congr {ad ad':List St} {k:List St->Prop} (h:ad=ad'):adK ad k=adK ad' k:=by rw[h]
abbrev RK:=TM->St->List St->Nat->Prop
def nm4:List AOper->Bool
 |[]=>true
 |o::l=>!(Nat.beq o.mode 4)&&nm4 l
theorem Qo7:∀{ops:List AOper},nm4 ops=true->∀p∈ops,Qkx p=none
 |[],_,p,hp=>by cases hp
 |o::l,h,p,hp=>by
  simp only[nm4,Bool.and_eq_true]at h;rcases List.mem_cons.1 hp with rfl|hp
  ·unfold Qkx;have:Nat.beq p.mode 4=false:=by simpa using h.1
   rw[this];rfl
  ·exact Qo7 h.2 p hp
theorem Qxa {ops:List AOper} (h:nm4 ops=true):preOf ops=[]:=by
 unfold preOf;rw[List.flatMap_eq_nil_iff];rintro⟨o,i⟩ hp;have hm:o∈ops:=by
  have:=List.mem_zipIdx' hp;exact List.mem_of_getElem? (by rw[List.getElem?_eq_getElem this.1];exact congrArg some this.2.symm)
 simp only[Qo7 h o hm]
def preAp (r:Option (List AOper)) (l:List AOper):List AOper:=match r with
 |some x=>x.reverse++l
 |none=>l
def preAt:List AOper->List AOper->List AOper
 |_,[]=>[]
 |rev,o::l=>match Qkx o with
  |some d=>preAp (Qe2 rev [d]) (preAt (o::rev) l)
  |none=>preAt (o::rev) l
def markA (r:Option (List AOper)) (o:AOper):AOper:=match r with
 |some _=>o
 |none=>⟨o.dst,o.op,o.g,0,o.anc⟩
def Qg0:List AOper->List AOper->List AOper
 |_,[]=>[]
 |rev,o::l=>(match Qkx o with
  |some d=>markA (Qe2 rev [d]) o
  |none=>o)::Qg0 (o::rev) l
theorem Qti:∀(l pre:List AOper),((l.zipIdx pre.length).flatMap λp=>match Qkx p.1 with
 |some d=>((Qe2 ((pre++l).take p.2).reverse [d]).getD []).reverse
 |none=>[])=preAt pre.reverse l
 |[],pre=>rfl
 |o::l,pre=>by
  have ih:=Qti l (pre++[o]);rw[List.length_append,List.length_singleton,List.append_assoc,List.singleton_append,List.reverse_append,List.reverse_singleton,List.singleton_append]at ih;rw[List.zipIdx_cons,List.flatMap_cons,ih];have e:((pre++o::l).take pre.length)=pre:=by simp
  simp only[preAt,e];cases Qkx o with
  |none=>rfl
  |some d=>
   show((Qe2 pre.reverse [d]).getD []).reverse++preAt (o::pre.reverse) l=preAp (Qe2 pre.reverse [d]) (preAt (o::pre.reverse) l);cases Qe2 pre.reverse [d]<;>rfl
theorem preOf_at (ops:List AOper):preOf ops=preAt [] ops:=Qti ops []
theorem Qqt:∀(l pre:List AOper),((l.zipIdx pre.length).map λp=>match Qkx p.1 with
 |some d=>(match Qe2 ((pre++l).take p.2).reverse [d]with
  |some _=>p.1
  |none=>{p.1 with mode:=0})
 |none=>p.1)=Qg0 pre.reverse l
 |[],pre=>rfl
 |o::l,pre=>by
  have ih:=Qqt l (pre++[o]);rw[List.length_append,List.length_singleton,List.append_assoc,List.singleton_append,List.reverse_append,List.reverse_singleton,List.singleton_append]at ih;rw[List.zipIdx_cons,List.map_cons,ih];have e:((pre++o::l).take pre.length)=pre:=by simp
  simp only[Qg0,e];congr 1
theorem Qp8 (ops:List AOper):Qoa ops=Qg0 [] ops:=Qqt ops []
theorem Qqd:∀{ops rev:List AOper},nm4 ops=true->Qg0 rev ops=ops
 |[],_,_=>rfl
 |o::l,rev,h=>by
  have h1:=Qo7 h o (by simp);simp only[nm4,Bool.and_eq_true]at h;simp only[Qg0,h1,Qqd h.2]
theorem draw_p {ops:List AOper} {k:TM->St->Nat->Prop} (h:nm4 ops=true):drawK pOrc False (CP P) fz ops (tmE nt en) mu n k=apart ops 0 (tmE nt en) mu (ops.map λ_=>[]) λmu ad=>rrun pOrc False (CP P) fz ops 0 (tmE nt en) mu ad n λtm mu ad n=>Qje ad mu λmu=>k tm mu n:=by
 unfold drawK;rw[Qxa h,Qp8,Qqd h];exact nr rfl
theorem draw_4 {ops:List AOper} {k:TM->St->Nat->Prop} (h:nm4 ops=false):drawK pOrc False (CP P) fz ops (tmE nt en) mu n k=preK pOrc False (CP P) fz (preAt [] ops) (tmE nt en) mu n λtm'=>apart (Qg0 [] ops) 0 tm' mu (ops.map λ_=>[]) λmu ad=>rrun pOrc False (CP P) fz ops 0 (tmE nt en) mu ad n λtm mu ad n=>Qje ad mu λmu=>k tm mu n:=by
 unfold drawK;rw[preOf_at,Qp8]
def inN (a b:Nat):List (Nat×Nat)->Bool
 |[]=>false
 |c::l=>(a==c.1&&b==c.2)||inN a b l
theorem inN_nil {a b:Nat}:inN a b []=false:=rfl
theorem inN_cons {a b c d:Nat} {l:List (Nat×Nat)}:inN a b ((c,d)::l)=((a==c&&b==d)||inN a b l):=rfl
theorem inN_eq {a b:Nat}:∀{l:List (Nat×Nat)},l.contains (a,b)=inN a b l
 |[]=>rfl
 |(c,d)::l=>by
  rw[List.contains_cons,inN_eq];rfl
section
variable {d:Option (Nat×Nat)} {op:AOp} {g:Option (Nat×Nat×Bool)} {anc:List Nat} {ops rev:List AOper} {q r a b m':Nat} {need:List (Nat×Nat)}
theorem Qwv:preAt rev []=[]:=rfl
theorem Quk:Qg0 rev []=[]:=rfl
theorem preAt_0:preAt rev (⟨d,op,g,0,anc⟩::ops)=preAt (⟨d,op,g,0,anc⟩::rev) ops:=nr rfl
theorem preAt_1:preAt rev (⟨d,op,g,1,anc⟩::ops)=preAt (⟨d,op,g,1,anc⟩::rev) ops:=nr rfl
theorem preAt_2:preAt rev (⟨d,op,g,2,anc⟩::ops)=preAt (⟨d,op,g,2,anc⟩::rev) ops:=nr rfl
theorem preAt_3:preAt rev (⟨d,op,g,3,anc⟩::ops)=preAt (⟨d,op,g,3,anc⟩::rev) ops:=nr rfl
theorem markAt_0:Qg0 rev (⟨d,op,g,0,anc⟩::ops)=⟨d,op,g,0,anc⟩::Qg0 (⟨d,op,g,0,anc⟩::rev) ops:=nr rfl
theorem markAt_1:Qg0 rev (⟨d,op,g,1,anc⟩::ops)=⟨d,op,g,1,anc⟩::Qg0 (⟨d,op,g,1,anc⟩::rev) ops:=nr rfl
theorem markAt_2:Qg0 rev (⟨d,op,g,2,anc⟩::ops)=⟨d,op,g,2,anc⟩::Qg0 (⟨d,op,g,2,anc⟩::rev) ops:=nr rfl
theorem markAt_3:Qg0 rev (⟨d,op,g,3,anc⟩::ops)=⟨d,op,g,3,anc⟩::Qg0 (⟨d,op,g,3,anc⟩::rev) ops:=nr rfl
theorem preAt_s {v:Od}:preAt rev (⟨d,.store m' (.t q r) v,g,4,anc⟩::ops)=preAp (Qe2 rev [(q,r)]) (preAt (⟨d,.store m' (.t q r) v,g,4,anc⟩::rev) ops):=nr rfl
theorem markAt_s {v:Od}:Qg0 rev (⟨d,.store m' (.t q r) v,g,4,anc⟩::ops)=markA (Qe2 rev [(q,r)]) ⟨d,.store m' (.t q r) v,g,4,anc⟩::Qg0 (⟨d,.store m' (.t q r) v,g,4,anc⟩::rev) ops:=nr rfl
theorem preAt_a {s:Nat} {bo:Nat} {v:Od}:preAt rev (⟨d,.append s bo (.t q r) v,g,4,anc⟩::ops)=preAp (Qe2 rev [(q,r)]) (preAt (⟨d,.append s bo (.t q r) v,g,4,anc⟩::rev) ops):=nr rfl
theorem markAt_a {s:Nat} {bo:Nat} {v:Od}:Qg0 rev (⟨d,.append s bo (.t q r) v,g,4,anc⟩::ops)=markA (Qe2 rev [(q,r)]) ⟨d,.append s bo (.t q r) v,g,4,anc⟩::Qg0 (⟨d,.append s bo (.t q r) v,g,4,anc⟩::rev) ops:=nr rfl
theorem Qto {x l:List AOper}:preAp (some x) l=x.reverse++l:=rfl
theorem Quj {l:List AOper}:preAp none l=l:=rfl
theorem Quq {x:List AOper} {o:AOper}:markA (some x) o=o:=rfl
theorem Quw:markA none ⟨d,op,g,a,anc⟩=⟨d,op,g,0,anc⟩:=rfl
theorem pb_nil:Qe2 [] need=some []:=rfl
theorem pb_none:Qe2 (⟨none,op,g,m',anc⟩::ops) need=Qe2 ops need:=nr rfl
theorem Qi0:Qe2 (⟨some (a,b),op,g,m',anc⟩::ops) need=cond (inN a b need) (match preX op,g with
 |some xs,none=>(Qe2 ops (xs.flatMap odKey++need)).map (⟨some (a,b),op,g,m',anc⟩::·)
 |_,_=>none) (Qe2 ops need):=by
 rw[<-inN_eq];show(if need.contains (a,b)=true then _ else _)=_;cases need.contains (a,b)<;>rfl
theorem pb_no (h:inN a b need=false):Qe2 (⟨some (a,b),op,g,m',anc⟩::ops) need=Qe2 ops need:=by rw[Qi0,h];rfl
theorem pb_alloc {zero:List SV} (h:inN a b need=true):Qe2 (⟨some (a,b),.alloc zero,g,m',anc⟩::ops) need=none:=by rw[Qi0,h];rfl
theorem pb_box {x:Od} (h:inN a b need=true):Qe2 (⟨some (a,b),.box x,g,m',anc⟩::ops) need=none:=by rw[Qi0,h];rfl
theorem pb_call {f:Od} {xs:List Od} (h:inN a b need=true):Qe2 (⟨some (a,b),.call f xs,g,m',anc⟩::ops) need=none:=by rw[Qi0,h];rfl
theorem pb_mv {x:Od} (h:inN a b need=true):Qe2 (⟨some (a,b),.mv x,none,m',anc⟩::ops) need=(Qe2 ops (odKey x++need)).map (⟨some (a,b),.mv x,none,m',anc⟩::·):=by
 rw[Qi0,h];show Option.map _ (Qe2 ops (odKey x++[]++need))=_;rw[List.append_nil]
theorem pb_load {ag:Bool} {s:Nat} {x:Od} (h:inN a b need=true):Qe2 (⟨some (a,b),.load ag s x,none,m',anc⟩::ops) need=(Qe2 ops (odKey x++need)).map (⟨some (a,b),.load ag s x,none,m',anc⟩::·):=by
 rw[Qi0,h];show Option.map _ (Qe2 ops (odKey x++[]++need))=_;rw[List.append_nil]
theorem pb_faddr {s:Nat} {x:Od} (h:inN a b need=true):Qe2 (⟨some (a,b),.faddr s x,none,m',anc⟩::ops) need=(Qe2 ops (odKey x++need)).map (⟨some (a,b),.faddr s x,none,m',anc⟩::·):=by
 rw[Qi0,h];show Option.map _ (Qe2 ops (odKey x++[]++need))=_;rw[List.append_nil]
theorem pb_iaddr {s:Nat} {x y:Od} (h:inN a b need=true):Qe2 (⟨some (a,b),.iaddr s x y,none,m',anc⟩::ops) need=(Qe2 ops (odKey x++(odKey y++need))).map (⟨some (a,b),.iaddr s x y,none,m',anc⟩::·):=by
 rw[Qi0,h];show Option.map _ (Qe2 ops ((odKey x++(odKey y++[]))++need))=_;rw[List.append_nil,List.append_assoc]
theorem odKey_t:odKey (.t q r)=[(q,r)]:=rfl
theorem odKey_c {v:AV}:odKey (.c v)=[]:=rfl
theorem nm_4:nm4 (⟨d,op,g,4,anc⟩::ops)=false:=nr (by show(!true&&nm4 ops)=_;rfl)
end
section
variable {d:Option (Nat×Nat)} {op:AOp} {anc:List Nat} {ops:List AOper} {k:TM->Prop}
theorem pre_nil:preK pOrc False (CP P) fz [] (tmE nt en) mu n k=k (tmE nt en):=nr rfl
theorem pre_0:preK pOrc False (CP P) fz (⟨d,op,none,0,anc⟩::ops) (tmE nt en) mu n k=aop pOrc False (CP P) fz (tmE nt en) mu n false op λv _ _=>Qe8 (tmE nt en) d v λtm=>preK pOrc False (CP P) fz ops tm mu n k:=nr rfl
theorem pre_1:preK pOrc False (CP P) fz (⟨d,op,none,1,anc⟩::ops) (tmE nt en) mu n k=aop pOrc False (CP P) fz (tmE nt en) mu n true op λv _ _=>Qe8 (tmE nt en) d v λtm=>preK pOrc False (CP P) fz ops tm mu n k:=nr rfl
end
def saP (id i:Nat) (mu:St) (ad:List St) (J:St->List St->Prop):Prop:=Qgh (.one (.optr id 0)) i mu ad J
theorem sa_off {id off i:Nat} {J:St->List St->Prop}:Qgh (.one (.optr id off)) i mu ad J=saP id i mu ad J:=nr rfl
theorem sa_slice {id off len cap s i:Nat} {J:St->List St->Prop}:Qgh (.one (.osl id off len cap s)) i mu ad J=saP id i mu ad J:=nr rfl
theorem sa_nil {i:Nat} {J:St->List St->Prop}:Qgh (.one .nsl) i mu ad J=J mu ad:=nr rfl
theorem saP_none {id i:Nat} {J:St->List St->Prop} (h:look mu id=none):saP id i mu ad J=J mu ad:=by
 unfold saP Qgh;show Option.rec (motive:=λ_=>Prop) (J mu ad) (λcs=>moveK i id mu ad λmu ad=>bufK cs (J mu ad) λg=>moveK i g mu ad J) (look mu id)=_;rw[h]
theorem Qs4 {id i:Nat} {J:St->List St->Prop} {cs:List SV} (h:look mu id=some cs) (hb:mkd cs=false):saP id i mu ad J=J (killS mu id) (ad.set i ((id,cs)::nth [] ad i)):=by
 unfold saP Qgh;show Option.rec (motive:=λ_=>Prop) (J mu ad) (λcs=>moveK i id mu ad λmu ad=>bufK cs (J mu ad) λg=>moveK i g mu ad J) (look mu id)=_;rw[h];show moveK i id mu ad (λmu ad=>bufK cs (J mu ad) λg=>moveK i g mu ad J)=_;unfold moveK;rw[h];show killK mu id (λmu=>setK ad i ((id,cs)::nth [] ad i) λad=>bufK cs (J mu ad) λg=>moveK i g mu ad J)=_;rw[Qjs,Qh5];cases cs with
 |nil=>rfl
 |cons a l=>
  cases a<;>first
   |rfl
   |(exact absurd hb (by show¬(true=false);decide))
section
variable {d:Option (Nat×Nat)} {op:AOp} {g:Option (Nat×Nat×Bool)} {anc:List Nat} {ops:List AOper}
theorem nm_nil:nm4 []=true:=rfl
theorem nm_0:nm4 (⟨d,op,g,0,anc⟩::ops)=nm4 ops:=nr (by show(!false&&nm4 ops)=_;rfl)
theorem nm_1:nm4 (⟨d,op,g,1,anc⟩::ops)=nm4 ops:=nr (by show(!false&&nm4 ops)=_;rfl)
theorem nm_2:nm4 (⟨d,op,g,2,anc⟩::ops)=nm4 ops:=nr (by show(!false&&nm4 ops)=_;rfl)
theorem nm_3:nm4 (⟨d,op,g,3,anc⟩::ops)=nm4 ops:=nr (by show(!false&&nm4 ops)=_;rfl)
end
section
variable {d:Option (Nat×Nat)} {op:AOp} {g:Option (Nat×Nat×Bool)} {anc:List Nat} {ops:List AOper} {i:Nat} {k:St->List St->Prop} {tm:TM}
theorem Qvw:apart [] i tm mu ad k=k mu ad:=nr rfl
theorem apart_0:apart (⟨d,op,g,0,anc⟩::ops) i tm mu ad k=apart ops (i+1) tm mu ad k:=nr rfl
theorem apart_1:apart (⟨d,op,g,1,anc⟩::ops) i tm mu ad k=apart ops (i+1) tm mu ad k:=nr rfl
theorem apart_2:apart (⟨d,op,g,2,anc⟩::ops) i tm mu ad k=apart ops (i+1) tm mu ad k:=nr rfl
theorem apart_4 {m q r:Nat} {v:Od}:apart (⟨d,.store m (.t q r) v,g,4,anc⟩::ops) i tm mu ad k=Qgh (ev tm (.t q r)) i mu ad λmu ad=>apart ops (i+1) tm mu ad k:=nr rfl
theorem apart_4a {s q r:Nat} {bo:Nat} {v:Od}:apart (⟨d,.append s bo (.t q r) v,g,4,anc⟩::ops) i tm mu ad k=Qgh (ev tm (.t q r)) i mu ad λmu ad=>apart ops (i+1) tm mu ad k:=nr rfl
theorem apart_3:apart (⟨d,op,g,3,anc⟩::ops) i tm mu ad k=apart ops (i+1) tm mu ad k:=nr rfl
end
section
variable {d:Option (Nat×Nat)} {op:AOp} {anc:List Nat} {ops:List AOper} {i:Nat} {k:RK}
theorem rr_nil:rrun pOrc False (CP P) fz [] i (tmE nt en) mu ad n k=k (tmE nt en) mu ad n:=nr rfl
theorem rr_0:rrun pOrc False (CP P) fz (⟨d,op,none,0,anc⟩::ops) i (tmE nt en) mu ad n k=
 aop pOrc False (CP P) (λ_=>none) (tmE nt en) [] n false op λv new n=>nilK new (Qe8 (tmE nt en) d v λtm=>rrun pOrc False (CP P) fz ops (i+1) tm mu ad n k):=nr rfl
theorem rr_1:rrun pOrc False (CP P) fz (⟨d,op,none,1,anc⟩::ops) i (tmE nt en) mu ad n k=
 aop pOrc False (CP P) (with' (adsOf ad anc) (with' mu fz)) (tmE nt en) [] n true op λv new n=>Qe8 (tmE nt en) d v λtm=>adK (ad.set i new) λad=>rrun pOrc False (CP P) fz ops (i+1) tm mu ad n k:=by
 show aop pOrc False (CP P) (with' (adsOf ad anc) (with' mu fz)) (tmE nt en) [] n true op (λv new n=>Qe8 (tmE nt en) d v λtm=>setK ad i new λad=>rrun pOrc False (CP P) fz ops (i+1) tm mu ad n k)=_;congr 1;funext v new n;congr 1;funext tm;rw[Qh5];rfl
theorem rr_3:rrun pOrc False (CP P) fz (⟨d,op,none,3,anc⟩::ops) i (tmE nt en) mu ad n k=
 aop pOrc False (CP P) (λ_=>none) (tmE nt en) [] n false op λv new n=>Qe8 (tmE nt en) d v λtm=>adK (ad.set i new) λad=>rrun pOrc False (CP P) fz ops (i+1) tm mu ad n k:=by
 show aop pOrc False (CP P) (λ_=>none) (tmE nt en) [] n false op (λv new n=>Qe8 (tmE nt en) d v λtm=>setK ad i new λad=>rrun pOrc False (CP P) fz ops (i+1) tm mu ad n k)=_;congr 1;funext v new n;congr 1;funext tm;rw[Qh5];rfl
theorem rr_2:rrun pOrc False (CP P) fz (⟨d,op,none,2,anc⟩::ops) i (tmE nt en) mu ad n k=
 adK (Qid anc ad) λad'=>aop pOrc False (CP P) fz (tmE nt en) (adsOf ad anc++mu) n false op λv mu n=>Qe8 (tmE nt en) d v λtm=>rrun pOrc False (CP P) fz ops (i+1) tm mu ad' n k:=by
 show joinK (adsOf ad anc) mu (λmu=>Qly anc ad λad=>aop pOrc False (CP P) fz (tmE nt en) mu n false op λv mu n=>Qe8 (tmE nt en) d v λtm=>rrun pOrc False (CP P) fz ops (i+1) tm mu ad n k)=_;rw[Qig,Qkn];rfl
theorem rr_4:rrun pOrc False (CP P) fz (⟨d,op,none,4,anc⟩::ops) i (tmE nt en) mu ad n k=
 aop pOrc False (CP P) fz (tmE nt en) (nth [] ad i++adsOf ad anc) n false op λv new n=>Qe8 (tmE nt en) d v λtm=>adK (Qid anc ad) λad=>adK (ad.set i new) λad=>rrun pOrc False (CP P) fz ops (i+1) tm mu ad n k:=by
 show joinK (nth [] ad i) (adsOf ad anc) (λown=>aop pOrc False (CP P) fz (tmE nt en) own n false op λv new n=>Qe8 (tmE nt en) d v λtm=>Qly anc ad λad=>setK ad i new λad=>rrun pOrc False (CP P) fz ops (i+1) tm mu ad n k)=_;rw[Qig];congr 1;funext v new n;congr 1;funext tm;rw[Qkn,Qh5];rfl
variable {q q':Nat} {b:Bool}
theorem rg_4:rrun pOrc False (CP P) fz (⟨d,op,some (q,q',b),4,anc⟩::ops) i (tmE nt en) mu ad n k=wantP (get (tmE nt en) q q') b (rrun pOrc False (CP P) fz (⟨d,op,none,4,anc⟩::ops) i (tmE nt en) mu ad n k) (Qe8 (tmE nt en) d noVal λtm=>rrun pOrc False (CP P) fz ops (i+1) tm mu ad n k):=nr rfl
theorem rg_0:rrun pOrc False (CP P) fz (⟨d,op,some (q,q',b),0,anc⟩::ops) i (tmE nt en) mu ad n k=wantP (get (tmE nt en) q q') b (rrun pOrc False (CP P) fz (⟨d,op,none,0,anc⟩::ops) i (tmE nt en) mu ad n k) (Qe8 (tmE nt en) d noVal λtm=>rrun pOrc False (CP P) fz ops (i+1) tm mu ad n k):=nr rfl
theorem rg_1:rrun pOrc False (CP P) fz (⟨d,op,some (q,q',b),1,anc⟩::ops) i (tmE nt en) mu ad n k=wantP (get (tmE nt en) q q') b (rrun pOrc False (CP P) fz (⟨d,op,none,1,anc⟩::ops) i (tmE nt en) mu ad n k) (Qe8 (tmE nt en) d noVal λtm=>rrun pOrc False (CP P) fz ops (i+1) tm mu ad n k):=nr rfl
theorem rg_2:rrun pOrc False (CP P) fz (⟨d,op,some (q,q',b),2,anc⟩::ops) i (tmE nt en) mu ad n k=wantP (get (tmE nt en) q q') b (rrun pOrc False (CP P) fz (⟨d,op,none,2,anc⟩::ops) i (tmE nt en) mu ad n k) (Qe8 (tmE nt en) d noVal λtm=>rrun pOrc False (CP P) fz ops (i+1) tm mu ad n k):=nr rfl
theorem rg_3:rrun pOrc False (CP P) fz (⟨d,op,some (q,q',b),3,anc⟩::ops) i (tmE nt en) mu ad n k=wantP (get (tmE nt en) q q') b (rrun pOrc False (CP P) fz (⟨d,op,none,3,anc⟩::ops) i (tmE nt en) mu ad n k) (Qe8 (tmE nt en) d noVal λtm=>rrun pOrc False (CP P) fz ops (i+1) tm mu ad n k):=nr rfl
theorem adK_nil {k:List St->Prop}:adK [] k=k []:=nr rfl
theorem adK_cons {a:St} {l:List St} {k:List St->Prop}:adK (a::l) k=k (a::l):=nr rfl
theorem Qud:Qid [] ad=ad:=nr rfl
theorem Qq9 {l:List Nat}:Qid (i::l) ad=Qid l (ad.set i []):=nr rfl
theorem join_nil {k:St->Prop}:Qje [] mu k=k mu:=nr rfl
theorem join_cons {s:St} {l:List St} {k:St->Prop}:Qje (s::l) mu k=Qje l (s++mu) k:=Qig _ _ _
end
end
end Go.Ev
namespace Go.Ev
def Free (fz:Fz) (mu:St) (n:Nat):Prop:=∀j,with' mu fz (n+j)=none
structure Gr (lo:Nat) (fz:Fz) (mu mu':St) (n n':Nat):Prop where
 le:n<=n'
 ext:∀id,id<lo->with' mu' fz id=with' mu fz id
 own:∀id,id<lo->look mu' id=look mu id
 free:Free fz mu' n'
section
variable {fz:Fz} {mu mu' mu'':St} {n n' n'' lo:Nat}
theorem Free.none (h:Free fz mu n) {id:Nat} (hi:n<=id):with' mu fz id=none:=by
 have:=h (id-n);rwa [show n+(id-n)=id by omega]at this
theorem Free.lt (h:Free fz mu n) {id:Nat} {B:List SV} (hi:with' mu fz id=some B):id<n:=by
 rcases Nat.lt_or_ge id n with h1|h1
 ·exact h1
 ·rw[h.none h1]at hi;cases hi
theorem Qem {id:Nat} {B:List SV} (h:look mu id=some B):with' mu fz id=some B:=by rw[Qe5,h]
theorem Free.cons (h:Free fz mu n) (cs:List SV):Free fz ((n,cs)::mu) (n+1):=λj=>by
 rw[Qfl,if_neg (by omega)];exact h.none (by omega)
theorem Gr.refl (h:Free fz mu n):Gr lo fz mu mu n n:=⟨Nat.le_refl _,λ_ _=>rfl,λ_ _=>rfl,h⟩
theorem Gr.trans (h:Gr lo fz mu mu' n n') (k:Gr lo fz mu' mu'' n' n''):Gr lo fz mu mu'' n n'':=
 ⟨Nat.le_trans h.le k.le,λid hi=>(k.ext id hi).trans (h.ext id hi),λid hi=>(k.own id hi).trans (h.own id hi),k.free⟩
theorem Gr.weaken {lo':Nat} (h:Gr lo fz mu mu' n n') (hl:lo'<=lo):Gr lo' fz mu mu' n n':=
 ⟨h.le,λid hi=>h.ext id (by omega),λid hi=>h.own id (by omega),h.free⟩
theorem Gr.cons (h:Gr lo fz mu mu' n n') (hl:lo<=n') (cs:List SV):Gr lo fz mu ((n',cs)::mu') n (n'+1):=
 ⟨by have:=h.le;omega,λid hi=>by rw[Qfl,if_neg (by omega)];exact h.ext id hi,λid hi=>by rw[Qer,if_neg (by omega)];exact h.own id hi,h.free.cons cs⟩
theorem Gr.old (h:Gr n fz mu mu' n n') (hf:Free fz mu n) {id:Nat} {B:List SV} (hi:with' mu fz id=some B):with' mu' fz id=some B:=(h.ext id (hf.lt hi)).trans hi
theorem Qgd (new mu:St) (fz:Fz):with' (new++mu) fz=with' new (with' mu fz):=by
 funext id;rw[Qe5,Qe1,Qe5,Qe5];cases look new id<;>rfl
theorem Gr.join {new:St} (hf:Free fz mu n) (hl:lo<=n) (h:Gr n (with' mu fz) [] new n n'):Gr lo fz mu (new++mu) n n':=by
 refine⟨h.le,λid hi=>?_,λid hi=>?_,λj=>?_⟩
 ·rw[Qgd];exact h.ext id (by omega)
 ·rw[Qe1];have:=h.own id (by omega);rw[show look [] id=none from rfl]at this;rw[this]
 ·rw[Qgd];exact h.free j
theorem Gr.apart {mu1 new:St} {n1 n2:Nat} (g1:Gr lo fz mu mu1 n n1) (hf:Free fz mu n) (hl:n<=n1) (g2:Gr n1 (with' mu fz) [] new n1 n2) {id:Nat} {B:List SV} (h:with' new (with' mu fz) id=some B) (hg:Gr n fz mu mu1 n n1):with' (new++mu1) fz id=some B:=by
 rw[Qe5]at h;rw[Qe5,Qe1];cases e:look new id with
 |some c=>rw[e]at h;exact h
 |none=>
  rw[e]at h;have:=hg.old hf h;rw[Qe5]at this;exact this
end
def Ctr (P:Program) (f:Nat) (args:List AV) (pre:Fz->Prop) (post:Nat->Nat->Fz->AV->Prop):Prop:=
 ∀fz mu n k,Free fz mu n->pre (with' mu fz)->(∀v mu' n',Gr n fz mu mu' n n'->post n n' (with' mu' fz) v->k v mu' n')->CP P f args fz mu n k
section
variable {P:Program} {f:Nat} {args:List AV} {pre:Fz->Prop} {post:Nat->Nat->Fz->AV->Prop} {fz:Fz} {mu:St} {n:Nat} {k:KT Prop}
theorem Ctr.c0 (h:Ctr P f args pre post) {w:WK k} (hf:Free fz mu n) (hp:pre (with' mu fz)) (hk:∀v mu' n',Gr n fz mu mu' n n'->post n n' (with' mu' fz) v->k v mu' n'):CPh P f args fz mu n k w:=h fz mu n k hf hp hk
theorem Ctr.c1 (h:Ctr P f args pre post) {w:WK k} (hf:Free fz mu n) (hp:pre (with' mu fz)) (hk:∀v mu' n',Gr n fz mu mu' n n'->post n n' (with' mu' fz) v->k v mu' n'):CPr P f args fz mu n k w:=
 h (with' mu fz) [] n _ (λj=>hf j) hp λv new n' hg hpost=>hk v _ n' (hg.join hf (Nat.le_refl _)) (by rw[Qgd];exact hpost)
theorem Ctr.c2 (h:Ctr P f args pre post) {cs:List SV} {w:WK k} (hf:Free fz mu n) (hp:(∀id B,with' mu fz id=some B->with' ((n,cs)::mu) fz id=some B)->pre (with' ((n,cs)::mu) fz))
 (hk:∀v mu' n',Gr n fz mu mu' n n'->with' mu' fz n=some cs->post (n+1) n' (with' mu' fz) v->k v mu' n'):CPr P f args fz ((n,cs)::mu) (n+1) k w:=by
 have g0:=(Gr.refl (lo:=n) hf).cons (Nat.le_refl _) cs;refine h.c1 (hf.cons cs) (hp λid B hh=>g0.old hf hh) λv mu' n' g hpost=>hk v mu' n' (g0.trans (g.weaken (Nat.le_succ _))) ?_ hpost;rw[g.ext n (Nat.lt_succ_self _),Qfl,if_pos rfl]
theorem Ctr.c3 (h:Ctr P f args pre post) {cs cs':List SV} {w:WK k} (hf:Free fz mu n) (hp:(∀id B,with' mu fz id=some B->with' ((n+1,cs')::(n,cs)::mu) fz id=some B)->pre (with' ((n+1,cs')::(n,cs)::mu) fz))
 (hk:∀v mu' n',Gr n fz mu mu' n n'->with' mu' fz n=some cs->with' mu' fz (n+1)=some cs'->post (n+1+1) n' (with' mu' fz) v->k v mu' n'):CPr P f args fz ((n+1,cs')::(n,cs)::mu) (n+1+1) k w:=by
 have g0:=(Gr.refl (lo:=n) hf).cons (Nat.le_refl _) cs;refine h.c2 (hf.cons cs) (λhm=>hp λid B hh=>hm id B (g0.old hf hh)) λv mu' n' g hb hpost=>hk v mu' n' (g0.trans (g.weaken (Nat.le_succ _))) ?_ hb hpost;rw[g.ext n (Nat.lt_succ_self _),Qfl,if_pos rfl]
theorem Ctr.d1 (h:Ctr P f args pre post) {w:WK k} (hf:Free fz mu n) (hp:pre (with' mu fz)) (hk:∀v new n',Gr n (with' mu fz) [] new n n'->post n n' (with' new (with' mu fz)) v->k v new n'):CPr P f args (with' mu fz) [] n k w:=
 h (with' [] (with' mu fz)) [] n _ (fun j=>hf j) hp fun v new n' hg hpost=>by
   show k v (new++[]) n';rw[List.append_nil];exact hk v new n' hg hpost
theorem Ctr.d2 (h:Ctr P f args pre post) {w:WK k} (hf:Free fz mu n) (hp:pre (with' mu fz)) (hk:∀v new n',Gr n fz mu (new++mu) n n'->post n n' (with' (new++mu) fz) v->k v new n'):CPr P f args (with' mu fz) [] n k w:=
 h.d1 hf hp λv new n' hg hpost=>hk v new n' (hg.join hf (Nat.le_refl _)) (by rw[Qgd];exact hpost)
theorem Ctr.d3 (h:Ctr P f args pre post) {cs:List SV} {w:WK k} (hf:Free fz mu n) (hp:(∀id B,with' mu fz id=some B->with' ((n,cs)::mu) fz id=some B)->pre (with' ((n,cs)::mu) fz))
 (hk:∀v new n',Gr n fz mu (new++((n,cs)::mu)) n n'->with' (new++((n,cs)::mu)) fz n=some cs->post (n+1) n' (with' (new++((n,cs)::mu)) fz) v->k v new n'):CPr P f args (with' ((n,cs)::mu) fz) [] (n+1) k w:=by
 have g0:=(Gr.refl (lo:=n) hf).cons (Nat.le_refl _) cs;refine h.d2 (hf.cons cs) (hp λid B hh=>g0.old hf hh) λv new n' g hpost=>hk v new n' (g0.trans (g.weaken (Nat.le_succ _))) ?_ hpost;rw[g.ext n (Nat.lt_succ_self _),Qfl,if_pos rfl]
theorem CPr_f {w:WK k} (h:CPr P f args fz mu n k w):CPr P f args fz mu n k w:=h
theorem with_two {a b:St} {f:Fz}:with' a (with' b f)=with' (a++b) f:=(Qgd a b f).symm
theorem Ctr.of (hmx:P.follows .mixedOrders=true) {af:AFunc} (hf:FOk P f af) (fu:Fz->Nat) (h:∀fz mu n k,Free fz mu n->pre (with' mu fz)->(∀v mu' n',Gr n fz mu mu' n n'->post n n' (with' mu' fz) v->k v mu' n')->textP P (fu (with' mu fz)) af args fz mu n k):Ctr P f args pre post:=
 λfz mu n k h1 h2 h3=>CP_of hf hmx (fu (with' mu fz)) (h fz mu n k h1 h2 h3)
end
theorem Qnj {mu:St} {n:Nat} {cs:List SV}:look ((n,cs)::mu) n=some cs:=by rw[Qer,if_pos rfl]
def Sl (M:Fz) (s:Nat) (x:SV) (es:List (List SV)):Prop:=
 (x=.nsl\/x=.esl\/x=.zsl)/\es=[]\/
 ∃id off cap B,x=.osl id off es.length cap s/\es.length<=cap/\M id=some B/\mkd B=false/\off+es.length*s<=B.length/\(B.drop off).take (es.length*s)=es.flatten/\∀e∈es,e.length=s/\Qeq e=true
theorem Sl.mono {M M':Fz} {s:Nat} {x:SV} {es:List (List SV)} (h:Sl M s x es) (hm:∀id B,M id=some B->M' id=some B):Sl M' s x es:=by
 rcases h with h|⟨id,off,cap,B,h1,h2,h3,h4⟩
 ·exact .inl h
 ·exact .inr ⟨id,off,cap,B,h1,h2,hm id B h3,h4⟩
theorem Qvn {s:Nat}:∀{es:List (List SV)} {i:Nat} {e:List SV},(∀e∈es,e.length=s)->es[i]?=some e->(es.flatten.drop (i*s)).take s=e
 |[],i,e,_,h=>by simp at h
 |a::es,0,e,hl,h=>by
  simp at h;subst h;have:=hl a (by simp);simp[<-this]
 |a::es,i+1,e,hl,h=>by
  have ha:=hl a (by simp);have:=Qvn (es:=es) (i:=i) (e:=e) (λe he=>hl e (by simp[he])) (by simpa using h);rw[show(i+1)*s=a.length+i*s by rw[ha,Nat.add_mul];omega,List.flatten_cons,List.drop_append,List.drop_eq_nil_of_le (by omega),List.nil_append,show a.length+i*s-a.length=i*s by omega];exact this
theorem Qfr {s:Nat}:∀{es:List (List SV)},(∀e∈es,e.length=s)->es.flatten.length=es.length*s
 |[],_=>by simp
 |a::es,hl=>by
  have ha:=hl a (by simp);have:=Qfr (es:=es) λe he=>hl e (by simp[he]);simp only[List.flatten_cons,List.length_append,this,ha,List.length_cons,Nat.add_mul];omega
theorem Sl.at {M:Fz} {s id off len cap s':Nat} {es:List (List SV)} (h:Sl M s (.osl id off len cap s') es) {i:Nat} (hi:i<es.length):len=es.length/\s'=s/\∃B,M id=some B/\mkd B=false/\off+i*s+s<=B.length/\(B.drop (off+i*s)).take s=es[i]:=by
 rcases h with⟨h,he⟩|⟨id',off',cap',B,h1,h2,h3,h4,h5,h6,h7⟩
 ·subst he;simp at hi
 ·cases h1;have hle:i*s+s<=es.length*s:=by rw[<-Nat.succ_mul];exact Nat.mul_le_mul_right _ hi
  refine⟨rfl,rfl,B,h3,h4,by omega,?_⟩;have:=Qvn (i:=i) (λe he=>(h7 e he).1) (List.getElem?_eq_getElem hi);rw[<-h6,List.drop_take,List.take_take,List.drop_drop]at this;rw[<-this,Nat.min_eq_left (by omega)]
theorem Sl.elem {M:Fz} {s:Nat} {x:SV} {es:List (List SV)} (h:Sl M s x es) {i:Nat} (hi:i<es.length):∃id off cap B,x=.osl id off es.length cap s/\M id=some B/\mkd B=false/\off+i*s+s<=B.length/\(B.drop (off+i*s)).take s=es[i]:=by
 rcases h with⟨_,he⟩|⟨id,off,cap,B,h1,h2,h3,h4,h5,h6,h7⟩
 ·subst he;simp at hi
 ·subst h1;obtain⟨_,_,B',g1,g2,g3,g4⟩:=Sl.at (M:=M) (s:=s) (id:=id) (off:=off) (len:=es.length) (cap:=cap) (s':=s) (es:=es) (.inr ⟨id,off,cap,B,rfl,h2,h3,h4,h5,h6,h7⟩) hi;exact⟨id,off,cap,B',rfl,g1,g2,g3,g4⟩
theorem Sl.len {M:Fz} {s:Nat} {x:SV} {es:List (List SV)} (h:Sl M s x es) {k:Nat->Prop}:onLen x k=k es.length/\x.isStr=false:=by
 rcases h with⟨rfl|rfl|rfl,rfl⟩|⟨id,off,cap,B,rfl,_⟩<;>exact⟨rfl,rfl⟩
theorem Sl.known {M:Fz} {s:Nat} {x:SV} {es:List (List SV)} (h:Sl M s x es):x.known=true/\x.isMk=false:=by
 rcases h with⟨rfl|rfl|rfl,rfl⟩|⟨id,off,cap,B,rfl,_⟩<;>exact⟨rfl,rfl⟩
theorem All2.at {α β:Type} {R:α->β->Prop} {x:List α} {y:List β} (h:All2 R x y) {i:Nat} (h1:i<x.length) (h2:i<y.length):R x[i] y[i]:=by
 obtain⟨b,e,r⟩:=h.get (List.getElem?_eq_getElem h1);rw[List.getElem?_eq_getElem h2]at e;cases e;exact r
end Go.Ev
namespace Go.Ev
set_option maxRecDepth 100000
set_option linter.defProp false
def E1:=(And.intro @dc_skip (And.intro @dc_reg (And.intro @dc_draw (And.intro @Qm5 (And.intro @dc_cond (And.intro @dc_blk (And.intro @dc_loop (And.intro @dc_exit (And.intro @dc_ret (And.intro @onw_n (And.intro @onw_x (And.intro @onw_r (And.intro @inB_n (And.intro @inB_same (And.intro @inB_x (And.intro @inB_r (And.intro @endP_n (And.intro @endP_r (And.intro @run_nil (And.intro @run_c0 (And.intro @run_c1 (And.intro @run_c2 (And.intro @run_c3 (And.intro @run_c4 (And.intro @run_g0 (And.intro @run_g1 (And.intro @run_g2 (And.intro @run_g3 (And.intro @run_g4 (And.intro @mvK_one (And.intro @mvK_ag (And.intro @mvK_tp (And.intro @mvK_no (And.intro @Br_true (And.intro @Br_false (And.intro @Qmy (And.intro @Qmu (And.intro @onOne_p (And.intro @onAg_p (And.intro @onTp_p (And.intro @Qrp (And.intro @Qug (And.intro @onInt_p (And.intro @onBool_p (And.intro @onStr_p (And.intro @onPtr_p (And.intro @onSl_p (And.intro @onFn_p (And.intro @Qv2 (And.intro @wantP_tf (And.intro @wantP_ft (And.intro @Quy (And.intro @Qr7 (And.intro @asRes_ag (And.intro @Qv7 (And.intro @Qlk (And.intro @killS_c (And.intro @ev_c (And.intro @Qv4 (And.intro @setDst_t (And.intro @fT_int (And.intro @forceK_t (And.intro @forceK_c (And.intro @forceO_n (And.intro @forceO_s (And.intro @a_mv (And.intro @a_pick (And.intro @a_alloc (And.intro @a_box (And.intro @fill_nil (And.intro @Qvd (And.intro @a_build (And.intro @a_bslice (And.intro @a_load (And.intro @a_store (And.intro @a_bin (And.intro @a_sbin (And.intro @a_eqb (And.intro @a_eqn (And.intro @a_eqs (And.intro @a_not (And.intro @a_neg (And.intro @a_conv (And.intro @Qwi (And.intro @Qtm (And.intro @a_mkfn (And.intro @a_mkslice (And.intro @a_slc (And.intro @a_faddr (And.intro @a_fld (And.intro @a_iaddr (And.intro @a_iaddrA (And.intro @a_idx (And.intro @nthK_0 (And.intro @nthK_s (And.intro @onCV_one (And.intro @onCV_ag (And.intro @a_extr (And.intro @Qvx (And.intro @Qvi (And.intro @Qxc (And.intro @Qw8 (And.intro @Qwk (And.intro @a_len (And.intro @a_max (And.intro @a_min (And.intro @maxK_nil (And.intro @minK_nil (And.intro @maxK_int (And.intro @minK_int (And.intro @a_call0 (And.intro @a_call1 (And.intro @Qxr (And.intro @Qx9 (And.intro @Qxn (And.intro @Qq2 (And.intro @Qv0 (And.intro @a_append (And.intro @Qup (And.intro @Quo (And.intro @Qn0 (And.intro @a_copy (And.intro @res_nil (And.intro @res_one (And.intro @res_more (And.intro @Qtq (And.intro @Qr0 (And.intro @onTo_one (And.intro @onTo_ag (And.intro @resVal_t (And.intro @resVal_c (And.intro @b_add (And.intro @b_sub (And.intro @b_mul (And.intro @b_quo (And.intro @b_rem (And.intro @b_eql (And.intro @b_neq (And.intro @b_lss (And.intro @b_leq (And.intro @b_gtr (And.intro @b_geq (And.intro @s_eql (And.intro @s_neq (And.intro @nilK_nil (And.intro @draw_p (And.intro @nm_nil (And.intro @nm_0 (And.intro @nm_1 (And.intro @nm_2 (And.intro @nm_3 (And.intro @Qvw (And.intro @apart_0 (And.intro @apart_1 (And.intro @apart_2 (And.intro @apart_3 (And.intro @rr_nil (And.intro @rr_0 (And.intro @rr_1 (And.intro @rr_2 (And.intro @rr_3 (And.intro @rg_0 (And.intro @rg_1 (And.intro @rg_2 (And.intro @rg_3 (And.intro @adK_nil (And.intro @adK_cons (And.intro @join_nil (And.intro @join_cons (And.intro @onNil_p (And.intro @onNil_f (And.intro @a_nilc (And.intro @preAt_0 (And.intro @preAt_1 (And.intro @preAt_2 (And.intro @preAt_3 (And.intro @preAt_s (And.intro @preAt_a (And.intro @markAt_0 (And.intro @markAt_1 (And.intro @markAt_2 (And.intro @markAt_3 (And.intro @markAt_s (And.intro @markAt_a (And.intro @draw_4 (And.intro @pre_nil (And.intro @pre_0 (And.intro @pre_1 (And.intro @apart_4 (And.intro @apart_4a (And.intro @rr_4 (And.intro @rg_4 @a_shr))))))))))))))))))))))))))))))))))))))))))))))))))))))))))))))))))))))))))))))))))))))))))))))))))))))))))))))))))))))))))))))))))))))))))))))))))))))))))))))))))))))))))))))))))))))))))))))))
def E2:=(And.intro @wantP_br (And.intro @beq_t (And.intro @beq_f (And.intro @Br_not (And.intro @Qer (And.intro @Qfl (And.intro @with_nil (And.intro @with_two (And.intro @ev_t (And.intro @get_p (And.intro @Qw1 (And.intro @updE_r (And.intro @updE_q (And.intro @env_0 (And.intro @env_1 (And.intro @env_2 (And.intro @env_3 (And.intro @env_4 (And.intro @Qw9 (And.intro @Qty (And.intro @Qw4 (And.intro @Qu8 (And.intro @Qvp (And.intro @Qwe (And.intro @Quh (And.intro @Qvl (And.intro @Qwc (And.intro @Qvh (And.intro @known_fn (And.intro @Qll (And.intro @Qgg (And.intro @mkd_nil (And.intro @mkd_cons (And.intro @mk_int (And.intro @mk_bool (And.intro @mk_str (And.intro @mk_nsl (And.intro @mk_npt (And.intro @mk_nfn (And.intro @mk_optr (And.intro @mk_osl (And.intro @mk_esl (And.intro @mk_zsl (And.intro @mk_fn (And.intro @Qu9 (And.intro @Qxx (And.intro @Qwq (And.intro @Qxg (And.intro @Qvk (And.intro @Qre (And.intro @Qqn (And.intro @eqb_same (And.intro @ne_eq.{1} (And.intro @not_false_eq_true (And.intro @not_true_eq_false (And.intro @Bool.not_true (And.intro @Bool.not_false (And.intro @Bool.and_true (And.intro @Bool.true_and (And.intro @Bool.and_false (And.intro @Bool.false_and (And.intro @Bool.or_true (And.intro @Bool.true_or (And.intro @Bool.or_false (And.intro @Bool.false_or (And.intro @Bool.bne_true (And.intro @Bool.bne_false (And.intro @decide_true (And.intro @decide_false (And.intro @bne_self_eq_false.{0} (And.intro @List.length_cons.{0} (And.intro @List.length_nil.{0} (And.intro @Nat.zero_add (And.intro @List.drop_zero.{0} (And.intro @List.drop_succ_cons.{0} (And.intro @List.take_succ_cons.{0} (And.intro @List.take_zero.{0} (And.intro @List.map_cons.{0,0} (And.intro @List.map_nil.{0,0} (And.intro @List.append_nil.{0} (And.intro @List.nil_append.{0} (And.intro @List.cons_append.{0} (And.intro @if_true.{1} (And.intro @if_true.{0} (And.intro @if_false.{1} (And.intro @if_false.{0} (And.intro @Nat.blt_eq (And.intro @Qvq (And.intro @cast_neg (And.intro @cast_lt (And.intro @cast_le (And.intro @castN_eq (And.intro @cast_of (And.intro @cast_nat (And.intro @blt_p (And.intro @and_p (And.intro @bool_tt (And.intro @bool_ft (And.intro @bool_tf (And.intro @bool_ff (And.intro @Qhe (And.intro @Qit (And.intro @true_and (And.intro @and_true (And.intro @false_and (And.intro @and_false (And.intro @bx1 (And.intro @bx2 (And.intro @bx3 (And.intro @bx4 (And.intro @bx5 (And.intro @bx6 (And.intro @over_0 (And.intro @over_n (And.intro @over_s (And.intro @rep_0 (And.intro @rep_s (And.intro @cast_lit (And.intro @ads_nil (And.intro @ads_cons (And.intro @ath_0 (And.intro @ath_s (And.intro @ast_0 (And.intro @ast_s (And.intro @Qud (And.intro @Qq9 (And.intro @nil_nsl (And.intro @nil_osl (And.intro @nil_esl (And.intro @nil_zsl (And.intro @nil_npt (And.intro @nil_ptr (And.intro @wrap64 (And.intro @inN_nil (And.intro @inN_cons (And.intro @Qwv (And.intro @Quk (And.intro @Qto (And.intro @Quj (And.intro @Quq (And.intro @Quw (And.intro @pb_nil (And.intro @pb_none (And.intro @pb_no (And.intro @pb_alloc (And.intro @pb_box (And.intro @pb_call (And.intro @pb_mv (And.intro @pb_load (And.intro @pb_faddr (And.intro @pb_iaddr (And.intro @odKey_t (And.intro @odKey_c (And.intro @nm_4 (And.intro @sa_off (And.intro @sa_slice (And.intro @sa_nil (And.intro @saP_none (And.intro @List.reverse_cons.{0} @List.reverse_nil.{0})))))))))))))))))))))))))))))))))))))))))))))))))))))))))))))))))))))))))))))))))))))))))))))))))))))))))))))))))))))))))))))))))))))))))))))))))))))))))))))))
end Go.Ev
namespace Go.Ev
abbrev Env:=Nat->Nat->AV
abbrev LK:=AExit->TM->St->Nat->Prop
theorem scan {D:TM->St->Nat->LK->Prop} {nt q r L x:Nat} {fz:Fz} {p:Nat->Bool} (Inv:Env->St->Nat->Prop) (Rt:Env->Prop) (hfree:∀e mu n,Inv e mu n->Free fz mu n)
 (step:∀i e mu n (K:LK),i<L->Inv e mu n->e q r=.one (.int .i64 i)->(p i=true->∀e' mu' n',Gr n fz mu mu' n n'->Inv e' mu' n'->e' q r=.one (.int .i64 ((i+1:Nat):Int))->K .normal (tmE nt e') mu' n')->
  (p i=false->∀e' mu' n',Gr n fz mu mu' n n'->Rt e'->K .ret (tmE nt e') mu' n')->D (tmE nt e) mu n K)
 (stop:∀e mu n (K:LK),Inv e mu n->e q r=.one (.int .i64 L)->(∀e' mu' n',Gr n fz mu mu' n n'->Inv e' mu' n'->K (.exit x) (tmE nt e') mu' n')->D (tmE nt e) mu n K):
 ∀(m i fu:Nat) (e:Env) (mu:St) (n:Nat) (K:LK) (w),m=L-i->m<fu->i<=L->Inv e mu n->e q r=.one (.int .i64 i)->
  ((∀j,i<=j->j<L->p j=true)->∀e' mu' n',Gr n fz mu mu' n n'->Inv e' mu' n'->K (.exit x) (tmE nt e') mu' n')->
  ((∃j,i<=j/\j<L/\p j=false)->∀e' mu' n',Gr n fz mu mu' n n'->Rt e'->K .ret (tmE nt e') mu' n')->Lp D fu (tmE nt e) mu n K w:=by
 intro m;induction m with
 |zero=>
  intro i fu e mu n K w hm hfu hi hI hc hd hr;obtain⟨fu,rfl⟩:∃f,fu=f+1:=⟨fu-1,by omega⟩
  rw[Qiy];have:i=L:=by omega
  subst this;exact stop e mu n _ hI hc λe' mu' n' g hI'=>hd (λj h1 h2=>by omega) e' mu' n' g hI'
 |succ m ih=>
  intro i fu e mu n K w hm hfu hi hI hc hd hr;obtain⟨fu,rfl⟩:∃f,fu=f+1:=⟨fu-1,by omega⟩
  rw[Qiy];refine step i e mu n _ (by omega) hI hc (λhp e' mu' n' g hI' hc'=>?_) (λhp e' mu' n' g hR=>hr ⟨i,Nat.le_refl _,by omega,hp⟩ e' mu' n' g hR);refine ih (i+1) fu e' mu' n' K .mk (by omega) (by omega) (by omega) hI' hc' (λha e2 mu2 n2 g2 hI2=>?_) (λhx e2 mu2 n2 g2 hR=>?_)
  ·exact hd (λj h1 h2=>by rcases Nat.eq_or_lt_of_le h1 with rfl|h;exact hp;exact ha j h h2) e2 mu2 n2 (g.trans (g2.weaken g.le)) hI2
  ·obtain⟨j,j1,j2,j3⟩:=hx;exact hr ⟨j,by omega,j2,j3⟩ e2 mu2 n2 (g.trans (g2.weaken g.le)) hR
theorem Lp_at {D:TM->St->Nat->LK->Prop} {fu:Nat} {tm:TM} {mu:St} {n:Nat} {K:LK} {w} (h:Lp D fu tm mu n K w):Lp D fu tm mu n K w:=h
structure Hide (p:Prop):Prop where
 out:p
theorem loopI {D:TM->St->Nat->LK->Prop} {nt L x fu:Nat} {p:Nat->Bool} (Inv:Nat->Env->St->Nat->Prop) (Rt:Env->St->Nat->Prop)
 (step:∀i e mu n (K:LK),i<L->Inv i e mu n->(p i=true->∀e' mu' n',Inv (i+1) e' mu' n'->K .normal (tmE nt e') mu' n')->(p i=false->∀e' mu' n',Rt e' mu' n'->K .ret (tmE nt e') mu' n')->D (tmE nt e) mu n K)
 (stop:∀e mu n (K:LK),Inv L e mu n->(∀e' mu' n',Inv L e' mu' n'->K (.exit x) (tmE nt e') mu' n')->D (tmE nt e) mu n K)
 (e:Env) (mu:St) (n:Nat) (K:LK) (w) (hfu:L<fu) (hI:Inv 0 e mu n)
 (hd:(∀j,0<=j->j<L->p j=true)->∀e' mu' n',Inv L e' mu' n'->K (.exit x) (tmE nt e') mu' n')
 (hr:(∃j,0<=j/\j<L/\p j=false)->∀e' mu' n',Rt e' mu' n'->K .ret (tmE nt e') mu' n'):Lp D fu (tmE nt e) mu n K w:=by
 suffices h:∀(m i fu:Nat) (e:Env) (mu:St) (n:Nat) (K:LK) (w),m=L-i->m<fu->i<=L->Inv i e mu n->((∀j,i<=j->j<L->p j=true)->∀e' mu' n',Inv L e' mu' n'->K (.exit x) (tmE nt e') mu' n')->
  ((∃j,i<=j/\j<L/\p j=false)->∀e' mu' n',Rt e' mu' n'->K .ret (tmE nt e') mu' n')->Lp D fu (tmE nt e) mu n K w from
  h L 0 fu e mu n K w rfl hfu (Nat.zero_le _) hI hd hr
 intro m;induction m with
 |zero=>
  intro i fu e mu n K w hm hfu hi hI hd hr;obtain⟨fu,rfl⟩:∃f,fu=f+1:=⟨fu-1,by omega⟩
  rw[Qiy];have:i=L:=by omega
  subst this;exact stop e mu n _ hI λe' mu' n' hI'=>hd (λj h1 h2=>by omega) e' mu' n' hI'
 |succ m ih=>
  intro i fu e mu n K w hm hfu hi hI hd hr;obtain⟨fu,rfl⟩:∃f,fu=f+1:=⟨fu-1,by omega⟩
  rw[Qiy];refine step i e mu n _ (by omega) hI (λhp e' mu' n' hI'=>?_) (λhp e' mu' n' hR=>hr ⟨i,Nat.le_refl _,by omega,hp⟩ e' mu' n' hR);refine ih (i+1) fu e' mu' n' K .mk (by omega) (by omega) (by omega) hI' (λha=>hd λj h1 h2=>?_) (λhx=>hr ?_)
  ·rcases Nat.eq_or_lt_of_le h1 with rfl|h
   ·exact hp
   ·exact ha j h h2
  ·obtain⟨j,j1,j2,j3⟩:=hx;exact⟨j,by omega,j2,j3⟩
theorem Qet {mu:St} {fz:Fz} {id j:Nat} {c d:List SV} (h:look mu id=some d):with' (putS mu id c) fz j=if id=j then some c else with' mu fz j:=by
 rw[Qe5,Qen,Qe5];by_cases e:id=j
 ·subst e;simp[h]
 ·rw[if_neg e,if_neg e]
theorem Gr.put {lo n n':Nat} {fz:Fz} {mu mu':St} {id:Nat} {c d:List SV} (g:Gr lo fz mu mu' n n') (hl:lo<=id) (h:look mu' id=some d):Gr lo fz mu (putS mu' id c) n n':=by
 refine⟨g.le,λj hj=>?_,λj hj=>?_,λj=>?_⟩
 ·rw[Qet h,if_neg (by omega)];exact g.ext j hj
 ·rw[Qen,if_neg (by omega)];exact g.own j hj
 ·have:=g.free.lt (Qem h);rw[Qet h,if_neg (by omega)];exact g.free j
theorem leafB {k:KT Prop} {fz:Fz} {mu mu':St} {n n':Nat} {s b:Bool} (h:∀mu' n',Gr n fz mu mu' n n'->k (.one (.bool s)) mu' n') (g:Gr n fz mu mu' n n') (e:b=s):k (.one (.bool b)) mu' n':=by rw[e];exact h _ _ g
theorem Qev {i L:Nat} (h:i<L) (hL:L<=4611686018427387904):IntKind.i64.wrap ((i:Int)+1)=((i+1:Nat):Int):=by rw[wrap64 (by omega) (by omega)];rfl
theorem Qh0 {L:Nat} {p:Nat->Bool} (h:∀j,0<=j->j<L->p j=true):(List.range L).all p=true:=by
 rw[List.all_eq_true];intro j hj;exact h j (Nat.zero_le _) (by simpa using hj)
theorem Qf1 {L:Nat} {p:Nat->Bool} (h:∃j,0<=j/\j<L/\p j=false):(List.range L).all p=false:=by
 obtain⟨j,_,h1,h2⟩:=h;rw[Bool.eq_false_iff];intro ha;have:=List.all_eq_true.1 ha j (by simpa using h1);rw[h2]at this;cases this
theorem Ql7 {α:Type} {l:List α} {f:α->Bool} (h:∀j,0<=j->j<l.length->(l[j]?.map f).getD true=true):l.all f=true:=by
 rw[List.all_eq_true];intro a ha;obtain⟨j,h1,h2⟩:=List.getElem_of_mem ha;have:=h j (Nat.zero_le _) h1;rw[List.getElem?_eq_getElem h1]at this;simpa[h2]using this
theorem Qh9 {α:Type} {l:List α} {f:α->Bool} (h:∃j,0<=j/\j<l.length/\(l[j]?.map f).getD true=false):l.all f=false:=by
 obtain⟨j,_,h1,h2⟩:=h;rw[Bool.eq_false_iff];intro ha;have:=List.all_eq_true.1 ha l[j] (List.getElem_mem h1);rw[List.getElem?_eq_getElem h1]at h2;simp at h2;rw[h2]at this;cases this
theorem any_no {α:Type} {l:List α} {p:α->Bool} (h:∀j,0<=j->j<l.length->(!((l[j]?.map p).getD false))=true):l.any p=false:=by
 rw[Bool.eq_false_iff];intro ha;obtain⟨a,ha,hp⟩:=List.any_eq_true.1 ha;obtain⟨j,h1,h2⟩:=List.getElem_of_mem ha;have:=h j (Nat.zero_le _) h1;rw[List.getElem?_eq_getElem h1,h2]at this;simp[hp]at this
theorem Qvy {α:Type} {l:List α} {p:α->Bool} (h:∃j,0<=j/\j<l.length/\(!((l[j]?.map p).getD false))=false):l.any p=true:=by
 obtain⟨j,_,h1,h2⟩:=h;rw[List.getElem?_eq_getElem h1]at h2;exact List.any_eq_true.2 ⟨l[j],List.getElem_mem h1,by simpa using h2⟩
end Go.Ev
