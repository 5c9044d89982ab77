/-
  The evaluator: calls, laws, numbers of a range.
-/
import Derived.Test.YticddijkkbcdmaaGreatEwM4
import Derived.RowKit3
import Derived.ChangeSame
set_option linter.unusedVariables false
set_option linter.unusedSimpArgs false
noncomputable section
namespace Go.Ev
def AExit.toExit:AExit→Exit
 |.normal=>.normal
 |.exit id=>.exit id
 |.ret=>.ret
theorem withAnc_length:∀(l:List AOper) (as:List (List Nat)),l.length=as.length→(withAnc l as).length=l.length
 |[],_,_=>by simp[withAnc]
 |_::l,[],h=>by simp at h
 |_::l,_::as,h=>by simp[withAnc,withAnc_length l as (by simpa using h)]
theorem ancs_length:∀(l:List Oper) (acc:List (List Nat)),(ancs l acc).length=acc.length+l.length
 |[],acc=>by simp[ancs]
 |o::l,acc=>by simp[ancs,ancs_length l];omega
theorem withAnc_get:∀{l:List AOper} {as:List (List Nat)} {i:Nat} {p q:AOper},l[i]?=some p→(withAnc l as)[i]?=some q→q.dst=p.dst∧q.op=p.op∧q.g=p.g
 |[],_,_,_,_,h,_=>by simp at h
 |_::_,[],_,_,_,_,h=>by simp[withAnc]at h
 |a::l,b::as,0,p,q,h,h'=>by simp[withAnc]at h h';subst h;subst h';exact⟨rfl,rfl,rfl⟩
 |a::l,b::as,i+1,p,q,h,h'=>by simp[withAnc]at h h';exact withAnc_get h h'
theorem raise_same (ops:List (AOper×Nat)) (i:Nat) (o:AOper):(raise ops i o).dst=o.dst∧(raise ops i o).op=o.op∧(raise ops i o).g=o.g:=by
 unfold raise
 split
 ·split<;>exact⟨rfl,rfl,rfl⟩
 ·split<;>exact⟨rfl,rfl,rfl⟩
 ·split<;>exact⟨rfl,rfl,rfl⟩
 ·exact⟨rfl,rfl,rfl⟩
theorem prepOpers_length {P:Program} {m:Muts} {ops:Array Oper}:∀{l:List Oper} {al:List AOper},prepOpers P m ops l=some al→al.length=l.length
 |[],al,h=>by simp[prepOpers]at h;subst h;rfl
 |o::l,al,h=>by
  simp only[prepOpers]at h
  split at h
  ·rename_i op g r h1 h2 h3
   cases h
   simp[prepOpers_length h3]
  ·cases h
theorem modes_length {P:Program} {m:Muts} {ops:Array Oper} {l:List Oper} {al:List AOper} (h:prepOpers P m ops l=some al):(modes al (ancs l [])).length=l.length:=by
 have h1:=prepOpers_length h
 simp[modes,withAnc_length al (ancs l []) (by simp[ancs_length,h1]),h1]
theorem modes_get {al:List AOper} {as:List (List Nat)} {i:Nat} {p q:AOper} (h:al[i]?=some p) (h':(modes al as)[i]?=some q):q.dst=p.dst∧q.op=p.op∧q.g=p.g:=by
 unfold modes at h'
 rw[List.getElem?_map]at h'
 obtain⟨⟨x,j⟩,hx,rfl⟩:=Option.map_eq_some_iff.1 h'
 rw[List.getElem?_zipIdx]at hx
 obtain⟨y,hy,e⟩:=Option.map_eq_some_iff.1 hx
 simp at e
 obtain⟨rfl,rfl⟩:=e
 obtain⟨a1,a2,a3⟩:=raise_same ((withAnc al as).zipIdx) i y
 obtain⟨b1,b2,b3⟩:=withAnc_get h hy
 exact⟨a1.trans b1,a2.trans b2,a3.trans b3⟩
theorem OpR.same {P:Program} {ops:Array Oper} {o:Oper} {p q:AOper} (h:OpR P ops o p) (e:q.dst=p.dst∧q.op=p.op∧q.g=p.g):OpR P ops o q:=
 ⟨e.1.trans h.1,by rw[e.2.1];exact h.2.1,by rw[e.2.2];exact h.2.2⟩
section
variable {R:Type} {T:R→Prop} {z:R} {P:Program} {val:Nat→Int} {fz:Fz} {orc:Orc R} {call:CallT R}
end
end Go.Ev
namespace Go.Ev
section
variable {R:Type} {T:R→Prop} {z:R} {P:Program} {val:Nat→Int} {fz:Fz} {orc:Orc R} {call:CallT R}
def resRun (tmps:Array Value):ResultVar→Sem Value
 |.tmp t=>pure (tmps.getD t undef)
 |.cell a t=>do loadVar t (←asAddr (tmps.getD a undef))
def ResR (P:Program):ResultVar→ARes→Prop
 |.tmp t,.tmp q r=>q=t/16∧r=t%16
 |.cell a t,.cell q r g n=>q=a/16∧r=a%16∧aggOf P t=some g∧szOf P t=some n
 |_,_=>False
theorem prepRes_R:∀{l:List ResultVar} {rl:List ARes},prepRes P l=some rl→All2 (ResR P) l rl
 |[],rl,h=>by simp[prepRes]at h;subst h;trivial
 |.tmp t::l,rl,h=>by
  simp only[prepRes]at h
  obtain⟨r,h1,rfl⟩:=Option.map_eq_some_iff.1 h
  exact⟨⟨rfl,rfl⟩,prepRes_R h1⟩
 |.cell a t::l,rl,h=>by
  simp only[prepRes]at h
  split at h
  ·rename_i g n r h1 h2 h3
   split at h
   ·cases h;exact⟨⟨rfl,rfl,h1,h2⟩,prepRes_R h3⟩
   ·cases h
  ·cases h
theorem resVal_sound (hz:¬T z) {rv:ResultVar} {r:ARes} {tm:TM} {mu:St} {k:AV→R} (hr:ResR P rv r) (h:T (resVal z fz r tm mu k)):∃v,T (k v)∧∀ρ w a,Rel val ρ fz mu w→TmR val ρ w tm a→∃x,(resRun a.tmps rv).run P w=.ok x w∧AVR val ρ w v x:=by
 cases rv with
 |tmp t=>cases r with
  |cell q r g n=>exact hr.elim
  |tmp q r=>
   obtain⟨rfl,rfl⟩:=hr
   exact⟨_,h,λρ w a _ ht=>⟨a.tmps.getD t undef,by simp[resRun],ht.vals t⟩⟩
 |cell a t=>cases r with
  |tmp q r=>exact hr.elim
  |cell q r g n=>
   obtain⟨rfl,rfl,ha,hs⟩:=hr
   have h':T ((get tm (a/16) (a%16)).onOne z λs=>s.onPtr z λid off=>lookAll fz mu id z λcs=>subK cs off n z λc=>asRes g c z k):=h
   obtain⟨s,e1,h1⟩:=onOne_elim hz h'
   obtain⟨id,off,rfl,h2⟩:=onPtr_elim hz h1
   obtain⟨cs,h3,h4⟩:=lookAll_elim hz h2
   obtain⟨h5,h6⟩:=subK_elim hz h4
   obtain⟨v,h7,h8⟩:=asRes_elim hz h6
   refine⟨v,h8,λρ w act hrel ht=>?_⟩
   have hv:=ht.vals a
   rw[e1]at hv
   obtain⟨p,hp,hx⟩:=hv
   obtain⟨vs,g1,g2,g3,g4⟩:=(seen hrel h3).read (P:=P) hp h5
   obtain⟨x,g5,g6⟩:=load_run ha hs g1 g2 g3 g4 h7
   exact⟨x,by simp[resRun,hx,asAddr,g5],g6⟩
theorem toCV_elim (hz:¬T z) {v:AV} {k:CV→R} (h:T (toCV z v k)):∃c,T (k c)∧∀ρ w x,AVR val ρ w v x→CVR val ρ w c x:=by
 cases v with
 |one s=>exact⟨.one s,h,λ_ _ _ hx=>hx⟩
 |ag l=>exact⟨.ag l,h,λ_ _ _ hx=>hx⟩
 |tp l=>exact(hz h).elim
theorem resAll_sound (hz:¬T z):∀{l:List ResultVar} {rl:List ARes} {tm:TM} {mu:St} {k:List CV→R},All2 (ResR P) l rl→T (resAll z fz rl tm mu k)→
 ∃cs,T (k cs)∧∀ρ w a,Rel val ρ fz mu w→TmR val ρ w tm a→∃xs:List Value,(l.mapM (resRun a.tmps)).run P w=.ok xs w∧xs.length=l.length∧All2 (CVR val ρ w) cs xs
 |[],[],tm,mu,k,_,h=>⟨[],h,λρ w a _ _=>⟨[],by simp,rfl,trivial⟩⟩
 |[],_::_,_,_,_,hl,_=>hl.elim
 |_::_,[],_,_,_,hl,_=>hl.elim
 |rv::l,r::rl,tm,mu,k,hl,h=>by
  obtain⟨v,h1,h2⟩:=resVal_sound (P:=P) (val:=val) hz hl.1 (show T (resVal z fz r tm mu λv=>toCV z v λc=>resAll z fz rl tm mu λcs=>k (c::cs))from h)
  obtain⟨c,h3,h4⟩:=toCV_elim (val:=val) hz h1
  obtain⟨cs,h5,h6⟩:=resAll_sound hz hl.2 h3
  refine⟨c::cs,h5,λρ w a hr ht=>?_⟩
  obtain⟨x,g1,g2⟩:=h2 ρ w a hr ht
  obtain⟨xs,g3,gl,g4⟩:=h6 ρ w a hr ht
  exact⟨x::xs,by simp[List.mapM_cons,g1,g3],by simp[gl],h4 _ _ _ g2,g4⟩
theorem results_run {fn:Func} {tmps:Array Value} {w:World} {xs:List Value} (h:(fn.results.toList.mapM (resRun tmps)).run P w=.ok xs w):
 (results fn tmps).run P w=.ok (if hx:xs.toArray.size=1 then xs.toArray[0]else .tuple xs.toArray) w:=by
 have e:results fn tmps=(fn.results.mapM (resRun tmps)) >>= λvs=>pure (if h:vs.size=1 then vs[0]else .tuple vs):=by
  unfold results
  congr 1
 rw[e,Array.mapM_eq_mapM_toList]
 simp[h]
theorem resK_sound (hz:¬T z) {fn:Func} {rl:List ARes} {tm:TM} {mu:St} {k:AV→R} (hp:prepRes P fn.results.toList=some rl) (h:T (resK z fz rl tm mu k)):
 ∃v,T (k v)∧∀ρ w a,Rel val ρ fz mu w→TmR val ρ w tm a→∃x,(results fn a.tmps).run P w=.ok x w∧AVR val ρ w v x:=by
 have hR:=prepRes_R hp
 generalize hl:fn.results.toList=l at hR
 cases rl with
 |nil=>cases l with
  |cons _ _=>exact hR.elim
  |nil=>
   refine⟨.tp [],h,λρ w a _ _=>⟨_,results_run (xs:=[]) (by rw[hl];simp),[],by simp,trivial⟩⟩
 |cons r t=>cases l with
  |nil=>exact hR.elim
  |cons rv l=>
   cases t with
   |nil=>cases l with
    |cons _ _=>exact hR.2.elim
    |nil=>
     obtain⟨v,h1,h2⟩:=resVal_sound (P:=P) (val:=val) hz hR.1 (show T (resVal z fz r tm mu k)from h)
     refine⟨v,h1,λρ w a hr ht=>?_⟩
     obtain⟨x,g1,g2⟩:=h2 ρ w a hr ht
     exact⟨_,results_run (xs:=[x]) (by rw[hl];simp[g1]),by simpa using g2⟩
   |cons r2 t=>cases l with
    |nil=>exact hR.2.elim
    |cons rv2 l=>
     obtain⟨cs,h1,h2⟩:=resAll_sound (P:=P) (val:=val) hz hR (show T (resAll z fz (r::r2::t) tm mu λcs=>k (.tp cs))from h)
     refine⟨_,h1,λρ w a hr ht=>?_⟩
     obtain⟨xs,g1,gl,g2⟩:=h2 ρ w a hr ht
     refine⟨_,results_run (xs:=xs) (by rw[hl];exact g1),?_⟩
     have hlen:xs.toArray.size≠1:=by
      simp at gl
      simp[gl]
     simp only[hlen,dite_false]
     exact⟨xs,rfl,g2⟩
abbrev Contract (R:Type):=List AV→Fz→St→Nat→(AV→St→Nat→R)→R
def ContractOk (T:R→Prop) (P:Program) (val:Nat→Int) (f:Nat) (c:Contract R):Prop:=
 ∀args fz mu n k,T (c args fz mu n k)→∃v mu' n',T (k v mu' n')∧hasBody P f=true∧n≤n'∧∀ρ w (xs:List Value),Rel val ρ fz mu w→All2 (AVR val ρ w) args xs→FreshN ρ n n'→
  Calls P f xs.toArray w λe w'=>∃x,e=.returned x∧Post val ρ fz mu n w v mu' n' x w'
end
end Go.Ev
namespace Go.Ev
section
open Go.ChangeShapes Go.WideShapes
variable {H:Type} {enc:TypeId×Value→H} {P:Program}
end
def mutsOf (l:List Nat) (dy:Bool):Muts:=⟨λf=>l.any λx=>Nat.beq x f,dy⟩
end Go.Ev
namespace Go.Ev
section
variable {R:Type} {T:R→Prop} {z:R} {P:Program} {val:Nat→Int}
def SaysTrue (P:Program) (f:Nat):Prop:=∀w,Calls P f #[] w λe w'=>e=.returned (.bool true)∧Fr (λ_=>none) [] w w'
end
def noOrc {R:Type} (z:R):Orc R:=⟨λ_ _ _ _ _=>z,λ_ _ _ _ _=>z,λ_ _ _=>z,λ_ _=>z,true⟩
theorem noOrc_ok {R:Type} {T:R→Prop} {z:R} (hz:¬T z) (val:Nat→Int):OrcOk T val (noOrc z):=⟨λ_ _ _ _ _ h=>(hz h).elim,λ_ _ _ _ _ h=>(hz h).elim,λ_ _ _ h=>(hz h).elim,λ_ _ h=>(hz h).elim⟩
end Go.Ev
namespace Go.Ev
abbrev PC:=List (Nat×Nat)
abbrev RR:=PC→Bool
def zz:RR:=λ_=>false
def PcOk (m:Nat→Nat) (pc:PC):Prop:=∀(j:Nat) (p:Nat×Nat),pc[j]?=some p→p.1≤m j∧m j≤p.2
def TT (m:Nat→Nat) (r:RR):Prop:=∃pc,PcOk m pc∧r pc=true
theorem zz_not {m:Nat→Nat}:¬TT m zz:=λ⟨_,_,h⟩=>by cases h
section
variable {m:Nat→Nat}
end
def wide:IntKind→Bool
 |.i64=>true
 |.u64=>true
 |_=>false
section
variable {raw:Nat→Int} {m:Nat→Nat}
end
def isR (v:AV) (_:St) (_:Nat):RR:=v.onOne zz λs=>s.onBool zz λb _=>b
theorem isR_elim {m:Nat→Nat} (v:AV) (mu:St) (n:Nat) (h:TT m (isR v mu n)):v=.one (.bool true):=by
 obtain⟨s,rfl,h1⟩:=onOne_elim zz_not h
 obtain⟨b,rfl,pc,_,h2⟩:=onBool_elim zz_not h1
 have h3:b=true:=h2
 rw[h3]
end Go.Ev
namespace Go.Ev
inductive S16 where
 |s0
 |s1
 |s2
 |s3
 |s4
 |s5
 |s6
 |s7
 |s8
 |s9
 |s10
 |s11
 |s12
 |s13
 |s14
 |s15
def S16.n:S16→Nat
 |.s0=>0
 |.s1=>1
 |.s2=>2
 |.s3=>3
 |.s4=>4
 |.s5=>5
 |.s6=>6
 |.s7=>7
 |.s8=>8
 |.s9=>9
 |.s10=>10
 |.s11=>11
 |.s12=>12
 |.s13=>13
 |.s14=>14
 |.s15=>15
inductive Row where
 |mk (a0 a1 a2 a3 a4 a5 a6 a7 a8 a9 a10 a11 a12 a13 a14 a15:AV)
inductive T2 where
 |mk (r0 r1 r2 r3 r4 r5 r6 r7 r8 r9 r10 r11 r12 r13 r14 r15:Row)
def rg (s:S16) (r:Row):AV:=S16.rec (motive:=λ_=>Row→AV)
 (λr=>Row.rec (motive:=λ_=>AV) (λa0 _ _ _ _ _ _ _ _ _ _ _ _ _ _ _=>a0) r)
 (λr=>Row.rec (motive:=λ_=>AV) (λ_ a1 _ _ _ _ _ _ _ _ _ _ _ _ _ _=>a1) r)
 (λr=>Row.rec (motive:=λ_=>AV) (λ_ _ a2 _ _ _ _ _ _ _ _ _ _ _ _ _=>a2) r)
 (λr=>Row.rec (motive:=λ_=>AV) (λ_ _ _ a3 _ _ _ _ _ _ _ _ _ _ _ _=>a3) r)
 (λr=>Row.rec (motive:=λ_=>AV) (λ_ _ _ _ a4 _ _ _ _ _ _ _ _ _ _ _=>a4) r)
 (λr=>Row.rec (motive:=λ_=>AV) (λ_ _ _ _ _ a5 _ _ _ _ _ _ _ _ _ _=>a5) r)
 (λr=>Row.rec (motive:=λ_=>AV) (λ_ _ _ _ _ _ a6 _ _ _ _ _ _ _ _ _=>a6) r)
 (λr=>Row.rec (motive:=λ_=>AV) (λ_ _ _ _ _ _ _ a7 _ _ _ _ _ _ _ _=>a7) r)
 (λr=>Row.rec (motive:=λ_=>AV) (λ_ _ _ _ _ _ _ _ a8 _ _ _ _ _ _ _=>a8) r)
 (λr=>Row.rec (motive:=λ_=>AV) (λ_ _ _ _ _ _ _ _ _ a9 _ _ _ _ _ _=>a9) r)
 (λr=>Row.rec (motive:=λ_=>AV) (λ_ _ _ _ _ _ _ _ _ _ a10 _ _ _ _ _=>a10) r)
 (λr=>Row.rec (motive:=λ_=>AV) (λ_ _ _ _ _ _ _ _ _ _ _ a11 _ _ _ _=>a11) r)
 (λr=>Row.rec (motive:=λ_=>AV) (λ_ _ _ _ _ _ _ _ _ _ _ _ a12 _ _ _=>a12) r)
 (λr=>Row.rec (motive:=λ_=>AV) (λ_ _ _ _ _ _ _ _ _ _ _ _ _ a13 _ _=>a13) r)
 (λr=>Row.rec (motive:=λ_=>AV) (λ_ _ _ _ _ _ _ _ _ _ _ _ _ _ a14 _=>a14) r)
 (λr=>Row.rec (motive:=λ_=>AV) (λ_ _ _ _ _ _ _ _ _ _ _ _ _ _ _ a15=>a15) r)
 s r
def rs (s:S16) (r:Row) (v:AV) (k:Row→RR):RR:=S16.rec (motive:=λ_=>Row→AV→(Row→RR)→RR)
 (λr v k=>Row.rec (motive:=λ_=>AV→(Row→RR)→RR) (λ_ a1 a2 a3 a4 a5 a6 a7 a8 a9 a10 a11 a12 a13 a14 a15 v k=>k (.mk v a1 a2 a3 a4 a5 a6 a7 a8 a9 a10 a11 a12 a13 a14 a15)) r v k)
 (λr v k=>Row.rec (motive:=λ_=>AV→(Row→RR)→RR) (λa0 _ a2 a3 a4 a5 a6 a7 a8 a9 a10 a11 a12 a13 a14 a15 v k=>k (.mk a0 v a2 a3 a4 a5 a6 a7 a8 a9 a10 a11 a12 a13 a14 a15)) r v k)
 (λr v k=>Row.rec (motive:=λ_=>AV→(Row→RR)→RR) (λa0 a1 _ a3 a4 a5 a6 a7 a8 a9 a10 a11 a12 a13 a14 a15 v k=>k (.mk a0 a1 v a3 a4 a5 a6 a7 a8 a9 a10 a11 a12 a13 a14 a15)) r v k)
 (λr v k=>Row.rec (motive:=λ_=>AV→(Row→RR)→RR) (λa0 a1 a2 _ a4 a5 a6 a7 a8 a9 a10 a11 a12 a13 a14 a15 v k=>k (.mk a0 a1 a2 v a4 a5 a6 a7 a8 a9 a10 a11 a12 a13 a14 a15)) r v k)
 (λr v k=>Row.rec (motive:=λ_=>AV→(Row→RR)→RR) (λa0 a1 a2 a3 _ a5 a6 a7 a8 a9 a10 a11 a12 a13 a14 a15 v k=>k (.mk a0 a1 a2 a3 v a5 a6 a7 a8 a9 a10 a11 a12 a13 a14 a15)) r v k)
 (λr v k=>Row.rec (motive:=λ_=>AV→(Row→RR)→RR) (λa0 a1 a2 a3 a4 _ a6 a7 a8 a9 a10 a11 a12 a13 a14 a15 v k=>k (.mk a0 a1 a2 a3 a4 v a6 a7 a8 a9 a10 a11 a12 a13 a14 a15)) r v k)
 (λr v k=>Row.rec (motive:=λ_=>AV→(Row→RR)→RR) (λa0 a1 a2 a3 a4 a5 _ a7 a8 a9 a10 a11 a12 a13 a14 a15 v k=>k (.mk a0 a1 a2 a3 a4 a5 v a7 a8 a9 a10 a11 a12 a13 a14 a15)) r v k)
 (λr v k=>Row.rec (motive:=λ_=>AV→(Row→RR)→RR) (λa0 a1 a2 a3 a4 a5 a6 _ a8 a9 a10 a11 a12 a13 a14 a15 v k=>k (.mk a0 a1 a2 a3 a4 a5 a6 v a8 a9 a10 a11 a12 a13 a14 a15)) r v k)
 (λr v k=>Row.rec (motive:=λ_=>AV→(Row→RR)→RR) (λa0 a1 a2 a3 a4 a5 a6 a7 _ a9 a10 a11 a12 a13 a14 a15 v k=>k (.mk a0 a1 a2 a3 a4 a5 a6 a7 v a9 a10 a11 a12 a13 a14 a15)) r v k)
 (λr v k=>Row.rec (motive:=λ_=>AV→(Row→RR)→RR) (λa0 a1 a2 a3 a4 a5 a6 a7 a8 _ a10 a11 a12 a13 a14 a15 v k=>k (.mk a0 a1 a2 a3 a4 a5 a6 a7 a8 v a10 a11 a12 a13 a14 a15)) r v k)
 (λr v k=>Row.rec (motive:=λ_=>AV→(Row→RR)→RR) (λa0 a1 a2 a3 a4 a5 a6 a7 a8 a9 _ a11 a12 a13 a14 a15 v k=>k (.mk a0 a1 a2 a3 a4 a5 a6 a7 a8 a9 v a11 a12 a13 a14 a15)) r v k)
 (λr v k=>Row.rec (motive:=λ_=>AV→(Row→RR)→RR) (λa0 a1 a2 a3 a4 a5 a6 a7 a8 a9 a10 _ a12 a13 a14 a15 v k=>k (.mk a0 a1 a2 a3 a4 a5 a6 a7 a8 a9 a10 v a12 a13 a14 a15)) r v k)
 (λr v k=>Row.rec (motive:=λ_=>AV→(Row→RR)→RR) (λa0 a1 a2 a3 a4 a5 a6 a7 a8 a9 a10 a11 _ a13 a14 a15 v k=>k (.mk a0 a1 a2 a3 a4 a5 a6 a7 a8 a9 a10 a11 v a13 a14 a15)) r v k)
 (λr v k=>Row.rec (motive:=λ_=>AV→(Row→RR)→RR) (λa0 a1 a2 a3 a4 a5 a6 a7 a8 a9 a10 a11 a12 _ a14 a15 v k=>k (.mk a0 a1 a2 a3 a4 a5 a6 a7 a8 a9 a10 a11 a12 v a14 a15)) r v k)
 (λr v k=>Row.rec (motive:=λ_=>AV→(Row→RR)→RR) (λa0 a1 a2 a3 a4 a5 a6 a7 a8 a9 a10 a11 a12 a13 _ a15 v k=>k (.mk a0 a1 a2 a3 a4 a5 a6 a7 a8 a9 a10 a11 a12 a13 v a15)) r v k)
 (λr v k=>Row.rec (motive:=λ_=>AV→(Row→RR)→RR) (λa0 a1 a2 a3 a4 a5 a6 a7 a8 a9 a10 a11 a12 a13 a14 _ v k=>k (.mk a0 a1 a2 a3 a4 a5 a6 a7 a8 a9 a10 a11 a12 a13 a14 v)) r v k)
 s r v k
def rset (s:S16) (r:Row) (v:AV):Row:=S16.rec (motive:=λ_=>Row)
 (Row.rec (motive:=λ_=>Row) (λ_ a1 a2 a3 a4 a5 a6 a7 a8 a9 a10 a11 a12 a13 a14 a15=>.mk v a1 a2 a3 a4 a5 a6 a7 a8 a9 a10 a11 a12 a13 a14 a15) r)
 (Row.rec (motive:=λ_=>Row) (λa0 _ a2 a3 a4 a5 a6 a7 a8 a9 a10 a11 a12 a13 a14 a15=>.mk a0 v a2 a3 a4 a5 a6 a7 a8 a9 a10 a11 a12 a13 a14 a15) r)
 (Row.rec (motive:=λ_=>Row) (λa0 a1 _ a3 a4 a5 a6 a7 a8 a9 a10 a11 a12 a13 a14 a15=>.mk a0 a1 v a3 a4 a5 a6 a7 a8 a9 a10 a11 a12 a13 a14 a15) r)
 (Row.rec (motive:=λ_=>Row) (λa0 a1 a2 _ a4 a5 a6 a7 a8 a9 a10 a11 a12 a13 a14 a15=>.mk a0 a1 a2 v a4 a5 a6 a7 a8 a9 a10 a11 a12 a13 a14 a15) r)
 (Row.rec (motive:=λ_=>Row) (λa0 a1 a2 a3 _ a5 a6 a7 a8 a9 a10 a11 a12 a13 a14 a15=>.mk a0 a1 a2 a3 v a5 a6 a7 a8 a9 a10 a11 a12 a13 a14 a15) r)
 (Row.rec (motive:=λ_=>Row) (λa0 a1 a2 a3 a4 _ a6 a7 a8 a9 a10 a11 a12 a13 a14 a15=>.mk a0 a1 a2 a3 a4 v a6 a7 a8 a9 a10 a11 a12 a13 a14 a15) r)
 (Row.rec (motive:=λ_=>Row) (λa0 a1 a2 a3 a4 a5 _ a7 a8 a9 a10 a11 a12 a13 a14 a15=>.mk a0 a1 a2 a3 a4 a5 v a7 a8 a9 a10 a11 a12 a13 a14 a15) r)
 (Row.rec (motive:=λ_=>Row) (λa0 a1 a2 a3 a4 a5 a6 _ a8 a9 a10 a11 a12 a13 a14 a15=>.mk a0 a1 a2 a3 a4 a5 a6 v a8 a9 a10 a11 a12 a13 a14 a15) r)
 (Row.rec (motive:=λ_=>Row) (λa0 a1 a2 a3 a4 a5 a6 a7 _ a9 a10 a11 a12 a13 a14 a15=>.mk a0 a1 a2 a3 a4 a5 a6 a7 v a9 a10 a11 a12 a13 a14 a15) r)
 (Row.rec (motive:=λ_=>Row) (λa0 a1 a2 a3 a4 a5 a6 a7 a8 _ a10 a11 a12 a13 a14 a15=>.mk a0 a1 a2 a3 a4 a5 a6 a7 a8 v a10 a11 a12 a13 a14 a15) r)
 (Row.rec (motive:=λ_=>Row) (λa0 a1 a2 a3 a4 a5 a6 a7 a8 a9 _ a11 a12 a13 a14 a15=>.mk a0 a1 a2 a3 a4 a5 a6 a7 a8 a9 v a11 a12 a13 a14 a15) r)
 (Row.rec (motive:=λ_=>Row) (λa0 a1 a2 a3 a4 a5 a6 a7 a8 a9 a10 _ a12 a13 a14 a15=>.mk a0 a1 a2 a3 a4 a5 a6 a7 a8 a9 a10 v a12 a13 a14 a15) r)
 (Row.rec (motive:=λ_=>Row) (λa0 a1 a2 a3 a4 a5 a6 a7 a8 a9 a10 a11 _ a13 a14 a15=>.mk a0 a1 a2 a3 a4 a5 a6 a7 a8 a9 a10 a11 v a13 a14 a15) r)
 (Row.rec (motive:=λ_=>Row) (λa0 a1 a2 a3 a4 a5 a6 a7 a8 a9 a10 a11 a12 _ a14 a15=>.mk a0 a1 a2 a3 a4 a5 a6 a7 a8 a9 a10 a11 a12 v a14 a15) r)
 (Row.rec (motive:=λ_=>Row) (λa0 a1 a2 a3 a4 a5 a6 a7 a8 a9 a10 a11 a12 a13 _ a15=>.mk a0 a1 a2 a3 a4 a5 a6 a7 a8 a9 a10 a11 a12 a13 v a15) r)
 (Row.rec (motive:=λ_=>Row) (λa0 a1 a2 a3 a4 a5 a6 a7 a8 a9 a10 a11 a12 a13 a14 _=>.mk a0 a1 a2 a3 a4 a5 a6 a7 a8 a9 a10 a11 a12 a13 a14 v) r)
 s
def tg (s:S16) (t:T2):Row:=S16.rec (motive:=λ_=>T2→Row)
 (λt=>T2.rec (motive:=λ_=>Row) (λr0 _ _ _ _ _ _ _ _ _ _ _ _ _ _ _=>r0) t)
 (λt=>T2.rec (motive:=λ_=>Row) (λ_ r1 _ _ _ _ _ _ _ _ _ _ _ _ _ _=>r1) t)
 (λt=>T2.rec (motive:=λ_=>Row) (λ_ _ r2 _ _ _ _ _ _ _ _ _ _ _ _ _=>r2) t)
 (λt=>T2.rec (motive:=λ_=>Row) (λ_ _ _ r3 _ _ _ _ _ _ _ _ _ _ _ _=>r3) t)
 (λt=>T2.rec (motive:=λ_=>Row) (λ_ _ _ _ r4 _ _ _ _ _ _ _ _ _ _ _=>r4) t)
 (λt=>T2.rec (motive:=λ_=>Row) (λ_ _ _ _ _ r5 _ _ _ _ _ _ _ _ _ _=>r5) t)
 (λt=>T2.rec (motive:=λ_=>Row) (λ_ _ _ _ _ _ r6 _ _ _ _ _ _ _ _ _=>r6) t)
 (λt=>T2.rec (motive:=λ_=>Row) (λ_ _ _ _ _ _ _ r7 _ _ _ _ _ _ _ _=>r7) t)
 (λt=>T2.rec (motive:=λ_=>Row) (λ_ _ _ _ _ _ _ _ r8 _ _ _ _ _ _ _=>r8) t)
 (λt=>T2.rec (motive:=λ_=>Row) (λ_ _ _ _ _ _ _ _ _ r9 _ _ _ _ _ _=>r9) t)
 (λt=>T2.rec (motive:=λ_=>Row) (λ_ _ _ _ _ _ _ _ _ _ r10 _ _ _ _ _=>r10) t)
 (λt=>T2.rec (motive:=λ_=>Row) (λ_ _ _ _ _ _ _ _ _ _ _ r11 _ _ _ _=>r11) t)
 (λt=>T2.rec (motive:=λ_=>Row) (λ_ _ _ _ _ _ _ _ _ _ _ _ r12 _ _ _=>r12) t)
 (λt=>T2.rec (motive:=λ_=>Row) (λ_ _ _ _ _ _ _ _ _ _ _ _ _ r13 _ _=>r13) t)
 (λt=>T2.rec (motive:=λ_=>Row) (λ_ _ _ _ _ _ _ _ _ _ _ _ _ _ r14 _=>r14) t)
 (λt=>T2.rec (motive:=λ_=>Row) (λ_ _ _ _ _ _ _ _ _ _ _ _ _ _ _ r15=>r15) t)
 s t
def ts (s:S16) (t:T2) (r:Row) (k:T2→RR):RR:=S16.rec (motive:=λ_=>T2→Row→(T2→RR)→RR)
 (λt r k=>T2.rec (motive:=λ_=>Row→(T2→RR)→RR) (λ_ r1 r2 r3 r4 r5 r6 r7 r8 r9 r10 r11 r12 r13 r14 r15 r k=>k (.mk r r1 r2 r3 r4 r5 r6 r7 r8 r9 r10 r11 r12 r13 r14 r15)) t r k)
 (λt r k=>T2.rec (motive:=λ_=>Row→(T2→RR)→RR) (λr0 _ r2 r3 r4 r5 r6 r7 r8 r9 r10 r11 r12 r13 r14 r15 r k=>k (.mk r0 r r2 r3 r4 r5 r6 r7 r8 r9 r10 r11 r12 r13 r14 r15)) t r k)
 (λt r k=>T2.rec (motive:=λ_=>Row→(T2→RR)→RR) (λr0 r1 _ r3 r4 r5 r6 r7 r8 r9 r10 r11 r12 r13 r14 r15 r k=>k (.mk r0 r1 r r3 r4 r5 r6 r7 r8 r9 r10 r11 r12 r13 r14 r15)) t r k)
 (λt r k=>T2.rec (motive:=λ_=>Row→(T2→RR)→RR) (λr0 r1 r2 _ r4 r5 r6 r7 r8 r9 r10 r11 r12 r13 r14 r15 r k=>k (.mk r0 r1 r2 r r4 r5 r6 r7 r8 r9 r10 r11 r12 r13 r14 r15)) t r k)
 (λt r k=>T2.rec (motive:=λ_=>Row→(T2→RR)→RR) (λr0 r1 r2 r3 _ r5 r6 r7 r8 r9 r10 r11 r12 r13 r14 r15 r k=>k (.mk r0 r1 r2 r3 r r5 r6 r7 r8 r9 r10 r11 r12 r13 r14 r15)) t r k)
 (λt r k=>T2.rec (motive:=λ_=>Row→(T2→RR)→RR) (λr0 r1 r2 r3 r4 _ r6 r7 r8 r9 r10 r11 r12 r13 r14 r15 r k=>k (.mk r0 r1 r2 r3 r4 r r6 r7 r8 r9 r10 r11 r12 r13 r14 r15)) t r k)
 (λt r k=>T2.rec (motive:=λ_=>Row→(T2→RR)→RR) (λr0 r1 r2 r3 r4 r5 _ r7 r8 r9 r10 r11 r12 r13 r14 r15 r k=>k (.mk r0 r1 r2 r3 r4 r5 r r7 r8 r9 r10 r11 r12 r13 r14 r15)) t r k)
 (λt r k=>T2.rec (motive:=λ_=>Row→(T2→RR)→RR) (λr0 r1 r2 r3 r4 r5 r6 _ r8 r9 r10 r11 r12 r13 r14 r15 r k=>k (.mk r0 r1 r2 r3 r4 r5 r6 r r8 r9 r10 r11 r12 r13 r14 r15)) t r k)
 (λt r k=>T2.rec (motive:=λ_=>Row→(T2→RR)→RR) (λr0 r1 r2 r3 r4 r5 r6 r7 _ r9 r10 r11 r12 r13 r14 r15 r k=>k (.mk r0 r1 r2 r3 r4 r5 r6 r7 r r9 r10 r11 r12 r13 r14 r15)) t r k)
 (λt r k=>T2.rec (motive:=λ_=>Row→(T2→RR)→RR) (λr0 r1 r2 r3 r4 r5 r6 r7 r8 _ r10 r11 r12 r13 r14 r15 r k=>k (.mk r0 r1 r2 r3 r4 r5 r6 r7 r8 r r10 r11 r12 r13 r14 r15)) t r k)
 (λt r k=>T2.rec (motive:=λ_=>Row→(T2→RR)→RR) (λr0 r1 r2 r3 r4 r5 r6 r7 r8 r9 _ r11 r12 r13 r14 r15 r k=>k (.mk r0 r1 r2 r3 r4 r5 r6 r7 r8 r9 r r11 r12 r13 r14 r15)) t r k)
 (λt r k=>T2.rec (motive:=λ_=>Row→(T2→RR)→RR) (λr0 r1 r2 r3 r4 r5 r6 r7 r8 r9 r10 _ r12 r13 r14 r15 r k=>k (.mk r0 r1 r2 r3 r4 r5 r6 r7 r8 r9 r10 r r12 r13 r14 r15)) t r k)
 (λt r k=>T2.rec (motive:=λ_=>Row→(T2→RR)→RR) (λr0 r1 r2 r3 r4 r5 r6 r7 r8 r9 r10 r11 _ r13 r14 r15 r k=>k (.mk r0 r1 r2 r3 r4 r5 r6 r7 r8 r9 r10 r11 r r13 r14 r15)) t r k)
 (λt r k=>T2.rec (motive:=λ_=>Row→(T2→RR)→RR) (λr0 r1 r2 r3 r4 r5 r6 r7 r8 r9 r10 r11 r12 _ r14 r15 r k=>k (.mk r0 r1 r2 r3 r4 r5 r6 r7 r8 r9 r10 r11 r12 r r14 r15)) t r k)
 (λt r k=>T2.rec (motive:=λ_=>Row→(T2→RR)→RR) (λr0 r1 r2 r3 r4 r5 r6 r7 r8 r9 r10 r11 r12 r13 _ r15 r k=>k (.mk r0 r1 r2 r3 r4 r5 r6 r7 r8 r9 r10 r11 r12 r13 r r15)) t r k)
 (λt r k=>T2.rec (motive:=λ_=>Row→(T2→RR)→RR) (λr0 r1 r2 r3 r4 r5 r6 r7 r8 r9 r10 r11 r12 r13 r14 _ r k=>k (.mk r0 r1 r2 r3 r4 r5 r6 r7 r8 r9 r10 r11 r12 r13 r14 r)) t r k)
 s t r k
def tset (s:S16) (t:T2) (r:Row):T2:=S16.rec (motive:=λ_=>T2)
 (T2.rec (motive:=λ_=>T2) (λ_ r1 r2 r3 r4 r5 r6 r7 r8 r9 r10 r11 r12 r13 r14 r15=>.mk r r1 r2 r3 r4 r5 r6 r7 r8 r9 r10 r11 r12 r13 r14 r15) t)
 (T2.rec (motive:=λ_=>T2) (λr0 _ r2 r3 r4 r5 r6 r7 r8 r9 r10 r11 r12 r13 r14 r15=>.mk r0 r r2 r3 r4 r5 r6 r7 r8 r9 r10 r11 r12 r13 r14 r15) t)
 (T2.rec (motive:=λ_=>T2) (λr0 r1 _ r3 r4 r5 r6 r7 r8 r9 r10 r11 r12 r13 r14 r15=>.mk r0 r1 r r3 r4 r5 r6 r7 r8 r9 r10 r11 r12 r13 r14 r15) t)
 (T2.rec (motive:=λ_=>T2) (λr0 r1 r2 _ r4 r5 r6 r7 r8 r9 r10 r11 r12 r13 r14 r15=>.mk r0 r1 r2 r r4 r5 r6 r7 r8 r9 r10 r11 r12 r13 r14 r15) t)
 (T2.rec (motive:=λ_=>T2) (λr0 r1 r2 r3 _ r5 r6 r7 r8 r9 r10 r11 r12 r13 r14 r15=>.mk r0 r1 r2 r3 r r5 r6 r7 r8 r9 r10 r11 r12 r13 r14 r15) t)
 (T2.rec (motive:=λ_=>T2) (λr0 r1 r2 r3 r4 _ r6 r7 r8 r9 r10 r11 r12 r13 r14 r15=>.mk r0 r1 r2 r3 r4 r r6 r7 r8 r9 r10 r11 r12 r13 r14 r15) t)
 (T2.rec (motive:=λ_=>T2) (λr0 r1 r2 r3 r4 r5 _ r7 r8 r9 r10 r11 r12 r13 r14 r15=>.mk r0 r1 r2 r3 r4 r5 r r7 r8 r9 r10 r11 r12 r13 r14 r15) t)
 (T2.rec (motive:=λ_=>T2) (λr0 r1 r2 r3 r4 r5 r6 _ r8 r9 r10 r11 r12 r13 r14 r15=>.mk r0 r1 r2 r3 r4 r5 r6 r r8 r9 r10 r11 r12 r13 r14 r15) t)
 (T2.rec (motive:=λ_=>T2) (λr0 r1 r2 r3 r4 r5 r6 r7 _ r9 r10 r11 r12 r13 r14 r15=>.mk r0 r1 r2 r3 r4 r5 r6 r7 r r9 r10 r11 r12 r13 r14 r15) t)
 (T2.rec (motive:=λ_=>T2) (λr0 r1 r2 r3 r4 r5 r6 r7 r8 _ r10 r11 r12 r13 r14 r15=>.mk r0 r1 r2 r3 r4 r5 r6 r7 r8 r r10 r11 r12 r13 r14 r15) t)
 (T2.rec (motive:=λ_=>T2) (λr0 r1 r2 r3 r4 r5 r6 r7 r8 r9 _ r11 r12 r13 r14 r15=>.mk r0 r1 r2 r3 r4 r5 r6 r7 r8 r9 r r11 r12 r13 r14 r15) t)
 (T2.rec (motive:=λ_=>T2) (λr0 r1 r2 r3 r4 r5 r6 r7 r8 r9 r10 _ r12 r13 r14 r15=>.mk r0 r1 r2 r3 r4 r5 r6 r7 r8 r9 r10 r r12 r13 r14 r15) t)
 (T2.rec (motive:=λ_=>T2) (λr0 r1 r2 r3 r4 r5 r6 r7 r8 r9 r10 r11 _ r13 r14 r15=>.mk r0 r1 r2 r3 r4 r5 r6 r7 r8 r9 r10 r11 r r13 r14 r15) t)
 (T2.rec (motive:=λ_=>T2) (λr0 r1 r2 r3 r4 r5 r6 r7 r8 r9 r10 r11 r12 _ r14 r15=>.mk r0 r1 r2 r3 r4 r5 r6 r7 r8 r9 r10 r11 r12 r r14 r15) t)
 (T2.rec (motive:=λ_=>T2) (λr0 r1 r2 r3 r4 r5 r6 r7 r8 r9 r10 r11 r12 r13 _ r15=>.mk r0 r1 r2 r3 r4 r5 r6 r7 r8 r9 r10 r11 r12 r13 r r15) t)
 (T2.rec (motive:=λ_=>T2) (λr0 r1 r2 r3 r4 r5 r6 r7 r8 r9 r10 r11 r12 r13 r14 _=>.mk r0 r1 r2 r3 r4 r5 r6 r7 r8 r9 r10 r11 r12 r13 r14 r) t)
 s
def get2 (q r:S16) (t:T2):AV:=rg r (tg q t)
def set2 (q r:S16) (t:T2) (v:AV) (k:T2→RR):RR:=rs r (tg q t) v λrow=>ts q t row k
def set2p (q r:S16) (t:T2) (v:AV):T2:=tset q t (rset r (tg q t) v)
theorem rs_eq (s:S16) (r:Row) (v:AV) (k:Row→RR):rs s r v k=k (rset s r v):=by cases s<;>cases r<;>rfl
theorem ts_eq (s:S16) (t:T2) (r:Row) (k:T2→RR):ts s t r k=k (tset s t r):=by cases s<;>cases t<;>rfl
theorem set2_eq (q r:S16) (t:T2) (v:AV) (k:T2→RR):set2 q r t v k=k (set2p q r t v):=by unfold set2;rw[rs_eq,ts_eq];rfl
theorem rg_same (s:S16) (r:Row) (v:AV):rg s (rset s r v)=v:=by cases s<;>cases r<;>rfl
theorem tg_same (s:S16) (t:T2) (r:Row):tg s (tset s t r)=r:=by cases s<;>cases t<;>rfl
theorem rg_ne {s s':S16} (h:s≠s') (r:Row) (v:AV):rg s (rset s' r v)=rg s r:=by cases r;cases s<;>cases s'<;>first|rfl|exact(h rfl).elim
theorem tg_ne {s s':S16} (h:s≠s') (t:T2) (r:Row):tg s (tset s' t r)=tg s t:=by cases t;cases s<;>cases s'<;>first|rfl|exact(h rfl).elim
def S16.of (n:Nat):S16:=match n with
 |0=>.s0
 |1=>.s1
 |2=>.s2
 |3=>.s3
 |4=>.s4
 |5=>.s5
 |6=>.s6
 |7=>.s7
 |8=>.s8
 |9=>.s9
 |10=>.s10
 |11=>.s11
 |12=>.s12
 |13=>.s13
 |14=>.s14
 |_=>.s15
theorem S16.n_of {n:Nat} (h:n<16):(S16.of n).n=n:=by
 rcases(show n=0∨n=1∨n=2∨n=3∨n=4∨n=5∨n=6∨n=7∨n=8∨n=9∨n=10∨n=11∨n=12∨n=13∨n=14∨n=15 by omega)with h|h|h|h|h|h|h|h|h|h|h|h|h|h|h|h<;>subst h<;>rfl
end Go.Ev
namespace Go.Ev
section
variable {R:Type}
def onw (next:TM→St→Nat→R) (k:AExit→TM→St→Nat→R):AExit→TM→St→Nat→R:=λe tm mu n=>AExit.rec (motive:=λ_=>R) (next tm mu n) (λid=>k (.exit id) tm mu n) (k .ret tm mu n) e
def loopD (z:R) (a:TM→St→Nat→(AExit→TM→St→Nat→R)→R) (fuel:Nat):TM→St→Nat→(AExit→TM→St→Nat→R)→R:=
 Nat.rec (motive:=λ_=>TM→St→Nat→(AExit→TM→St→Nat→R)→R) (λ_ _ _ _=>z) (λ_ ih tm mu n k=>a tm mu n (onw (ih · · · k) k)) fuel
end
section
variable {R:Type} {T:R→Prop} {z:R} {P:Program} {val:Nat→Int} {fz:Fz} {orc:Orc R} {call:CallT R}
def CodeD (P:Program) (val:Nat→Int) (fz:Fz) (c:Code) (tm:TM) (mu:St) (n:Nat) (e:AExit) (tm':TM) (mu':St) (n':Nat):Prop:=
 n≤n'∧∀ρ w a,Rel val ρ fz mu w→TmR val ρ w tm a→FreshN ρ n n'→∀(Q:Exit→Act→World→Prop),(∀a' w',PostS val ρ fz mu n w a tm' mu' n' a' w'→Q e.toExit a' w')→c.wp P Q a w
theorem codeD_same {c:Code} {tm:TM} {mu:St} {n:Nat} {e:AExit} (h:∀(Q:Exit→Act→World→Prop) a w,Q e.toExit a w→c.wp P Q a w):CodeD P val fz c tm mu n e tm mu n:=
 ⟨Nat.le_refl _,λ_ w a hr ht _ Q hQ=>h Q a w (hQ a w (PostS.refl hr ht))⟩
theorem loopD_sound (hz:¬T z) {a:Code} {D:TM→St→Nat→(AExit→TM→St→Nat→R)→R}
 (ha:∀{tm:TM} {mu:St} {n:Nat} {k:AExit→TM→St→Nat→R},T (D tm mu n k)→∃e tm' mu' n',T (k e tm' mu' n')∧CodeD P val fz a tm mu n e tm' mu' n'):
 ∀(fuel:Nat) {tm:TM} {mu:St} {n:Nat} {k:AExit→TM→St→Nat→R},T (loopD z D fuel tm mu n k)→
 ∃e tm' mu' n',T (k e tm' mu' n')∧n≤n'∧∀ρ w act,Rel val ρ fz mu w→TmR val ρ w tm act→FreshN ρ n n'→∀(Q:Exit→Act→World→Prop),(∀a' w',PostS val ρ fz mu n w act tm' mu' n' a' w'→Q e.toExit a' w')→Code.rounds P a Q fuel act w
 |0,tm,mu,n,k,h=>(hz h).elim
 |fuel+1,tm,mu,n,k,h=>by
  obtain⟨e,tm1,mu1,n1,h1,h2⟩:=ha (show T (D tm mu n (onw (loopD z D fuel · · · k) k))from h)
  cases e with
  |normal=>
   obtain⟨e2,tm2,mu2,n2,h3,h4,h5⟩:=loopD_sound hz ha fuel (show T (loopD z D fuel tm1 mu1 n1 k)from h1)
   refine⟨e2,tm2,mu2,n2,h3,Nat.le_trans h2.1 h4,λρ w act hr ht hf Q hQ=>?_⟩
   refine h2.2 ρ w act hr ht (hf.sub (Nat.le_refl _) h4) (Exit.then (Code.rounds P a Q fuel) Q) λa1 w1 hp=>?_
   obtain⟨d,ρ1,p1,p2,p3,p4,p5,p6⟩:=hp
   refine h5 ρ1 w1 a1 p2 p3 (hf.later p1 h2.1) Q λa2 w2 hp2=>hQ a2 w2 ?_
   exact PostS.trans d p1 p4 p5 p6 h2.1 h4 hp2
  |exit id=>exact⟨.exit id,tm1,mu1,n1,h1,h2.1,λρ w act hr ht hf Q hQ=>h2.2 ρ w act hr ht hf (Exit.then (Code.rounds P a Q fuel) Q) hQ⟩
  |ret=>exact⟨.ret,tm1,mu1,n1,h1,h2.1,λρ w act hr ht hf Q hQ=>h2.2 ρ w act hr ht hf (Exit.then (Code.rounds P a Q fuel) Q) hQ⟩
end
end Go.Ev
namespace Go.Ev
inductive BC where
 |norm
 |ret
 |bad
 |exit (id:Nat)
 |reg (ops:List AOper) (next:BC)
 |draw (ops:List AOper) (next:BC)
 |ite (x:Od) (a b:BC)
 |iteN (x:Od) (a b next:BC)
 |test (x:Od) (id:Nat) (next:BC)
 |blk (id:Nat) (a next:BC)
 |loop (a next:BC)
def BC.isNorm:BC→Bool
 |.norm=>true
 |_=>false
def ACode.testId:ACode→ACode→Option Nat
 |.skip,.exit id=>some id
 |_,_=>none
def flat (c:ACode):BC→BC:=ACode.rec (motive:=λ_=>BC→BC)
 (λnx=>nx)
 (λops nx=>.reg ops nx)
 (λops nx=>.draw ops nx)
 (λ_ _ iha ihb nx=>iha (ihb nx))
 (λx a b iha ihb nx=>Bool.rec (motive:=λ_=>BC) (Option.rec (motive:=λ_=>BC) (.iteN x (iha .norm) (ihb .norm) nx) (λid=>.test x id nx) (ACode.testId a b)) (.ite x (iha .norm) (ihb .norm)) nx.isNorm)
 (λid _ iha nx=>.blk id (iha .norm) nx)
 (λ_ iha nx=>.loop (iha .norm) nx)
 (λid _=>.exit id)
 (λ_=>.ret)
 (λ_=>.bad) c
end Go.Ev
