/-
  Calls by the evaluator whose answer and store are asked in full.
-/
import Derived.Test.YthklkhndoojmfaaGreatDoorBaseA
import Derived.Test.YthklkhndoojmfaaGreatDoorRmH
import Derived.Test.YthklkhndoojmfaaGreatDoorRmD
import Derived.Deep.RegionHeld3
set_option linter.unusedVariables false
set_option linter.unusedSimpArgs false
noncomputable section
namespace Go.Ev
open Go.Shelf Go.Proofs Go.RowKit
def SV.same:SV→SV→Bool
 |.un,.un=>true
 |.int k n,.int k' n'=>IntKind.eqb k k'&&decide (n=n')
 |.bool b,.bool b'=>decide (b=b')
 |.str l n,.str l' n'=>Nat.beq l l'&&Nat.beq n n'
 |.nsl,.nsl=>true
 |.npt,.npt=>true
 |.nfn,.nfn=>true
 |.optr a b,.optr a' b'=>Nat.beq a a'&&Nat.beq b b'
 |.osl a b c d e,.osl a' b' c' d' e'=>Nat.beq a a'&&Nat.beq b b'&&Nat.beq c c'&&Nat.beq d d'&&Nat.beq e e'
 |.nmp,.nmp=>true
 |.mp a,.mp a'=>Nat.beq a a'
 |.nif,.nif=>true
 |.mk a,.mk a'=>Nat.beq a a'
 |_,_=>false
theorem SV.same_eq {a b:SV} (h:a.same b=true):a=b:=by
 cases a<;>cases b<;>first|rfl|(cases h;done)|skip
 all_goals simp only[SV.same,Bool.and_eq_true,decide_eq_true_eq]at h
 ·obtain⟨h1,h2⟩:=h;rw[eqb_eq h1,h2]
 ·rw[h]
 ·obtain⟨h1,h2⟩:=h;rw[Nat.eq_of_beq_eq_true h1,Nat.eq_of_beq_eq_true h2]
 ·obtain⟨h1,h2⟩:=h;rw[Nat.eq_of_beq_eq_true h1,Nat.eq_of_beq_eq_true h2]
 ·obtain⟨⟨⟨⟨h1,h2⟩,h3⟩,h4⟩,h5⟩:=h;rw[Nat.eq_of_beq_eq_true h1,Nat.eq_of_beq_eq_true h2,Nat.eq_of_beq_eq_true h3,Nat.eq_of_beq_eq_true h4,Nat.eq_of_beq_eq_true h5]
 ·rw[Nat.eq_of_beq_eq_true h]
 ·rw[Nat.eq_of_beq_eq_true h]
def SV.isUn:SV→Bool
 |.un=>true
 |_=>false
def sames:List SV→List SV→Bool
 |[],[]=>true
 |a::x,b::y=>(b.isUn||a.same b)&&sames x y
 |_,_=>false
def Weak (a b:SV):Prop:=b=.un∨a=b
theorem sames_all:∀{x y:List SV},sames x y=true→All2 Weak x y
 |[],[],_=>trivial
 |[],_::_,h=>by cases h
 |_::_,[],h=>by cases h
 |a::x,b::y,h=>by
  simp only[sames,Bool.and_eq_true,Bool.or_eq_true]at h
  refine⟨?_,sames_all h.2⟩
  rcases h.1 with h1|h1
  ·cases b<;>first|exact .inl rfl|cases h1
  ·exact .inr (SV.same_eq h1)
def exacts:List SV→List SV→Bool
 |[],[]=>true
 |a::x,b::y=>a.same b&&exacts x y
 |_,_=>false
theorem exacts_eq:∀{x y:List SV},exacts x y=true→x=y
 |[],[],_=>rfl
 |[],_::_,h=>by cases h
 |_::_,[],h=>by cases h
 |a::x,b::y,h=>by
  simp only[exacts,Bool.and_eq_true]at h
  rw[SV.same_eq h.1,exacts_eq h.2]
def CV.same:CV→CV→Bool
 |.one a,.one b=>a.same b
 |.ag a,.ag b=>exacts a b
 |_,_=>false
theorem CV.same_eq {a b:CV} (h:a.same b=true):a=b:=by
 cases a<;>cases b<;>first|(cases h;done)|skip
 ·rw[SV.same_eq h]
 ·rw[exacts_eq h]
def cexacts:List CV→List CV→Bool
 |[],[]=>true
 |a::x,b::y=>a.same b&&cexacts x y
 |_,_=>false
theorem cexacts_eq:∀{x y:List CV},cexacts x y=true→x=y
 |[],[],_=>rfl
 |[],_::_,h=>by cases h
 |_::_,[],h=>by cases h
 |a::x,b::y,h=>by
  simp only[cexacts,Bool.and_eq_true]at h
  rw[CV.same_eq h.1,cexacts_eq h.2]
def AV.same:AV→AV→Bool
 |.one a,.one b=>a.same b
 |.ag a,.ag b=>exacts a b
 |.tp a,.tp b=>cexacts a b
 |_,_=>false
theorem AV.same_eq {a b:AV} (h:a.same b=true):a=b:=by
 cases a<;>cases b<;>first|(cases h;done)|skip
 ·rw[SV.same_eq h]
 ·rw[exacts_eq h]
 ·rw[cexacts_eq h]
def hasK (mu:St):St→Bool
 |[]=>true
 |p::r=>(match look mu p.1 with|some c=>bif mkd c then exacts c p.2 else sames c p.2|none=>false)&&hasK mu r
def isV (exp:AV) (l:St) (v:AV) (mu:St) (_:Nat):RR:=λ_=>v.same exp&&hasK mu l
theorem hasK_all {mu:St}:∀{l:St},hasK mu l=true→∀id c,look l id=some c→∃c',look mu id=some c'∧(c'=c∨mkd c'=false∧All2 Weak c' c)
 |[],_,id,c,h=>by cases h
 |p::r,h,id,c,hl=>by
  simp only[hasK,Bool.and_eq_true]at h
  have hl':cond (Nat.beq p.1 id) (some p.2) (look r id)=some c:=hl
  cases e:Nat.beq p.1 id with
  |false=>rw[e]at hl';exact hasK_all h.2 id c hl'
  |true=>
   rw[e]at hl'
   have e1:=Nat.eq_of_beq_eq_true e
   cases hl'
   have h1:=h.1
   rw[e1]at h1
   cases e2:look mu id with
   |none=>rw[e2]at h1;cases h1
   |some c'=>
    rw[e2]at h1
    simp only at h1
    refine⟨c',rfl,?_⟩
    cases e3:mkd c' with
    |true=>rw[e3]at h1;exact .inl (exacts_eq h1)
    |false=>rw[e3]at h1;exact .inr ⟨rfl,sames_all h1⟩
theorem isV_elim {m:Nat→Nat} {exp v:AV} {l mu:St} {n:Nat} (h:TT m (isV exp l v mu n)):v=exp∧hasK mu l=true:=by
 obtain⟨pc,_,h⟩:=h
 simp only[isV,Bool.and_eq_true]at h
 exact⟨AV.same_eq h.1,h.2⟩
section
variable {val:Nat→Int} {ρ ρ':Rho} {fz:Fz} {mu l:St} {n n':Nat} {w w':World}
theorem VR.weak {a b:SV} {v:Value} (h:Weak a b) (hv:VR val ρ w a v):VR val ρ w b v:=by
 rcases h with rfl|rfl
 ·trivial
 ·exact hv
theorem all2_weak:∀{x y:List SV},All2 Weak x y→x.length=y.length∧∀(i:Nat) (b:SV),y[i]?=some b→∃a,x[i]?=some a∧Weak a b
 |[],[],_=>⟨rfl,λi b h=>by simp at h⟩
 |[],_::_,h=>h.elim
 |_::_,[],h=>h.elim
 |a::x,b::y,h=>by
  obtain⟨h1,h2⟩:=all2_weak h.2
  refine⟨by simp[h1],λi c hc=>?_⟩
  cases i with
  |zero=>simp at hc;subst hc;exact⟨a,rfl,h.1⟩
  |succ j=>simpa using h2 j c (by simpa using hc)
theorem OwnG.weak {id:Nat} {c c':List SV} (h:c'=c∨mkd c'=false∧All2 Weak c' c) (ho:OwnG val ρ w id c'):OwnG val ρ w id c:=by
 rcases h with rfl|⟨hm,h⟩
 ·exact ho
 ·obtain⟨p,C,ty,fr,h1,h2,h3,h4,h5⟩:=ho.plain hm
  obtain⟨g1,g2⟩:=all2_weak h
  exact .inl ⟨p,C,ty,fr,h1,h2,h3,by rw[←g1];exact h4,λi s hi=>let⟨a,ha,hw⟩:=g2 i s hi;let⟨v,e,r⟩:=h5 i a ha;⟨v,e,r.weak hw⟩⟩
theorem Rel.weak (hr:Rel val ρ fz mu w) (h:∀id c,look l id=some c→∃c',look mu id=some c'∧(c'=c∨mkd c'=false∧All2 Weak c' c)):Rel val ρ fz l w:=by
 have hs:∀{id},(look l id).isSome→(look mu id).isSome:=fun{id} hi=>by
  obtain⟨c,hc⟩:=Option.isSome_iff_exists.1 hi
  obtain⟨c',h1,_⟩:=h id c hc
  rw[h1];rfl
 exact⟨hr.rf,λid c hc=>let⟨c',h1,h2⟩:=h id c hc;(hr.rm id c' h1).weak h2,λid c hc=>let⟨c',h1,_⟩:=h id c hc;hr.dm id c' h1,λa b p q ha hb=>hr.dj a b p q (hs ha) (hb.imp hs λx=>x)⟩
end
theorem callV {m:Nat→Nat} {P:Program} {val:Nat→Int} {orc:Orc RR} {K:Nat→Option (Contract RR)} {F:HTree} {depth f:Nat} {args:List AV} {fz:Fz} {mu l:St} {n:Nat} {exp:AV} (hk:OrcOk (TT m) val orc) (hmx:P.follows .mixedOrders=true)
 (hK:∀f c,K f=some c→ContractOk (TT m) P val f c) (hF:F.Ok P) (h:TT m (hcall orc K F.find depth f args fz mu n (isV exp l))) (ρ:Rho) (w:World) (hr:Rel val ρ fz mu w) (xs:List Value) (hx:All2 (AVR val ρ w) args xs) (hf:∀id,n≤id→ρ id=none):
 Calls P f xs.toArray w λe w'=>∃x ρ',e=.returned x∧(∃n',Ext ρ ρ' n n')∧Rel val ρ' fz l w'∧AVR val ρ' w' exp x∧Fr ρ mu w w'∧∀id p,(look l id).isSome→ρ' id=some p→w.heap.size≤p.1∨∃id0 p0,(look mu id0).isSome∧ρ id0=some p0∧p0.1=p.1:=by
 obtain⟨v,mu',n',h1,_,h2,h3⟩:=hcall_sound (T:=TT m) zz_not hk hmx hK (HTree.ok hF) depth f args fz mu n (isV exp l) h
 obtain⟨rfl,hh⟩:=isV_elim h1
 have ha:=hasK_all hh
 refine(h3 ρ w xs hr hx (λid h1 _=>hf id h1)).mono λe w' ⟨x,e1,ρ',p1,p2,p3,p4,p5,p6⟩=>?_
 refine⟨x,ρ',e1,⟨n',p1⟩,p2.weak ha,p3,p4,λid p hl hp=>p5 id p ?_ hp⟩
 obtain⟨c,hc⟩:=Option.isSome_iff_exists.1 hl
 obtain⟨c',h1,_⟩:=ha id c hc
 rw[h1];rfl
def SV.plain:SV→Value
 |.int k n=>.int k n
 |.bool b=>.bool b
 |.str l n=>.string (sOf l n)
 |.nsl=>.slice none 0 0
 |.npt=>.pointer none
 |.nmp=>.map none
 |_=>.nilIface
def SV.isPlain:SV→Bool
 |.int _ _=>true
 |.bool _=>true
 |.str _ _=>true
 |.nsl=>true
 |.npt=>true
 |.nmp=>true
 |_=>false
theorem VR.plain {val:Nat→Int} {ρ:Rho} {w:World} {s:SV} {v:Value} (h:VR val ρ w s v) (hp:s.isPlain=true):v=s.plain:=by
 cases s<;>first|(cases hp;done)|exact h|exact h.2
theorem VRs.plain {val:Nat→Int} {ρ:Rho} {w:World}:∀{l:List SV} {vs:List Value},All2 (VR val ρ w) l vs→l.all SV.isPlain=true→vs=l.map SV.plain
 |[],[],_,_=>rfl
 |[],_::_,h,_=>h.elim
 |_::_,[],h,_=>h.elim
 |a::x,b::y,h,hp=>by
  simp only[List.all_cons,Bool.and_eq_true]at hp
  rw[List.map_cons,←VRs.plain h.2 hp.2,←VR.plain h.1 hp.1]
end Go.Ev
set_option linter.unusedVariables false
set_option linter.unusedSimpArgs false
noncomputable section
set_option maxRecDepth 1000000
namespace Go.Proofs.YthklkhndoojmfaaGreatDoor.Ev
open Go Go.Ev Go.Proofs Go.RowKit Go.Rm Go.Ry Go.Kx
def lineS:Nat→SV
 |0=>.str 10 474107581343615915407673
 |1=>.str 6 127995988353079
 |2=>.str 16 152058388828703217980779190244384907315
 |_=>.str 6 110442658668592
def zM:List SV:=[.int .i64 0,.int .i64 0,.int .i64 0,.int .i64 0,.int .i64 0,.int .i64 0,.int .i64 0,.int .i64 0,.int .i64 0,.int .i64 0,.int .i64 0,.int .i64 0,.int .i64 0,.int .i64 0,.str 0 0,.nsl,.int .i64 0,.str 0 0,.nsl,.str 0 0]
def rM:List SV:=[.int .i64 2,.int .i64 100,.int .i64 1,.int .i64 0,.int .i64 0,.int .i64 3,.int .i64 0,.int .i64 0,.int .i64 0,.int .i64 0,.int .i64 5,.int .i64 0,.int .i64 0,.int .i64 0,.str 1 115,.nsl,.int .i64 0,.str 0 0,.nsl,.str 0 0]
def actS:Nat→List SV
 |0=>[.int .i64 0,.int .i64 99,.int .i64 0,.int .i64 0]++zM
 |1=>[.int .i64 3,.int .i64 7,.int .i64 0,.int .i64 0]++zM
 |2=>[.int .i64 7,.int .i64 0,.int .i64 0,.int .i64 0]++rM
 |_=>[.int .i64 1,.int .i64 0,.int .i64 0,.int .i64 0]++zM
theorem below_of_fr {w w':World} (h:Fr (λ_=>none) [] w w'):Below w.heap.size w w':=⟨h.os,h.tape,h.output,h.size,λk hk=>h.keep k hk λid p hl=>by cases hl⟩
theorem evalG {f:Nat} {args:List AV} {exp:AV} {xs:List Value} (h:hcall (noOrc zz) KT0.find FT.find 60 f args (gFz 0 1 3) [] 3 (isV exp []) []=true)
 (w:World) (hx:All2 (AVR (λ_=>0) (gRho 0 1 3) w) args xs) (hw:GW 0 1 3 w):
 Calls Tryz.prog f xs.toArray w λe w'=>∃x ρ',e=.returned x∧AVR (λ_=>0) ρ' w' exp x∧Below w.heap.size w w':=
 (callV (m:=λ_=>0) (val:=λ_=>0) (noOrc_ok zz_not _) mixed (KTree.ok (kt0Ok _ _)) ftOk ⟨[],(λj p h=>by simp at h),h⟩ (gRho 0 1 3) w hw.rel xs hx λid hid=>by
  match id,hid with
  |id+3,_=>rfl).mono λe w' ⟨x,ρ',h1,_,_,h2,h3,_⟩=>⟨x,ρ',h1,h2,below_of_fr (fr_any h3)⟩
theorem actRuns0:hcall (noOrc zz) KT0.find FT.find 60 21 [.one (lineS 0)] (gFz 0 1 3) [] 3 (isV (.tp [.ag (actS 0),.one (.bool true)]) []) []=true:=by kernel_rfl
theorem actRuns1:hcall (noOrc zz) KT0.find FT.find 60 21 [.one (lineS 1)] (gFz 0 1 3) [] 3 (isV (.tp [.ag (actS 1),.one (.bool true)]) []) []=true:=by kernel_rfl
theorem actRuns2:hcall (noOrc zz) KT0.find FT.find 60 21 [.one (lineS 2)] (gFz 0 1 3) [] 3 (isV (.tp [.ag (actS 2),.one (.bool true)]) []) []=true:=by kernel_rfl
theorem actRuns3:hcall (noOrc zz) KT0.find FT.find 60 21 [.one (lineS 3)] (gFz 0 1 3) [] 3 (isV (.tp [.ag (actS 3),.one (.bool true)]) []) []=true:=by kernel_rfl
theorem actRuns:∀p,hcall (noOrc zz) KT0.find FT.find 60 21 [.one (lineS p)] (gFz 0 1 3) [] 3 (isV (.tp [.ag (actS p),.one (.bool true)]) []) []=true
 |0=>actRuns0
 |1=>actRuns1
 |2=>actRuns2
 |_+3=>actRuns3
theorem mayRuns:hcall (noOrc zz) KT0.find FT.find 60 68 [.ag rM] (gFz 0 1 3) [] 3 (isV (.one (.bool true)) []) []=true:=by kernel_rfl
theorem cloneRuns:hcall (noOrc zz) KT0.find FT.find 60 40 [.ag rM] (gFz 0 1 3) [] 3 (isV (.ag rM) []) []=true:=by kernel_rfl
theorem numRuns:hcall (noOrc zz) KT0.find FT.find 60 20 [.one (.str 1 51)] (gFz 0 1 3) [] 3 (isV (.tp [.one (.int .i64 3),.one (.bool true)]) []) []=true:=by kernel_rfl
theorem line_eq:∀p,∃l n,lineS p=.str l n∧n<256^l∧sOf l n=bs (lineL p)
 |0=>⟨_,_,rfl,by decide,by kernel_rfl⟩
 |1=>⟨_,_,rfl,by decide,by kernel_rfl⟩
 |2=>⟨_,_,rfl,by decide,by kernel_rfl⟩
 |_+3=>⟨_,_,rfl,by decide,by kernel_rfl⟩
theorem str0:sOf 0 0=(⟨#[]⟩:ByteArray):=by kernel_rfl
theorem strs:sOf 1 115=(⟨#[115]⟩:ByteArray):=by kernel_rfl
theorem act_plain:∀p,(actS p).all SV.isPlain=true∧(actS p).map SV.plain=actB p
 |0=>⟨by decide,by simp[actS,Ev.zM,SV.plain,actB,actC,str0]⟩
 |1=>⟨by decide,by simp[actS,Ev.zM,SV.plain,actB,actC,str0]⟩
 |2=>⟨by decide,by simp[actS,rM,SV.plain,actB,str0,strs]⟩
 |_+3=>⟨(by decide:(actS 3).all SV.isPlain=true),by simp[actS,Ev.zM,SV.plain,actB,actC,str0]⟩
theorem read_plain:rM.all SV.isPlain=true∧rM.map SV.plain=readC:=⟨by decide,by simp[rM,SV.plain,readC,actB,str0,strs]⟩
theorem plains_vr {val:Nat→Int} {ρ:Rho} {w:World}:∀{l:List SV},l.all SV.isPlain=true→(∀s∈l,∀a n,s=.str a n→n<256^a)→All2 (VR val ρ w) l (l.map SV.plain)
 |[],_,_=>trivial
 |a::x,h,hs=>by
  simp only[List.all_cons,Bool.and_eq_true]at h
  refine⟨?_,plains_vr h.2 λs m=>hs s (by simp[m])⟩
  cases a<;>first|rfl|(cases h.1;done)|exact⟨hs _ (by simp) _ _ rfl,rfl⟩
theorem read_vr {val:Nat→Int} {ρ:Rho} {w:World}:All2 (VR val ρ w) rM readC:=by
 rw[←read_plain.2]
 refine plains_vr read_plain.1 λs m a n e=>?_
 have key:rM.all (λs=>match s with|.str a n=>decide (n<256^a)|_=>true)=true:=by decide
 have h1:=List.all_eq_true.1 key s m
 rw[e]at h1
 exact of_decide_eq_true h1
theorem act_ok (p:Nat) (w:World) (hw:GW 0 1 3 w):Calls Tryz.prog 21 #[.string (bs (lineL p))] w λe w'=>e=.returned (.tuple #[.agg (actB p).toArray,.bool true])∧Below w.heap.size w w':=by
 obtain⟨l,n,h1,h2,h3⟩:=line_eq p
 have h:=evalG (actRuns p) w (xs:=[.string (bs (lineL p))]) ⟨(by rw[h1];exact⟨h2,by rw[h3]⟩),trivial⟩ hw
 refine h.mono λe w' ⟨x,ρ',e1,hx,hb⟩=>⟨?_,hb⟩
 obtain⟨vs,rfl,hv⟩:=hx
 match vs,hv with
 |[a,b],⟨⟨us,ha,hu⟩,hb,_⟩=>
  have:=VRs.plain hu (act_plain p).1
  rw[(act_plain p).2]at this
  subst this
  rw[e1,ha,show b=.bool true from hb]
theorem number_ok3 (w:World) (hw:GW 0 1 3 w):Calls Tryz.prog 20 #[.string ⟨#[51]⟩] w λe w'=>e=.returned (.tuple #[.int .i64 3,.bool true])∧Below w.heap.size w w':=by
 refine(evalG numRuns w (xs:=[.string ⟨#[51]⟩]) ⟨⟨by decide,by congr 1⟩,trivial⟩ hw).mono λe w' ⟨x,ρ',e1,hx,hb⟩=>⟨?_,hb⟩
 obtain⟨vs,rfl,hv⟩:=hx
 match vs,hv with
 |[a,b],⟨ha,hb,_⟩=>rw[e1,show a=.int .i64 3 from ha,show b=.bool true from hb]
theorem may_ok (w:World) (hw:GW 0 1 3 w):Calls Tryz.prog 68 #[.agg readC.toArray] w λe w'=>e=.returned (.bool true)∧Below w.heap.size w w':=
 (evalG mayRuns w (xs:=[.agg readC.toArray]) ⟨⟨readC,rfl,read_vr⟩,trivial⟩ hw).mono λe w' ⟨x,ρ',e1,hx,hb⟩=>⟨by rw[e1,show x=.bool true from hx],hb⟩
theorem clone_ok (w:World) (hw:GW 0 1 3 w):Calls Tryz.prog 40 #[.agg readC.toArray] w λe w'=>e=.returned (.agg readC.toArray)∧Below w.heap.size w w':=by
 refine(evalG cloneRuns w (xs:=[.agg readC.toArray]) ⟨⟨readC,rfl,read_vr⟩,trivial⟩ hw).mono λe w' ⟨x,ρ',e1,hx,hb⟩=>⟨?_,hb⟩
 obtain⟨us,rfl,hu⟩:=hx
 have:=VRs.plain hu read_plain.1
 rw[read_plain.2]at this
 rw[e1,this]
end Go.Proofs.YthklkhndoojmfaaGreatDoor.Ev
set_option linter.unusedVariables false
set_option linter.unusedSimpArgs false
noncomputable section
namespace Go.Rm
open Go Go.Conc Go.Proofs Go.RowKit Go.Kn Go.Ry
section
variable {G:Geo} {W:World} {b:Nat} {bv:Value} {xs:List Value} {sv:Value} {ns:Nat} {ss:List Value} {t:Int}
set_option maxHeartbeats 2000000 in
set_option maxRecDepth 100000 in
theorem may_read (h:Wst G W b bv xs sv ns ss t) (ao:Option Addr) (c:Nat) (hn:G.nd=.slice ao 3 c)
 (hmay:∀V,Below W.heap.size W V→Calls Tryz.prog 68 #[.agg readC.toArray] V λe w'=>e=.returned (.bool true)∧Below V.heap.size V w'):
 Calls Tryz.prog 31 #[.pointer (some ⟨G.A,G.oA,none⟩),.agg (actB 2).toArray] W λe w'=>e=.returned (.bool true)∧Below W.heap.size W w':=by
 have hA:=h.lt'
 have hbw:Hid (∀o,Below W.heap.size W (W.alloc o).drew):=λo=>(Below.alloc (Below.refl _ _) (Nat.le_refl _) o).drew
 have hcall:Hid (Calls Tryz.prog 68 #[.agg readC.toArray] (W.alloc (.cells (actB 2).toArray 49)).drew λe w'=>e=.returned (.bool true)∧Below W.heap.size W w'∧w'.cell? ⟨W.heap.size,4,none⟩=some (.int .i64 2)∧w'.cell? ⟨W.heap.size,6,none⟩=some (.int .i64 1)∧Below (W.alloc (.cells (actB 2).toArray 49)).drew.heap.size (W.alloc (.cells (actB 2).toArray 49)).drew w'):=
  (hmay _ (hbw.out _)).mono λe w' ⟨h1,h2⟩=>by
   have hlt:W.heap.size<(W.alloc (.cells (actB 2).toArray 49)).drew.heap.size:=by show _<(W.heap.push _).size;rw[Array.size_push];omega
   exact⟨h1,(hbw.out _).trans (h2.mono (hbw.out _).size),(h2.cell hlt).trans (by rw[World.cell?_drew,World.cell?_alloc_at (w:=W) _ _ _ _ rfl];rfl),(h2.cell hlt).trans (by rw[World.cell?_drew,World.cell?_alloc_at (w:=W) _ _ _ _ rfl];rfl),h2⟩
 have hrg:Hid (∀V,Below (W.alloc (.cells (actB 2).toArray 49)).drew.heap.size (W.alloc (.cells (actB 2).toArray 49)).drew V→V.rangeAt W.heap.size 4 readC):=λV hV j v hv=>by
  have hlt:W.heap.size<(W.alloc (.cells (actB 2).toArray 49)).drew.heap.size:=by show _<(W.heap.push _).size;rw[Array.size_push];omega
  refine(hV.cell hlt).trans ?_
  rw[World.cell?_drew,World.cell?_alloc_at (w:=W) _ _ _ _ rfl,List.getElem?_toArray]
  have e:(actB 2).drop 4=readC:=rfl
  rw[←e,List.getElem?_drop]at hv
  exact hv
 have hnd:=h.nodes
 rw[hn]at hnd
 have hc:Hid (∀V,Below W.heap.size W V→V.cell? ⟨G.A,G.oA,none⟩=some (.slice ao 3 c)):=λV hV=>(hV.cell hA).trans hnd
 have hiM:(Tryz.prog.info? 47).map (·.size)=some readC.length:=by kernel_rfl
 have mixed:Tryz.prog.follows .mixedOrders=true:=by kernel_rfl
 clear h hmay hn hnd
 unfold actB at hcall hrg
 unfold actB
 go_enter Tryz.func31,Tryz.ntmps31
 go_wp2_with fail
 refine wp_region_noPanic (wp_region_steps 26 [(0,true),(1,true),(2,false),(3,true),(4,true),(5,true),(6,true),(7,true),(8,true),(9,true),(10,true),(11,true),(12,true),(13,true),(14,true),(15,true),(16,true),(17,true),(18,true),(19,true),(20,true),(21,true),(22,true),(23,true),(24,true),(25,true)] (λV=>V.cell? ⟨G.A,G.oA,none⟩=some (.slice ao 3 c)∧V.cell? ⟨W.heap.size,4,none⟩=some (.int .i64 2)∧V.cell? ⟨W.heap.size,6,none⟩=some (.int .i64 1)∧V.rangeAt W.heap.size 4 readC) mixed (by kernel_rfl) (λ_ _ _ _ h=>h.elim) ?hs0 ?_)
 case hs0=>exact⟨hc.out _ (hbw.out _),by rw[World.cell?_drew,World.cell?_alloc_at (w:=W) _ _ _ _ rfl];rfl,by rw[World.cell?_drew,World.cell?_alloc_at (w:=W) _ _ _ _ rfl];rfl,hrg.out _ (Below.refl _ _)⟩
 refine step_take2 (v:=?v0) (a':=?a0) rfl (y_runG (by first|rfl|simp[Region.wanted,yielded,Act.put,Act.eval]) λw hS=>?p0) ?h0 ?_
 case p0=>obtain⟨hs1,hs2,hs3,hs4⟩:=hS;clear hs4;go_simp;try exact rfl
 case h0=>go_simp;exact rfl
 refine step_take (v:=.agg readC.toArray) rfl (y_runG rfl λw hS=>y_load_mid rfl rfl hS.2.2.2 Tryz.underlying47 rfl hiM) ?_
 refine step_op rfl λK' hK=>?_
 go_simp
 go_at_call 68
 refine Calls.mono hcall.out ?_
 rintro e W5 ⟨rfl,hw5,hx4,hx6,hb5⟩
 have hc5:=hc.out _ hw5
 refine hK _ _ ⟨⟨hc5,hx4,hx6,hrg.out _ hb5⟩,?_⟩
 refine step_take2 (v:=?v3) (a':=?a3) rfl (y_runG (by first|rfl|simp[Region.wanted,yielded,Act.put,Act.eval]) λw hS=>?p3) ?h3 ?_
 case p3=>obtain⟨hs1,hs2,hs3,hs4⟩:=hS;clear hs4;go_simp;try exact rfl
 case h3=>go_simp;exact rfl
 refine step_take2 (v:=?v4) (a':=?a4) rfl (y_runG (by first|rfl|simp[Region.wanted,yielded,Act.put,Act.eval]) λw hS=>?p4) ?h4 ?_
 case p4=>obtain⟨hs1,hs2,hs3,hs4⟩:=hS;clear hs4;go_simp;try exact rfl
 case h4=>go_simp;exact rfl
 refine step_take2 (v:=?v5) (a':=?a5) rfl (y_runG (by first|rfl|simp[Region.wanted,yielded,Act.put,Act.eval]) λw hS=>?p5) ?h5 ?_
 case p5=>obtain⟨hs1,hs2,hs3,hs4⟩:=hS;clear hs4;go_simp;try exact rfl
 case h5=>go_simp;exact rfl
 refine step_take2 (v:=?v6) (a':=?a6) rfl (y_runG (by first|rfl|simp[Region.wanted,yielded,Act.put,Act.eval]) λw hS=>?p6) ?h6 ?_
 case p6=>obtain⟨hs1,hs2,hs3,hs4⟩:=hS;clear hs4;go_simp;try exact rfl
 case h6=>go_simp;exact rfl
 refine step_take2 (v:=?v7) (a':=?a7) rfl (y_runG (by first|rfl|simp[Region.wanted,yielded,Act.put,Act.eval]) λw hS=>?p7) ?h7 ?_
 case p7=>obtain⟨hs1,hs2,hs3,hs4⟩:=hS;clear hs4;go_simp;try exact rfl
 case h7=>go_simp;exact rfl
 refine step_take2 (v:=?v8) (a':=?a8) rfl (y_runG (by first|rfl|simp[Region.wanted,yielded,Act.put,Act.eval]) λw hS=>?p8) ?h8 ?_
 case p8=>obtain⟨hs1,hs2,hs3,hs4⟩:=hS;clear hs4;go_simp;try exact rfl
 case h8=>go_simp;exact rfl
 refine step_take2 (v:=?v9) (a':=?a9) rfl (y_runG (by first|rfl|simp[Region.wanted,yielded,Act.put,Act.eval]) λw hS=>?p9) ?h9 ?_
 case p9=>obtain⟨hs1,hs2,hs3,hs4⟩:=hS;clear hs4;go_simp;try exact rfl
 case h9=>go_simp;exact rfl
 refine step_take2 (v:=?v10) (a':=?a10) rfl (y_runG (by first|rfl|simp[Region.wanted,yielded,Act.put,Act.eval]) λw hS=>?p10) ?h10 ?_
 case p10=>obtain⟨hs1,hs2,hs3,hs4⟩:=hS;clear hs4;go_simp;try exact rfl
 case h10=>go_simp;exact rfl
 refine step_take2 (v:=?v11) (a':=?a11) rfl (y_runG (by first|rfl|simp[Region.wanted,yielded,Act.put,Act.eval]) λw hS=>?p11) ?h11 ?_
 case p11=>obtain⟨hs1,hs2,hs3,hs4⟩:=hS;clear hs4;go_simp;try exact rfl
 case h11=>go_simp;exact rfl
 refine step_take2 (v:=?v12) (a':=?a12) rfl (y_runG (by first|rfl|simp[Region.wanted,yielded,Act.put,Act.eval]) λw hS=>?p12) ?h12 ?_
 case p12=>obtain⟨hs1,hs2,hs3,hs4⟩:=hS;clear hs4;go_simp;try exact rfl
 case h12=>go_simp;exact rfl
 refine step_take2 (v:=?v13) (a':=?a13) rfl (y_runG (by first|rfl|simp[Region.wanted,yielded,Act.put,Act.eval]) λw hS=>?p13) ?h13 ?_
 case p13=>obtain⟨hs1,hs2,hs3,hs4⟩:=hS;clear hs4;go_simp;try exact rfl
 case h13=>go_simp;exact rfl
 refine step_take2 (v:=?v14) (a':=?a14) rfl (y_runG (by first|rfl|simp[Region.wanted,yielded,Act.put,Act.eval]) λw hS=>?p14) ?h14 ?_
 case p14=>obtain⟨hs1,hs2,hs3,hs4⟩:=hS;clear hs4;go_simp;try exact rfl
 case h14=>go_simp;exact rfl
 refine step_take2 (v:=?v15) (a':=?a15) rfl (y_runG (by first|rfl|simp[Region.wanted,yielded,Act.put,Act.eval]) λw hS=>?p15) ?h15 ?_
 case p15=>obtain⟨hs1,hs2,hs3,hs4⟩:=hS;clear hs4;go_simp;try exact rfl
 case h15=>go_simp;exact rfl
 refine step_take2 (v:=?v16) (a':=?a16) rfl (y_runG (by first|rfl|simp[Region.wanted,yielded,Act.put,Act.eval]) λw hS=>?p16) ?h16 ?_
 case p16=>obtain⟨hs1,hs2,hs3,hs4⟩:=hS;clear hs4;go_simp;try exact rfl
 case h16=>go_simp;exact rfl
 refine step_take2 (v:=?v17) (a':=?a17) rfl (y_runG (by first|rfl|simp[Region.wanted,yielded,Act.put,Act.eval]) λw hS=>?p17) ?h17 ?_
 case p17=>obtain⟨hs1,hs2,hs3,hs4⟩:=hS;clear hs4;go_simp;try exact rfl
 case h17=>go_simp;exact rfl
 refine step_take2 (v:=?v18) (a':=?a18) rfl (y_runG (by first|rfl|simp[Region.wanted,yielded,Act.put,Act.eval]) λw hS=>?p18) ?h18 ?_
 case p18=>obtain⟨hs1,hs2,hs3,hs4⟩:=hS;clear hs4;go_simp;try exact rfl
 case h18=>go_simp;exact rfl
 refine step_take2 (v:=?v19) (a':=?a19) rfl (y_runG (by first|rfl|simp[Region.wanted,yielded,Act.put,Act.eval]) λw hS=>?p19) ?h19 ?_
 case p19=>obtain⟨hs1,hs2,hs3,hs4⟩:=hS;clear hs4;go_simp;try exact rfl
 case h19=>go_simp;exact rfl
 refine step_take2 (v:=?v20) (a':=?a20) rfl (y_runG (by first|rfl|simp[Region.wanted,yielded,Act.put,Act.eval]) λw hS=>?p20) ?h20 ?_
 case p20=>obtain⟨hs1,hs2,hs3,hs4⟩:=hS;clear hs4;go_simp;try exact rfl
 case h20=>go_simp;exact rfl
 refine step_take2 (v:=?v21) (a':=?a21) rfl (y_runG (by first|rfl|simp[Region.wanted,yielded,Act.put,Act.eval]) λw hS=>?p21) ?h21 ?_
 case p21=>obtain⟨hs1,hs2,hs3,hs4⟩:=hS;clear hs4;go_simp;try exact rfl
 case h21=>go_simp;exact rfl
 refine step_take2 (v:=?v22) (a':=?a22) rfl (y_runG (by first|rfl|simp[Region.wanted,yielded,Act.put,Act.eval]) λw hS=>?p22) ?h22 ?_
 case p22=>obtain⟨hs1,hs2,hs3,hs4⟩:=hS;clear hs4;go_simp;try exact rfl
 case h22=>go_simp;exact rfl
 refine step_take2 (v:=?v23) (a':=?a23) rfl (y_runG (by first|rfl|simp[Region.wanted,yielded,Act.put,Act.eval]) λw hS=>?p23) ?h23 ?_
 case p23=>obtain⟨hs1,hs2,hs3,hs4⟩:=hS;clear hs4;go_simp;try exact rfl
 case h23=>go_simp;exact rfl
 refine step_take2 (v:=?v24) (a':=?a24) rfl (y_runG (by first|rfl|simp[Region.wanted,yielded,Act.put,Act.eval]) λw hS=>?p24) ?h24 ?_
 case p24=>obtain⟨hs1,hs2,hs3,hs4⟩:=hS;clear hs4;go_simp;try exact rfl
 case h24=>go_simp;exact rfl
 refine step_take2 (v:=?v25) (a':=?a25) rfl (y_runG (by first|rfl|simp[Region.wanted,yielded,Act.put,Act.eval]) λw hS=>?p25) ?h25 ?_
 case p25=>obtain⟨hs1,hs2,hs3,hs4⟩:=hS;clear hs4;go_simp;try exact rfl
 case h25=>go_simp;exact rfl
 refine step_nil ?_
 have hwH:Hid _:=hw5
 clear hK hw5 hx4 hx6 hc5 hcall hc hbw
 simp only[List.drop_succ_cons,List.drop_zero]
 go_wp2
 refine NoPanic.normal ?_
 go_wp2
 go_ret
 refine⟨?_,hwH.out⟩
 simp[Act.put,Act.eval]
end
end Go.Rm
set_option linter.unusedVariables false
set_option linter.unusedSimpArgs false
noncomputable section
namespace Go.Rm
open Go Go.Conc Go.Proofs Go.RowKit Go.Kn Go.Ry
theorem oneFresh {W:World} {v:Value}:Fresh W v v:=λ_ h=>.inl h
section
variable {G:Geo} {W:World} {b:Nat} {bv:Value} {xs:List Value} {sv:Value} {ns:Nat} {ss:List Value} {t:Int}
theorem Wst.sentf (h:Wst G W b bv xs sv ns ss t) (i:Nat) (hi:i<6):W.frozen? ⟨G.A,G.oA+i,none⟩=false:=by
 obtain⟨C,h1,_⟩:=h.blk
 exact frozen_thaw h1 (h.thaw i hi)
theorem Wst.tick (h:Wst G W b bv xs sv ns ss t) (t':Int):Wst G (W.setCell ⟨G.A,G.oA+5,none⟩ (.int .i64 t')) b bv xs sv ns ss t':=by
 obtain⟨C,h1,h2,h3,h4,h5,h6,h7,h8⟩:=h.blk
 have hlt:G.oA+5<C.size:=(Array.getElem?_eq_some_iff.1 h8).1
 have hk:Keep (λk=>k=G.A) W (W.setCell ⟨G.A,G.oA+5,none⟩ (.int .i64 t')):=Keep.setCell _ _ _ rfl
 refine⟨h.bag.keep hk (λe=>h.ne e.symm) (λk hk e=>by have:=(h.bag.row.lt k hk).1;have:=h.lt;omega),⟨_,blk_setCell h1 _ _,by simp[h2],?_,?_,?_,?_,?_,by simp[hlt]⟩,h.thaw,h.lt,h.ne,ownsRow_setCell_below h.sent h.lt _,h.apart⟩
 all_goals rw[Array.getElem?_setIfInBounds_ne (by omega)];assumption
theorem Wst.rebag {V:World} {b':Nat} {bv':Value} {xs':List Value} (h:Wst G W b bv xs sv ns ss t) (hb:Bst G V b' bv' xs') (hf:Fresh W bv bv') (hk:Keep (λk=>k=G.B∨bv.ownBlock=some k) W V):Wst G V b' bv' xs' sv ns ss t:=by
 obtain⟨C,h1,h2⟩:=h.blk
 refine⟨hb,⟨C,hk.blk h1 (λe=>e.elim h.ne λe=>by have:=(h.bag.row.lt _ e).1;have:=h.lt;omega),h2⟩,h.thaw,h.lt,h.ne,hk.row h.sent λk hs e=>?_,λk hb' hs=>?_⟩
 ·rcases e with e|e
  ·have:=(h.sent.lt k hs).1;have:=h.bag.lt;omega
  ·exact h.apart k e hs
 ·rcases hf k hb' with e|e
  ·exact h.apart k e hs
  ·have:=(h.sent.lt k hs).2;omega
theorem Wst.resent {V:World} {ns':Nat} {sv':Value} {ss':List Value} (h:Wst G W b bv xs sv ns ss t) (hg:W.grownBy V sv.ownBlock) (hr:V.ownsRow G.base 104 21 sv' ns' ss') (hf:Fresh W sv sv'):
 V.cell? ⟨G.A,G.oA+4,none⟩=some sv∧V.frozen? ⟨G.A,G.oA+4,none⟩=false∧Wst G (V.setCell ⟨G.A,G.oA+4,none⟩ sv') b bv xs sv' ns' ss' t:=by
 obtain⟨C,h1,h2,h3,h4,h5,h6,h7,h8⟩:=h.blk
 have hk:Keep (λk=>sv.ownBlock=some k) W V:=Keep.grown hg λk e=>e
 have hA:¬sv.ownBlock=some G.A:=λe=>by have:=(h.sent.lt _ e).1;have:=h.lt;omega
 have hB:¬sv.ownBlock=some G.B:=λe=>by have:=(h.sent.lt _ e).1;have:=h.bag.lt;omega
 have hVA:=hk.blk h1 hA
 have hlt:G.oA+4<C.size:=(Array.getElem?_eq_some_iff.1 h7).1
 have hbag:Bst G V b bv xs:=h.bag.keep hk hB (λk e e'=>h.apart k e e')
 have hk2:Keep (λk=>k=G.A) V (V.setCell ⟨G.A,G.oA+4,none⟩ sv'):=Keep.setCell _ _ _ rfl
 refine⟨by rw[cell_blk hVA];exact h7,frozen_thaw hVA (h.thaw 4 (by omega)),hbag.keep hk2 (λe=>h.ne e.symm) (λk hk e=>by have:=(h.bag.row.lt k hk).1;have:=h.lt;omega),⟨_,blk_setCell hVA _ _,by simp[h2],?_,?_,?_,?_,by simp[hlt],?_⟩,h.thaw,h.lt,h.ne,ownsRow_setCell_below hr h.lt _,λk e e'=>?_⟩
 all_goals first|(rw[Array.getElem?_setIfInBounds_ne (by omega)];assumption)|skip
 rcases hf k e' with e2|e2
 ·exact h.apart k e e2
 ·have:=(h.bag.row.lt k e).2;omega
structure DoF (G:Geo) (W:World) (b:Nat) (bv:Value) (xs:List Value) (sv:Value) (ns:Nat) (ss:List Value) (t:Int) (u0 u1:Value) (V:World):Prop where
 below:Below W.heap.size W V
 st:Wst G V b bv xs sv ns ss t
 size:W.heap.size<V.heap.size
 k0:V.cell? ⟨W.heap.size,0,none⟩=some u0
 k1:V.cell? ⟨W.heap.size,1,none⟩=some u1
structure DoG (G:Geo) (W:World) (b:Nat) (bv:Value) (xs:List Value) (sv:Value) (ns:Nat) (ss:List Value) (t:Int) (u0 u1:Value) (V:World):Prop where
 keep:Keep (λk=>k=G.A) W V
 st:Wst G V b bv xs sv ns ss t
 size:W.heap.size<V.heap.size
 k0:V.cell? ⟨W.heap.size,0,none⟩=some u0
 k1:V.cell? ⟨W.heap.size,1,none⟩=some u1
theorem DoF.tick {u0 u1:Value} {V:World} (h:DoF G W b bv xs sv ns ss t u0 u1 V) (hA:G.A<W.heap.size):DoG G W b bv xs sv ns ss (t+1) u0 u1 (V.setCell ⟨G.A,G.oA+5,none⟩ (.int .i64 (t+1))):=by
 have hk:Keep (λk=>k=G.A) V (V.setCell ⟨G.A,G.oA+5,none⟩ (.int .i64 (t+1))):=Keep.setCell _ _ _ rfl
 have hne:¬W.heap.size=G.A:=by omega
 exact⟨((Keep.of_below (F:=λk=>k=G.A∨W.heap.size≤k) h.below λk _ hk=>.inr hk).trans (hk.mono λk _ e=>.inl e)).mono λk hk e=>e.elim id λe=>absurd hk (by omega),h.st.tick (t+1),by simpa using h.size,hk.cell h.k0 hne,hk.cell h.k1 hne⟩
set_option maxHeartbeats 2000000 in
set_option maxRecDepth 100000 in
theorem do_no (p:Nat) (hp:p=0∨p=1∨p=3)
 (hmay:∀V,Below W.heap.size W V→Calls Tryz.prog 31 #[.pointer (some ⟨G.A,G.oA,none⟩),.agg (actB p).toArray] V λe w'=>e=.returned (.bool false)∧Below V.heap.size V w'):
 Calls Tryz.prog 11 #[.pointer (some ⟨G.A,G.oA,none⟩),.agg (actB p).toArray] W λe w'=>e=.returned (.int .i64 2301)∧Below W.heap.size W w':=by
 have hbw:Hid (∀o,Below W.heap.size W (W.alloc o)):=λo=>Below.alloc (Below.refl _ _) (Nat.le_refl _) o
 have hcall:Hid (∀o,Calls Tryz.prog 31 #[.pointer (some ⟨G.A,G.oA,none⟩),.agg (actB p).toArray] (W.alloc o) λe w'=>e=.returned (.bool false)∧Below W.heap.size W w'):=λo=>(hmay _ (hbw.out o)).mono λe w' ⟨h1,h2⟩=>⟨h1,(hbw.out o).trans (h2.mono (hbw.out o).size)⟩
 clear hmay
 obtain⟨cs,hcs,hcl⟩:∃cs:List Value,cs=actB p∧cs.length=24:=⟨_,rfl,by rcases hp with rfl|rfl|rfl<;>rfl⟩
 rw[←hcs]at hcall⊢
 have hrg:Hid (∀_:Nat,(W.alloc (.cells cs.toArray 49)).rangeAt W.heap.size 0 cs):=λ_ j v hv=>by
  rw[Nat.zero_add,World.cell?_alloc_at (w:=W) _ _ _ _ rfl,List.getElem?_toArray];exact hv
 have hi:(Tryz.prog.info? 49).map (·.size)=some cs.length:=by rw[hcl];kernel_rfl
 clear hcs hp hcl
 refine calls_of_wpN Tryz.func11 rfl ?_
 simp only[Tryz.ntmps11,List.size_toArray,List.length_cons,List.length_nil,Nat.reduceAdd,Nat.reduceSub,Array.replicate_succ,
  Array.replicate_zero,List.push_toArray,List.append_toArray,List.nil_append,List.cons_append]
 refine wpN_seq (of_wp ?_)
 go_wp2
 refine wpN_seq (wpN_block ?_)
 refine wpN_seq (of_wp ?_)
 go_wp2
 refine wpN_cond (t:=false) rfl ?_
 rw[if_neg (by decide)]
 refine wpN_seq (of_wp ?_)
 go_wp2_with (first|(refine wpList_load_mid (op:={dst:=some 10,op:=.load 49 (.tmp 3),type:=_,pos:=_,after:=_,guard:=none}) rfl 49 (.tmp 3) rfl W.heap.size 0 rfl cs _ ?hr1 Tryz.underlying49 rfl hi ?_;case hr1=>exact hrg.out 0)|(go_at_call 31;refine Calls.mono (hcall.out _) ?_;rintro e W5 ⟨rfl,hw5⟩))
 refine of_wp ?_
 go_wp2
 go_ret
 exact⟨rfl,hw5⟩
set_option maxHeartbeats 2000000 in
set_option maxRecDepth 100000 in
theorem do_drop (h:Wst G W b bv xs sv ns ss t) (hb0:0<b) (hb:b≤1000) (ht0:0≤t) (ht:t≤1000)
 (hmay:∀V,Below W.heap.size W V→Calls Tryz.prog 31 #[.pointer (some ⟨G.A,G.oA,none⟩),.agg (actB 3).toArray] V λe w'=>e=.returned (.bool true)∧Below V.heap.size V w'):
 Calls Tryz.prog 11 #[.pointer (some ⟨G.A,G.oA,none⟩),.agg (actB 3).toArray] W λe w'=>e=.returned (.int .i64 0)∧∃bv',Wst G w' (b-1) bv' (xs.take (0*20)++xs.drop ((0+1)*20)) sv ns ss (t+1)∧Fresh W bv bv'∧Keep (λk=>k=G.A∨k=G.B∨bv.ownBlock=some k) W w':=by
 have hA:=h.lt'
 have hbw:Hid (∀o,Below W.heap.size W (W.alloc o)):=λo=>Below.alloc (Below.refl _ _) (Nat.le_refl _) o
 have mixed:Tryz.prog.follows .mixedOrders=true:=by kernel_rfl
 obtain⟨cs,hcs,hcl⟩:∃cs:List Value,cs=actB 3∧cs.length=24:=⟨_,rfl,rfl⟩
 have hk0:cs[0]?=some (.int .i64 1):=by rw[hcs];rfl
 have hk1:cs[1]?=some (.int .i64 0):=by rw[hcs];rfl
 rw[←hcs]at hmay⊢
 have hbox:∀j v,cs[j]?=some v→(W.alloc (.cells cs.toArray 49)).cell? ⟨W.heap.size,j,none⟩=some v:=λj v hv=>by
  rw[World.cell?_alloc_at (w:=W) _ _ _ _ rfl,List.getElem?_toArray];exact hv
 have hrg:Hid ((W.alloc (.cells cs.toArray 49)).rangeAt W.heap.size 0 cs):=λj v hv=>by rw[Nat.zero_add];exact hbox j v hv
 have hi:(Tryz.prog.info? 49).map (·.size)=some cs.length:=by rw[hcl];kernel_rfl
 have hN:W.heap.size<(W.alloc (.cells cs.toArray 49)).heap.size:=by rw[World.size_alloc];omega
 have hcall:Hid (Calls Tryz.prog 31 #[.pointer (some ⟨G.A,G.oA,none⟩),.agg cs.toArray] (W.alloc (.cells cs.toArray 49)) λe w'=>e=.returned (.bool true)∧DoF G W b bv xs sv ns ss t (.int .i64 1) (.int .i64 0) w'):=
  (hmay _ (hbw.out _)).mono λe w' ⟨h1,h2⟩=>⟨h1,(hbw.out _).trans (h2.mono (hbw.out _).size),h.keep_new ((hbw.out _).trans (h2.mono (hbw.out _).size)),Nat.lt_of_lt_of_le hN h2.size,(h2.cell hN).trans (hbox 0 _ hk0),(h2.cell hN).trans (hbox 1 _ hk1)⟩
 clear hmay hcs hcl hk0 hk1 hbox hN hbw
 have hwr:IntKind.i64.wrap (t+1)=t+1:=by simp[IntKind.wrap,IntKind.bits,IntKind.signed];omega
 refine calls_of_wpN Tryz.func11 rfl ?_
 simp only[Tryz.ntmps11,List.size_toArray,List.length_cons,List.length_nil,Nat.reduceAdd,Nat.reduceSub,Array.replicate_succ,
  Array.replicate_zero,List.push_toArray,List.append_toArray,List.nil_append,List.cons_append]
 refine wpN_seq (of_wp ?_)
 go_wp2
 refine wpN_seq (wpN_block ?_)
 refine wpN_seq (of_wp ?_)
 go_wp2
 refine wpN_cond (t:=false) rfl ?_
 rw[if_neg (by decide)]
 refine wpN_seq (of_wp ?_)
 go_wp2_with (first|(refine wpList_load_mid (op:={dst:=some 10,op:=.load 49 (.tmp 3),type:=_,pos:=_,after:=_,guard:=none}) rfl 49 (.tmp 3) rfl W.heap.size 0 rfl cs _ ?hr1 Tryz.underlying49 rfl hi ?_;case hr1=>exact hrg.out)|(go_at_call 31;refine Calls.mono hcall.out ?_;rintro e V ⟨rfl,hF⟩))
 clear hcall hrg hi
 have hct:=hF.st.timec
 have hft:=hF.st.sentf 5 (by omega)
 have hG:=hF.tick hA
 clear hF
 refine of_wp ?_
 go_wp2
 refine wpN_seq (of_wp ?_)
 go_wp2
 refine(λ(h:∀V3,DoG G W b bv xs sv ns ss (t+1) (.int .i64 1) (.int .i64 0) V3→WpN Tryz.prog _ _ _ V3)=>h _ hG) ?_
 clear hG hct hft
 intro V3 hG
 have hN:W.heap.size<V3.heap.size:=hG.size
 have hst:Hid _:=hG.st
 have hkp:Hid _:=hG.keep
 have hn0:=hG.k0
 have hn1:=hG.k1
 have hbp:=hG.st.bagp
 have hdrop:=drop_ok (hG.st.bag.keep (F:=λ_=>False) (Keep.drew V3) (λh=>h) (λ_ _ h=>h)) 0 hb0 hb
 have hdropH:Hid _:=hdrop
 clear hG hdrop
 refine wpN_seq ?_
 refine wpN_seq (of_wp ?_)
 go_wp2
 refine wpN_block ?_
 refine wpN_seq (of_wp ?_)
 go_wp2
 refine wpN_cond (t:=false) rfl ?_
 rw[if_neg (by decide)]
 refine wpN_seq (of_wp ?_)
 go_wp2
 refine wpN_cond (t:=true) rfl ?_
 rw[if_pos rfl]
 refine of_wp ?_
 refine wp_region_noPanic (wp_region_steps 6 [(0,true),(1,true),(2,true),(3,true),(4,true),(5,true)] (λV=>V.cell? ⟨G.A,G.oA+2,none⟩=some (.pointer (some ⟨G.B,G.oB,none⟩))∧V.cell? ⟨W.heap.size,1,none⟩=some (.int .i64 0)) mixed (by kernel_rfl) (λ_ _ _ _ h=>h.elim) ⟨hbp,hn1⟩ ?_)
 refine step_take2 (v:=?v0) (a':=?a0) rfl (y_runG (by first|rfl|simp[Region.wanted,yielded,Act.put,Act.eval]) λw hS=>?p0) ?h0 ?_
 case p0=>obtain⟨hs1,hs2⟩:=hS;go_simp;try exact rfl
 case h0=>go_simp;exact rfl
 refine step_take2 (v:=?v1) (a':=?a1) rfl (y_runG (by first|rfl|simp[Region.wanted,yielded,Act.put,Act.eval]) λw hS=>?p1) ?h1 ?_
 case p1=>obtain⟨hs1,hs2⟩:=hS;go_simp;try exact rfl
 case h1=>go_simp;exact rfl
 refine step_take2 (v:=?v2) (a':=?a2) rfl (y_runG (by first|rfl|simp[Region.wanted,yielded,Act.put,Act.eval]) λw hS=>?p2) ?h2 ?_
 case p2=>obtain⟨hs1,hs2⟩:=hS;go_simp;try exact rfl
 case h2=>go_simp;exact rfl
 refine step_take2 (v:=?v3) (a':=?a3) rfl (y_runG (by first|rfl|simp[Region.wanted,yielded,Act.put,Act.eval]) λw hS=>?p3) ?h3 ?_
 case p3=>obtain⟨hs1,hs2⟩:=hS;go_simp;try exact rfl
 case h3=>go_simp;exact rfl
 refine step_take2 (v:=?v4) (a':=?a4) rfl (y_runG (by first|rfl|simp[Region.wanted,yielded,Act.put,Act.eval]) λw hS=>?p4) ?h4 ?_
 case p4=>obtain⟨hs1,hs2⟩:=hS;go_simp;try exact rfl
 case h4=>go_simp;exact rfl
 refine step_take2 (v:=?v5) (a':=?a5) rfl (y_runG (by first|rfl|simp[Region.wanted,yielded,Act.put,Act.eval]) λw hS=>?p5) ?h5 ?_
 case p5=>obtain⟨hs1,hs2⟩:=hS;go_simp;try exact rfl
 case h5=>go_simp;exact rfl
 refine step_nil ?_
 simp only[List.drop_succ_cons,List.drop_zero]
 go_wp2_with (go_at_call 33;refine Calls.mono hdropH.out ?_;rintro e V4 ⟨rfl,bv',hst4,hfr4,hk4⟩;replace hst4:Hid _:=hst4;replace hfr4:Hid _:=hfr4;replace hk4:Hid _:=hk4)
 refine NoPanic.normal ?_
 have hres:=hst.out.rebag hst4.out (λk hk=>(hfr4.out k hk)) ((Keep.drew V3).trans hk4.out)
 have hkf:Keep (λk=>k=G.A∨k=G.B∨bv.ownBlock=some k) W V4:=(hkp.out.mono λk _ e=>.inl e).trans (((Keep.drew V3).trans hk4.out).mono λk _ e=>.inr e)
 have hfw:Fresh W bv bv':=λk hk=>(hfr4.out k hk).imp id λe=>by have e2:V3.drew.heap.size=V3.heap.size:=rfl;omega
 have hresH:Hid _:=hres
 have hkfH:Hid _:=hkf
 have hfwH:Hid _:=hfw
 clear hres hkf hfw hst4 hfr4 hk4 hkp hst hdropH
 refine wpN_seq (of_wp ?_)
 go_wp2
 refine of_wp ?_
 go_wp2
 go_ret
 exact⟨rfl,bv',hresH.out,hfwH.out,hkfH.out⟩
end
end Go.Rm
set_option linter.unusedVariables false
set_option linter.unusedSimpArgs false
noncomputable section
set_option maxRecDepth 1000000
namespace Go.Proofs.YthklkhndoojmfaaGreatDoor.Ev
open Go Go.Ev Go.Proofs Go.RowKit Go.Rm Go.Ry Go.Kx
def nodeS (i v:Nat):List SV:=[.int .i64 i,.int .i64 3,.int .i64 0,.int .i64 0,.int .i64 0,.int .i64 0,.bool false,.int .i64 0,.str 0 0,.nsl,.un,.nsl,.nsl,.un,.un,.int .i64 0,.nsl,.int .i64 0,.un,.optr v 0]
def vaultS (m:Nat):List SV:=[.un,.un,.int .i64 2176,.int .i64 4096,.int .i64 40960,.mp m]
def partS:St:=[(170,[.optr 10 0,.optr 66 0,.optr 122 0]),(10,nodeS 0 26),(26,vaultS 25),(25,[.mk 11]),(66,nodeS 1 82),(82,vaultS 81),(81,[.mk 11]),(122,nodeS 2 138),(138,vaultS 137),(137,[.mk 11])]
def newS:St:=(4,[.osl 170 0 3 3 1,.un,.optr 3 0,.nsl,.nsl,.int .i64 0])::(3,[.nsl])::partS
def isVn (exp:AV) (l:St) (N:Nat) (v:AV) (mu:St) (n:Nat):RR:=λpc=>isV exp l v mu n pc&&Nat.ble n N
theorem callVn {m:Nat→Nat} {P:Program} {val:Nat→Int} {orc:Orc RR} {K:Nat→Option (Contract RR)} {F:HTree} {depth f:Nat} {args:List AV} {fz:Fz} {mu l:St} {n N:Nat} {exp:AV} (hk:OrcOk (TT m) val orc) (hmx:P.follows .mixedOrders=true)
 (hK:∀f c,K f=some c→ContractOk (TT m) P val f c) (hF:F.Ok P) (h:TT m (hcall orc K F.find depth f args fz mu n (isVn exp l N))) (ρ:Rho) (w:World) (hr:Rel val ρ fz mu w) (xs:List Value) (hx:All2 (AVR val ρ w) args xs) (hf:∀id,n≤id→ρ id=none):
 Calls P f xs.toArray w λe w'=>∃x ρ',e=.returned x∧(∃n',n'≤N∧Ext ρ ρ' n n')∧Rel val ρ' fz l w'∧AVR val ρ' w' exp x∧Fr ρ mu w w'∧∀id p,(Go.Ev.look l id).isSome→ρ' id=some p→w.heap.size≤p.1∨∃id0 p0,(Go.Ev.look mu id0).isSome∧ρ id0=some p0∧p0.1=p.1:=by
 obtain⟨v,mu',n',h1,_,h2,h3⟩:=hcall_sound (T:=TT m) zz_not hk hmx hK (HTree.ok hF) depth f args fz mu n (isVn exp l N) h
 have h1':TT m (isV exp l v mu' n')∧n'≤N:=by
  obtain⟨pc,ok,h⟩:=h1
  simp only[isVn,Bool.and_eq_true]at h
  exact⟨⟨pc,ok,h.1⟩,Nat.le_of_ble_eq_true h.2⟩
 obtain⟨rfl,hh⟩:=isV_elim h1'.1
 have ha:=hasK_all hh
 refine(h3 ρ w xs hr hx (λid h1 _=>hf id h1)).mono λe w' ⟨x,e1,ρ',p1,p2,p3,p4,p5,p6⟩=>?_
 refine⟨x,ρ',e1,⟨n',h1'.2,p1⟩,p2.weak ha,p3,p4,λid p hl hp=>p5 id p ?_ hp⟩
 obtain⟨c,hc⟩:=Option.isSome_iff_exists.1 hl
 obtain⟨c',h1,_⟩:=ha id c hc
 rw[h1];rfl
theorem newRuns:hcall (noOrc zz) KT0.find FT.find 60 10 [.one (.int .i64 3),.one (.int .i64 4096)] (gFz 0 1 3) [] 3 (isVn (.tp [.one (.optr 4 0),.one (.int .i64 0)]) newS 173) []=true:=by kernel_rfl
def nodesS:St:=(4,[.osl 170 0 3 3 1,.un,.un,.nsl,.un,.un])::partS
def fzN:Fz:=λid=>match(gFz 0 1 3) id with|some c=>some c|none=>Go.Ev.look nodesS id
def toldS:List SV:=[.bool true,.int .i64 0,.int .i64 0,.int .i64 0,.int .i64 0,.int .i64 0,.int .i64 0,.int .i64 0]
theorem nodesRuns:hcall (noOrc zz) KT0.find FT.find 60 14 [.one (.optr 4 0)] fzN [] 173 (isVn (.one (.osl 193 0 3 3 8)) [(193,toldS++toldS++toldS)] 194) []=true:=by kernel_rfl
theorem gotRuns:hcall (noOrc zz) KT0.find FT.find 60 16 [.one (.optr 4 0)] fzN [] 173 (isVn (.one .nsl) [] 173) []=true:=by kernel_rfl
structure NP (G:Geo) (g0:Nat) (ρ:Rho) (w:World):Prop where
 h4:ρ 4=some (G.A,G.oA)
 h3:ρ 3=some (G.B,G.oB)
 old:∀id,173≤id→ρ id=none
 glob:∀id p,(gRho 0 1 3) id=some p→ρ id=some p
 own:∀id cs,Go.Ev.look partS id=some cs→OwnG (λ_=>0) ρ w id cs
 apart:∀id p,(Go.Ev.look partS id).isSome→ρ id=some p→p.1≠G.A∧p.1≠G.B∧p.1<G.base∧g0≤p.1
 fr:FrOk G.fA G.nA
 nd:VR (λ_=>0) ρ w (.osl 170 0 3 3 1) G.nd
set_option maxHeartbeats 1000000 in
theorem new_ok (W:World) (hw:GW 0 1 3 W):Calls Tryz.prog 10 #[.int .i64 3,.int .i64 4096] W fun e w'=>∃G ρ,e=.returned (.tuple #[.pointer (some ⟨G.A,G.oA,none⟩),.int .i64 0])∧
 Wst G w' 0 (.slice none 0 0) [] (.slice none 0 0) 0 [] 0∧NP G W.heap.size ρ w'∧G.base=w'.heap.size∧W.heap.size≤G.A∧W.heap.size≤G.B∧Below W.heap.size W w':=by
 refine(callVn (m:=λ_=>0) (val:=λ_=>0) (noOrc_ok zz_not _) mixed (KTree.ok (kt0Ok _ _)) ftOk ⟨[],(λj p h=>by simp at h),newRuns⟩ (gRho 0 1 3) W hw.rel [.int .i64 3,.int .i64 4096] ⟨rfl,rfl,trivial⟩ λid hid=>by
  match id,hid with
  |id+3,_=>rfl).mono λe w' ⟨x,ρ,h1,⟨n',hn',hext⟩,hr,hx,hfr,hnew⟩=>?_
 obtain⟨vs,rfl,hv⟩:=hx
 match vs,hv with
 |[a,c],⟨ha,hc,_⟩=>
  obtain⟨pA,hA,rfl⟩:∃p,ρ 4=some p∧a=.pointer (some ⟨p.1,p.2+0,none⟩):=ha
  have hc':c=.int .i64 0:=hc
  subst hc'
  obtain⟨q,CA,tA,fA,hq,hbA,hfA,hlA,hcA⟩:=(hr.rm 4 [.osl 170 0 3 3 1,.un,.optr 3 0,.nsl,.nsl,.int .i64 0] rfl).plain rfl
  rw[hA]at hq;cases hq
  obtain⟨pB,CB,tB,fB,hB,hbB,hfB,hlB,hcB⟩:=(hr.rm 3 [.nsl] rfl).plain rfl
  obtain⟨nd,hnd1,hnd2⟩:=hcA 0 _ rfl
  obtain⟨dk,hdk1,_⟩:=hcA 1 _ rfl
  obtain⟨v2,hv2,⟨q2,hq2,hv2'⟩⟩:=hcA 2 _ rfl
  obtain⟨v3,hv3,hv3'⟩:=hcA 3 _ rfl
  obtain⟨v4,hv4,hv4'⟩:=hcA 4 _ rfl
  obtain⟨v5,hv5,hv5'⟩:=hcA 5 _ rfl
  obtain⟨u0,hu0,hu0'⟩:=hcB 0 _ rfl
  have e2:v2=.pointer (some ⟨pB.1,pB.2,none⟩):=by rw[hB]at hq2;cases hq2;exact hv2'
  have e3:v3=.slice none 0 0:=hv3'
  have e4:v4=.slice none 0 0:=hv4'
  have e5:v5=.int .i64 0:=hv5'
  have e0:u0=.slice none 0 0:=hu0'
  subst e2 e3 e4 e5 e0
  have hlA6:pA.2+6≤CA.size:=hlA
  have hnewB:=hnew 3 pB rfl hB
  have hnewA:=hnew 4 pA rfl hA
  have hno:∀id0 p0,¬((Go.Ev.look [] id0).isSome=true∧(gRho 0 1 3) id0=some p0):=λid0 p0 h=>by cases h.1
  have hgA:W.heap.size≤pA.1:=hnewA.elim id λ⟨i,p,h1,h2,_⟩=>absurd ⟨h1,h2⟩ (hno i p)
  have hgB:W.heap.size≤pB.1:=hnewB.elim id λ⟨i,p,h1,h2,_⟩=>absurd ⟨h1,h2⟩ (hno i p)
  have hne:pA.1≠pB.1:=λe=>by have:=hr.dj 4 3 pA pB rfl (.inl rfl) hA hB e;cases this
  have hpart:∀id cs,Go.Ev.look partS id=some cs→Go.Ev.look newS id=some cs:=λid cs h=>by
   have h1:Go.Ev.look newS id=cond (Nat.beq 4 id) (some _) (cond (Nat.beq 3 id) (some _) (Go.Ev.look partS id)):=rfl
   cases h4:Nat.beq 4 id with
   |true=>have:=Nat.eq_of_beq_eq_true h4;subst this;cases h
   |false=>
    cases h3:Nat.beq 3 id with
    |true=>have:=Nat.eq_of_beq_eq_true h3;subst this;cases h
    |false=>rw[h1,h4,h3];exact h
  have hps:∀id,(Go.Ev.look partS id).isSome→(Go.Ev.look newS id).isSome∧id≠4∧id≠3:=λid h=>by
   obtain⟨cs,hcs⟩:=Option.isSome_iff_exists.1 h
   refine⟨by rw[hpart id cs hcs];rfl,λe=>?_,λe=>?_⟩
   ·subst e;cases hcs
   ·subst e;cases hcs
  refine⟨⟨pA.1,pA.2,CA.size,tA,fA,pB.1,pB.2,CB.size,tB,fB,w'.heap.size,nd,dk⟩,ρ,h1,?_,?_,rfl,hgA,hgB,below_of_fr (fr_any hfr)⟩
  ·refine⟨⟨⟨CB,hbB,rfl,hu0⟩,hfB.no (by have:pB.2+1≤CB.size:=hlB;show pB.2<CB.size;omega),(Array.getElem?_eq_some_iff.1 hbB).1,Nat.le_refl _,World.ownsRow_nil _ _ _ _,λu hu=>by cases hu⟩,⟨CA,hbA,rfl,hnd1,hdk1,hv2,hv3,hv4,hv5⟩,λi hi=>hfA.no (by show pA.2+i<_;omega),(Array.getElem?_eq_some_iff.1 hbA).1,hne,World.ownsRow_nil _ _ _ _,λk hk=>by cases hk⟩
  ·refine⟨hA,hB,λid hid=>?_,λid p h=>hext.old id p h,λid cs h=>hr.rm id cs (hpart id cs h),λid p h hp=>?_,hfA,hnd2⟩
   ·cases h:ρ id with
    |none=>rfl
    |some p=>
     rcases hext.new id p h with h2|h2
     ·match id,hid,h2 with
      |id+3,_,h2=>cases h2
     ·omega
   ·obtain⟨h2,h4,h3⟩:=hps id h
    obtain⟨cs,hcs⟩:=Option.isSome_iff_exists.1 h
    refine⟨λe=>h4 (hr.dj id 4 p pA h2 (.inl rfl) hp hA e),λe=>h3 (hr.dj id 3 p pB h2 (.inl rfl) hp hB e),(hr.rm id cs (hpart id cs hcs)).lt hp,(hnew id p h2 hp).elim (λh=>h) λ⟨i,p,h1,h2,_⟩=>absurd ⟨h1,h2⟩ (hno i p)⟩
end Go.Proofs.YthklkhndoojmfaaGreatDoor.Ev
set_option linter.unusedVariables false
set_option linter.unusedSimpArgs false
noncomputable section
set_option maxRecDepth 1000000
namespace Go.Proofs.YthklkhndoojmfaaGreatDoor.Ev
open Go Go.Ev Go.Proofs Go.RowKit Go.Rm Go.Ry Go.Kx
def toldC:List Value:=[.bool true,.int .i64 0,.int .i64 0,.int .i64 0,.int .i64 0,.int .i64 0,.int .i64 0,.int .i64 0]
section
variable {G:Geo} {g0:Nat} {ρ:Rho} {w V:World} {b0:Nat} {bv0:Value} {xs0:List Value} {sv0:Value} {ns0:Nat} {ss0:List Value} {t0:Int} {b:Nat} {bv:Value} {xs:List Value} {sv:Value} {ns:Nat} {ss:List Value} {t:Int}
theorem sizes (h0:Wst G w b0 bv0 xs0 sv0 ns0 ss0 t0) (hb:G.base=w.heap.size) (h:Wst G V b bv xs sv ns ss t) (hk:Keep (fun k=>k=G.A∨k=G.B∨G.base≤k) w V):∀k,bsize w k≤bsize V k:=by
 intro k
 rcases Nat.lt_or_ge k w.heap.size with hlt|hge
 ·by_cases hA:k=G.A
  ·subst hA
   obtain⟨C,h1,h2,_⟩:=h0.blk
   obtain⟨D,h3,h4,_⟩:=h.blk
   unfold bsize
   rw[h1,h3]
   show C.size≤D.size
   omega
  ·by_cases hB:k=G.B
   ·subst hB
    obtain⟨C,h1,h2,_⟩:=h0.bag.blk
    obtain⟨D,h3,h4,_⟩:=h.bag.blk
    unfold bsize
    rw[h1,h3]
    show C.size≤D.size
    omega
   ·unfold bsize
    rw[hk.block k hlt (λe=>by rcases e with e|e|e;exact hA e;exact hB e;omega)]
    exact Nat.le_refl _
 ·unfold bsize
  rw[Array.getElem?_eq_none hge]
  exact Nat.zero_le _
theorem relN (hn:NP G g0 ρ w) (h0:Wst G w b0 bv0 xs0 sv0 ns0 ss0 t0) (hb:G.base=w.heap.size) (h:Wst G V b bv xs sv ns ss t) (hk:Keep (λk=>k=G.A∨k=G.B∨G.base≤k) w V) (hg:GW 0 1 3 V):Rel (λ_=>0) ρ fzN [] V:=by
 have hs:=sizes h0 hb h hk
 refine⟨λid cs hf=>?_,λid cs hl=>(by cases hl),λid cs hl=>(by cases hl),λid id' p p' hl=>(by cases hl)⟩
 have hpart:∀id cs,Go.Ev.look partS id=some cs→OwnF (λ_=>0) ρ V id cs:=λid cs hl=>
  ((hn.own id cs hl).mono (fun _ _ h=>h) hs fun p hp=>by
    obtain⟨q1,q2,q3,_⟩:=hn.apart id p (by rw[hl];rfl) hp
    exact hk.block p.1 (by omega) (λe=>by rcases e with e|e|e;exact q1 e;exact q2 e;omega)).f
 have h4:OwnF (λ_=>0) ρ V 4 [.osl 170 0 3 3 1,.un,.un,.nsl,.un,.un]:=by
  obtain⟨C,h1,h2,c0,c1,c2,c3,c4,c5⟩:=h.blk
  have hl:G.oA+5<C.size:=(Array.getElem?_eq_some_iff.1 c5).1
  refine .inl ⟨(G.A,G.oA),C,G.tA,G.fA,hn.h4,h1,by show G.oA+6≤C.size;omega,λi s hi=>?_⟩
  match i,hi with
  |0,hi=>cases hi;exact⟨_,c0,hn.nd.mono (λ_ _ h=>h) hs⟩
  |1,hi=>cases hi;exact⟨_,c1,trivial⟩
  |2,hi=>cases hi;exact⟨_,c2,trivial⟩
  |3,hi=>cases hi;exact⟨_,c3,rfl⟩
  |4,hi=>cases hi;exact⟨_,c4,trivial⟩
  |5,hi=>cases hi;exact⟨_,c5,trivial⟩
  |i+6,hi=>simp at hi
 have hf':(match(gFz 0 1 3) id with|some c=>some c|none=>Go.Ev.look nodesS id)=some cs:=hf
 match id,hf' with
 |0,hf'=>cases hf';exact hg.c0.own (hn.glob 0 _ rfl)
 |1,hf'=>cases hf';exact hg.c1.own (hn.glob 1 _ rfl)
 |2,hf'=>cases hf';exact hg.c2.own (hn.glob 2 _ rfl)
 |id+3,hf'=>
  have h1:Go.Ev.look nodesS (id+3)=some cs:=hf'
  have h2:Go.Ev.look nodesS (id+3)=cond (Nat.beq 4 (id+3)) (some [.osl 170 0 3 3 1,.un,.un,.nsl,.un,.un]) (Go.Ev.look partS (id+3)):=rfl
  rw[h2]at h1
  cases e:Nat.beq 4 (id+3)with
  |true=>
   rw[e]at h1
   have:=Nat.eq_of_beq_eq_true e
   cases h1
   rw[←this]
   exact h4
  |false=>rw[e]at h1;exact hpart _ _ h1
theorem nodes_ok (hn:NP G g0 ρ w) (h0:Wst G w b0 bv0 xs0 sv0 ns0 ss0 t0) (hb:G.base=w.heap.size) (h:Wst G V b bv xs sv ns ss t) (hk:Keep (λk=>k=G.A∨k=G.B∨G.base≤k) w V) (hg:GW 0 1 3 V):
 Calls Tryz.prog 14 #[.pointer (some ⟨G.A,G.oA,none⟩)] V λe w'=>Below V.heap.size V w'∧∃g o c,e=.returned (.slice (some ⟨g,o,none⟩) 3 c)∧V.heap.size≤g∧∀i,i<3→w'.rangeAt g (o+i*8) toldC:=by
 refine(callVn (m:=λ_=>0) (val:=λ_=>0) (noOrc_ok zz_not _) mixed (KTree.ok (kt0Ok _ _)) ftOk ⟨[],(λj p h=>by simp at h),nodesRuns⟩ ρ V (relN hn h0 hb h hk hg) [.pointer (some ⟨G.A,G.oA,none⟩)] ⟨⟨_,hn.h4,rfl⟩,trivial⟩ hn.old).mono λe w' ⟨x,ρ',h1,_,hr,hx,hfr,hnew⟩=>?_
 obtain⟨p,c,hp,rfl,_⟩:=hx
 refine⟨below_of_fr (fr_any hfr),p.1,p.2,c,h1,(hnew 193 p rfl hp).elim id (λ⟨_,_,h,_⟩=>by cases h),λi hi j v hv=>?_⟩
 obtain⟨q,C,ty,fr,hq,hbq,_,hlq,hcq⟩:=(hr.rm 193 (toldS++toldS++toldS) rfl).plain rfl
 rw[hp]at hq;cases hq
 have hj:j<8:=(List.getElem?_eq_some_iff.1 hv).1
 have key:∀i,i<3→∀j,j<8→∃s,(toldS++toldS++toldS)[i*8+j]?=some s∧s.isPlain=true∧some s.plain=toldC[j]?:=by
  intro i hi j hj
  match i,hi with
  |0,_=>match j,hj with|0,_|1,_|2,_|3,_|4,_|5,_|6,_|7,_=>exact⟨_,rfl,rfl,rfl⟩
  |1,_=>match j,hj with|0,_|1,_|2,_|3,_|4,_|5,_|6,_|7,_=>exact⟨_,rfl,rfl,rfl⟩
  |2,_=>match j,hj with|0,_|1,_|2,_|3,_|4,_|5,_|6,_|7,_=>exact⟨_,rfl,rfl,rfl⟩
 obtain⟨s,hs1,hs2,hs3⟩:=key i hi j hj
 obtain⟨u,hu1,hu2⟩:=hcq (i*8+j) s hs1
 have hu3:=hu2.plain hs2
 rw[hv]at hs3
 cases hs3
 rw[cell_blk hbq,←hu3,←hu1]
 congr 1
 omega
theorem got_ok (hn:NP G g0 ρ w) (h0:Wst G w b0 bv0 xs0 sv0 ns0 ss0 t0) (hb:G.base=w.heap.size) (h:Wst G V b bv xs sv ns ss t) (hk:Keep (λk=>k=G.A∨k=G.B∨G.base≤k) w V) (hg:GW 0 1 3 V):
 Calls Tryz.prog 16 #[.pointer (some ⟨G.A,G.oA,none⟩)] V λe w'=>e=.returned (.slice none 0 0)∧Below V.heap.size V w':=by
 refine(callVn (m:=λ_=>0) (val:=λ_=>0) (noOrc_ok zz_not _) mixed (KTree.ok (kt0Ok _ _)) ftOk ⟨[],(λj p h=>by simp at h),gotRuns⟩ ρ V (relN hn h0 hb h hk hg) [.pointer (some ⟨G.A,G.oA,none⟩)] ⟨⟨_,hn.h4,rfl⟩,trivial⟩ hn.old).mono λe w' ⟨x,ρ',h1,_,_,hx,hfr,_⟩=>?_
 have hx':x=.slice none 0 0:=hx
 exact⟨by rw[h1,hx'],below_of_fr (fr_any hfr)⟩
end
end Go.Proofs.YthklkhndoojmfaaGreatDoor.Ev
