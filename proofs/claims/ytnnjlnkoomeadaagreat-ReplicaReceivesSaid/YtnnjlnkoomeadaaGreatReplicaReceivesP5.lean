/-
  ReplicaReceives: part 5 of what the proof is made of.
-/
import Derived.Test.YtnnjlnkoomeadaaGreatReplicaReceivesP4
set_option linter.unusedVariables false
set_option linter.unusedSimpArgs false
set_option linter.unusedSectionVars false
noncomputable section
namespace Go.Ev.Rp
open Go.Ev
structure Tx where
 l:Nat
 n:Nat
 wf:n<256^l
 deriving DecidableEq
abbrev Tx.sv (t:Tx):SV:=.str t.l t.n
structure Pt where
 series:Tx
 time:Int
 value:Int
 deriving DecidableEq
structure Ent where
 view:Int
 client:Int
 session:Int
 number:Int
 batch:List Pt
 deriving DecidableEq
structure Lg where
 base:Int
 snap:Tx
 ents:List Ent
 deriving DecidableEq
structure Dv where
 frm:Int
 normal:Int
 commit:Int
 log:Lg
 deriving DecidableEq
structure Rep where
 me:Int
 nodes:Int
 view:Int
 normal:Int
 status:Int
 commit:Int
 sent:Bool
 log:Lg
 acks:List Int
 starts:List Int
 dos:List Dv
 deriving DecidableEq
structure Msg where
 kind:Int
 frm:Int
 to:Int
 view:Int
 normal:Int
 at':Int
 commit:Int
 round:Int
 client:Int
 session:Int
 number:Int
 code:Int
 agg:Int
 until':Int
 series:Tx
 batch:List Pt
 log:Lg
 text:Tx
 deriving DecidableEq
structure Rd where
 round:Int
 at':Int
 client:Int
 agreed:List Int
 msg:Msg
 deriving DecidableEq
abbrev I (n:Int):SV:=.int .i64 n
def ptC (p:Pt):List SV:=[p.series.sv,I p.time,I p.value]
def intC (n:Int):List SV:=[I n]
def PtsR (M:Fz) (x:SV) (l:List Pt):Prop:=Sl M 3 x (l.map ptC)
def IntsR (M:Fz) (x:SV) (l:List Int):Prop:=Sl M 1 x (l.map intC)
def entC (e:Ent) (b:SV):List SV:=[I e.view,I e.client,I e.session,I e.number,b]
def EntR (M:Fz) (c:List SV) (e:Ent):Prop:=∃b,c=entC e b/\PtsR M b e.batch
def EntsR (M:Fz) (x:SV) (l:List Ent):Prop:=∃cs,Sl M 5 x cs/\All2 (EntR M) cs l
def lgC (l:Lg) (x:SV):List SV:=[I l.base,l.snap.sv,x]
def dvC (d:Dv) (x:SV):List SV:=[I d.frm,I d.normal,I d.commit,I d.log.base,d.log.snap.sv,x]
def DvR (M:Fz) (c:List SV) (d:Dv):Prop:=∃x,c=dvC d x/\EntsR M x d.log.ents
def DvsR (M:Fz) (x:SV) (l:List Dv):Prop:=∃cs,Sl M 6 x cs/\All2 (DvR M) cs l
def repC (r:Rep) (xe xa xs xd:SV):List SV:=
 [I r.me,I r.nodes,I r.view,I r.normal,I r.status,I r.commit,.bool r.sent,I r.log.base,r.log.snap.sv,xe,xa,xs,xd]
def msgC (m:Msg) (xb xe:SV):List SV:=
 [I m.kind,I m.frm,I m.to,I m.view,I m.normal,I m.at',I m.commit,I m.round,I m.client,I m.session,I m.number,I m.code,I m.agg,I m.until',m.series.sv,xb,I m.log.base,m.log.snap.sv,xe,m.text.sv]
def MsgR (M:Fz) (c:List SV) (m:Msg):Prop:=∃xb xe,c=msgC m xb xe/\PtsR M xb m.batch/\EntsR M xe m.log.ents
def MsgsR (M:Fz) (x:SV) (l:List Msg):Prop:=∃cs,Sl M 20 x cs/\All2 (MsgR M) cs l
section
variable {M M':Fz} (hm:∀id B,M id=some B->M' id=some B)
include hm
theorem PtsR.mono {x:SV} {l:List Pt} (h:PtsR M x l):PtsR M' x l:=Sl.mono h hm
theorem IntsR.mono {x:SV} {l:List Int} (h:IntsR M x l):IntsR M' x l:=Sl.mono h hm
theorem EntR.mono {c:List SV} {e:Ent} (h:EntR M c e):EntR M' c e:=let⟨b,h1,h2⟩:=h;⟨b,h1,PtsR.mono hm h2⟩
theorem EntsR.mono {x:SV} {l:List Ent} (h:EntsR M x l):EntsR M' x l:=let⟨cs,h1,h2⟩:=h;⟨cs,h1.mono hm,h2.imp λ_ _ h=>EntR.mono hm h⟩
theorem DvR.mono {c:List SV} {d:Dv} (h:DvR M c d):DvR M' c d:=let⟨x,h1,h2⟩:=h;⟨x,h1,EntsR.mono hm h2⟩
theorem DvsR.mono {x:SV} {l:List Dv} (h:DvsR M x l):DvsR M' x l:=let⟨cs,h1,h2⟩:=h;⟨cs,h1.mono hm,h2.imp λ_ _ h=>DvR.mono hm h⟩
theorem MsgR.mono {c:List SV} {m:Msg} (h:MsgR M c m):MsgR M' c m:=let⟨xb,xe,h1,h2,h3⟩:=h;⟨xb,xe,h1,PtsR.mono hm h2,EntsR.mono hm h3⟩
theorem MsgsR.mono {x:SV} {l:List Msg} (h:MsgsR M x l):MsgsR M' x l:=let⟨cs,h1,h2⟩:=h;⟨cs,h1.mono hm,h2.imp λ_ _ h=>MsgR.mono hm h⟩
end
theorem PtsR.elem {M:Fz} {x:SV} {l:List Pt} (h:PtsR M x l) {i:Nat} (hi:i<l.length):∃id off cap B,x=.osl id off l.length cap 3/\M id=some B/\mkd B=false/\off+i*3+3<=B.length/\(B.drop (off+i*3)).take 3=ptC l[i]:=by
 obtain⟨id,off,cap,B,h1,h2,h3,h4,h5⟩:=Sl.elem h (i:=i) (by simpa using hi);exact⟨id,off,cap,B,by simpa using h1,h2,h3,h4,by simpa using h5⟩
theorem IntsR.elem {M:Fz} {x:SV} {l:List Int} (h:IntsR M x l) {i:Nat} (hi:i<l.length):∃id off cap B,x=.osl id off l.length cap 1/\M id=some B/\mkd B=false/\off+i*1+1<=B.length/\(B.drop (off+i*1)).take 1=[I l[i]]:=by
 obtain⟨id,off,cap,B,h1,h2,h3,h4,h5⟩:=Sl.elem h (i:=i) (by simpa using hi);exact⟨id,off,cap,B,by simpa using h1,h2,h3,h4,by simpa[intC]using h5⟩
theorem EntsR.elem {M:Fz} {x:SV} {l:List Ent} (h:EntsR M x l) {i:Nat} (hi:i<l.length):∃id off cap B b,x=.osl id off l.length cap 5/\M id=some B/\mkd B=false/\off+i*5+5<=B.length/\(B.drop (off+i*5)).take 5=entC l[i] b/\PtsR M b l[i].batch:=by
 obtain⟨cs,h1,h2⟩:=h;have hl:=h2.length;obtain⟨id,off,cap,B,g1,g2,g3,g4,g5⟩:=h1.elem (i:=i) (by omega);obtain⟨b,e1,e2⟩:=h2.at (i:=i) (by omega) hi;exact⟨id,off,cap,B,b,by rw[<-hl];exact g1,g2,g3,g4,by rw[g5,e1],e2⟩
theorem DvsR.elem {M:Fz} {x:SV} {l:List Dv} (h:DvsR M x l) {i:Nat} (hi:i<l.length):∃id off cap B b,x=.osl id off l.length cap 6/\M id=some B/\mkd B=false/\off+i*6+6<=B.length/\(B.drop (off+i*6)).take 6=dvC l[i] b/\EntsR M b l[i].log.ents:=by
 obtain⟨cs,h1,h2⟩:=h;have hl:=h2.length;obtain⟨id,off,cap,B,g1,g2,g3,g4,g5⟩:=h1.elem (i:=i) (by omega);obtain⟨b,e1,e2⟩:=h2.at (i:=i) (by omega) hi;exact⟨id,off,cap,B,b,by rw[<-hl];exact g1,g2,g3,g4,by rw[g5,e1],e2⟩
theorem PtsR.len {M:Fz} {x:SV} {l:List Pt} (h:PtsR M x l):(∀k,onLen x k=k l.length)/\x.isStr=false/\x.known=true/\x.isMk=false:=
 ⟨λk=>by have:=(Sl.len h (k:=k)).1;simpa using this,(Sl.len h (k:=λ_=>True)).2,(Sl.known h).1,(Sl.known h).2⟩
theorem IntsR.len {M:Fz} {x:SV} {l:List Int} (h:IntsR M x l):(∀k,onLen x k=k l.length)/\x.isStr=false/\x.known=true/\x.isMk=false:=
 ⟨λk=>by have:=(Sl.len h (k:=k)).1;simpa using this,(Sl.len h (k:=λ_=>True)).2,(Sl.known h).1,(Sl.known h).2⟩
theorem EntsR.len {M:Fz} {x:SV} {l:List Ent} (h:EntsR M x l):(∀k,onLen x k=k l.length)/\x.isStr=false/\x.known=true/\x.isMk=false:=by
 obtain⟨cs,h1,h2⟩:=h;exact⟨λk=>by have:=(Sl.len h1 (k:=k)).1;rw[h2.length]at this;exact this,(Sl.len h1 (k:=λ_=>True)).2,(Sl.known h1).1,(Sl.known h1).2⟩
theorem DvsR.len {M:Fz} {x:SV} {l:List Dv} (h:DvsR M x l):(∀k,onLen x k=k l.length)/\x.isStr=false/\x.known=true/\x.isMk=false:=by
 obtain⟨cs,h1,h2⟩:=h;exact⟨λk=>by have:=(Sl.len h1 (k:=k)).1;rw[h2.length]at this;exact this,(Sl.len h1 (k:=λ_=>True)).2,(Sl.known h1).1,(Sl.known h1).2⟩
def Qqk (b:Nat):Bool:=decide (97<=b)&&decide (b<=122)||decide (48<=b)&&decide (b<=57)||decide (b=95)
def Qpu (l n i:Nat):Nat:=n/256^(l-1-i)%256
def nameB (t:Tx):Bool:=decide (1<=t.l)&&decide (t.l<=12)&&(List.range t.l).all λi=>Qqk (Qpu t.l t.n i)
def Qi4 (x:Int):Bool:=decide (-2147483648<=x)&&decide (x<=2147483647)
def countB (x:Int):Bool:=decide (0<=x)&&decide (x<=2147483647)
def ptB (p:Pt):Bool:=nameB p.series&&Qi4 p.time&&Qi4 p.value
def Qip (l:List Pt):Bool:=decide (l.length<=8)&&l.all ptB
def entB (e:Ent):Bool:=countB e.view&&countB e.client&&countB e.session&&countB e.number&&Qip e.batch&&(decide (0<e.session)||decide (e.batch.length=0))
def lgB (l:Lg):Bool:=countB l.base&&decide (l.snap.l<=65536)&&(decide (l.base≠0)||decide (l.snap.l=0))&&decide (l.ents.length<=4096)&&l.ents.all entB
def last (l:Lg):Int:=IntKind.i64.wrap (l.base+l.ents.length)
def Qj1 (k:Int):Bool:=decide (k=1)||decide (k=3)||decide (k=5)||decide (k=7)
def Qf8 (me k:Int):Int->List Int->Bool
 |_,[]=>true
 |p,x::l=>decide (p<x)&&decide (x<k)&&decide (x≠me)&&Qf8 me k x l
def dosB (r:Rep):Bool:=r.dos.all λd=>lgB d.log&&decide (0<=d.normal)&&decide (d.normal<r.view)&&decide (0<=d.commit)
def repB (r:Rep):Bool:=
 Qj1 r.nodes&&decide (0<=r.me)&&decide (r.me<r.nodes)&&decide (0<=r.status)&&decide (r.status<=2)&&countB r.view&&countB r.normal&&countB r.commit&&
 decide (r.normal<=r.view)&&(decide (r.status≠0)||decide (r.normal=r.view))&&lgB r.log&&decide (r.log.base<=r.commit)&&decide (r.commit<=last r.log)&&
 decide ((r.acks.length:Int)=r.nodes)&&r.acks.all countB&&(decide (r.status=1)||decide (r.starts.length=0)&&decide (r.dos.length=0)&&!r.sent)&&
 Qf8 r.me r.nodes (-1) r.starts&&Qf8 r.me r.nodes (-1) (r.dos.map (·.frm))&&dosB r
end Go.Ev.Rp
namespace Go.Proofs.YtnnjlnkoomeadaaGreat.Pv
open Go.Ev Go.Ev.Rp
set_option maxRecDepth 100000
theorem small_eq (x:Int):decide (x=IntKind.i64.wrap (IntKind.i32.wrap x))=Qi4 x:=by
 unfold Qi4;have h1:IntKind.i32.wrap x=(x+2147483648)%4294967296-2147483648:=by simp[IntKind.wrap,IntKind.bits,IntKind.signed];omega
 have h2:IntKind.i64.wrap (IntKind.i32.wrap x)=IntKind.i32.wrap x:=wrap64 (by rw[h1];omega) (by rw[h1];omega);rw[h2,h1,Bool.eq_iff_iff];simp;omega
abbrev BoolC (P:Program) (f:Nat) (args:List AV) (pre:Fz->Prop) (b:Bool):Prop:=Ctr P f args pre λ_ _ _ v=>v=.one (.bool b)
theorem boolC {P:Program} {f:Nat} {af:AFunc} {args:List AV} {pre:Fz->Prop} {b:Bool} (hmx:P.follows .mixedOrders=true) (hf:FOk P f af) (fu:Nat) (h:∀fz mu n k,Free fz mu n->Gr n fz mu mu n n->pre (with' mu fz)->(∀mu' n',Gr n fz mu mu' n n'->k (.one (.bool b)) mu' n')->textP P fu af args fz mu n k):BoolC P f args pre b:=
 Ctr.of hmx hf (λ_=>fu) λfz mu n k h1 h2 h3=>h fz mu n k h1 (Gr.refl h1) h2 λmu' n' g=>h3 _ mu' n' g rfl
theorem Qxh (b:Nat):Qqk b=(decide ((97:Int)<=b)&&decide ((b:Int)<=122)||(decide ((48:Int)<=b)&&decide ((b:Int)<=57)||decide ((b:Int)=95))):=by
 unfold Qqk;rw[Bool.eq_iff_iff];simp;omega
theorem Qe7 (t:Tx):strEq t.l t.n 0 0=decide (t.l=0):=by
 rw[Bool.eq_iff_iff,Qjb,decide_eq_true_iff];refine⟨λh=>h.1,λh=>⟨h,?_⟩⟩;have:=t.wf;rw[h]at this;simpa using this
theorem Qot (b:Int):Qj1 b=(decide (1<=b)&&decide (b<=7)&&decide (b.tmod 2=1)):=by
 unfold Qj1;rw[Bool.eq_iff_iff];simp only[Bool.or_eq_true,Bool.and_eq_true,decide_eq_true_eq];constructor
 ·rintro(((rfl|rfl)|rfl)|rfl)<;>decide
 ·rintro⟨⟨h1,h2⟩,h3⟩;rw[Int.tmod_eq_emod_of_nonneg (by omega)]at h3;omega
def meB (a b:Int):Bool:=Qj1 b&&decide (0<=a)&&decide (a<b)
section
variable {P:Program} (H:Fs P)
include H
theorem point_Small (x:Int):BoolC P n_Qd0 [.one (I x)] (λ_=>True) (Qi4 x):=boolC H.mx H.Qd0 0 λfz mu n k hfr g0 _ h=>by
 rw[dY a_Qd0.eq_1 b_Qd0.eq_1];simp only[↓E1,E2,seval,small_eq];exact h _ _ g0
theorem point_Name (t:Tx):BoolC P n_Qd7 [.one t.sv] (fun _=>True) (nameB t):=boolC H.mx H.Qd7 14 fun fz mu n k hfr g0 _ h=>by
 rw[dY a_Qd7.eq_1 b_Qd7.eq_1];simp only[↓E1,E2,seval,Qe7];repeat' (refine Qeo (λhb=>?_) (λhb=>?_)<;>simp only[↓E1,E2,seval,hb])
 ·have e:nameB t=false:=by
   unfold nameB;simp at hb;simp[hb]
  rw[<-e];exact h _ _ g0
 ·have e:nameB t=false:=by
   unfold nameB;simp at hb;have:¬t.l<=12:=by omega
   simp[this]
  rw[<-e];exact h _ _ g0
 ·rename_i hb0;have hl:t.l<=12:=by simp at hb;omega
  have hl1:1<=t.l:=by simp at hb0;omega
  refine scan (x:=0) (L:=t.l) (q:=0) (r:=14) (p:=λi=>Qqk (Qpu t.l t.n i)) (λe mu n=>Free fz mu n/\e 0 0=.one t.sv/\e 0 13=.one (.int .i64 t.l)) (λe=>e 0 2=.one (.bool false)) (λ_ _ _ h=>h.1) ?_ ?_ t.l 0 14 _ mu n _ _ (by omega) (by omega) (by omega) ⟨hfr,?_,?_⟩ ?_ ?_ ?_
  ·rintro i e mu n K hi ⟨hf,h0,h13⟩ hc hy hn;rw[dX l_Qd7_0.eq_1];have hw:=Qev hi (by omega);obtain⟨b,hbe⟩:∃b,t.n/256^(t.l-1-i)%256=b:=⟨_,rfl⟩
   rw[show Qpu t.l t.n i=b from hbe,Qxh]at hy hn;simp only[↓E1,E2,seval,h0,h13,hc,hi,hbe];repeat' (refine Qeo (λhb=>?_) (λhb=>?_)<;>simp only[↓E1,E2,seval,hb,hc,hw,hbe])
   all_goals first
    |(refine hn (by simp only[↓E1,E2,seval, *]) _ _ _ (Gr.refl hf) ?_;simp[updN,updE];done)
    |(refine hy (by simp only[↓E1,E2,seval, *]) _ _ _ (Gr.refl hf) ⟨hf,?_,?_⟩ ?_<;>simp[updN,updE,h0,h13];done)
  ·rintro e mu n K ⟨hf,h0,h13⟩ hc hx;rw[dX l_Qd7_0.eq_1];have hlt:(t.l<t.l)=False:=by simp
   simp only[↓E1,E2,seval,h0,h13,hc,hlt];exact hx _ _ _ (Gr.refl hf) ⟨hf,by simp[updN,updE,h0],by simp[updN,updE,h13]⟩
  ·simp[updN,updE,envI]
  ·simp[updN,updE]
  ·simp[updN,updE]
  ·intro ha e' mu' n' g hI;simp only[↓E1,E2,seval];have e:nameB t=true:=by
    unfold nameB;simp[hl,hl1,Qh0 ha]
   rw[<-e];exact h _ _ g
  ·intro hx e' mu' n' g hR;simp only[↓E1,E2,seval,hR];have e:nameB t=false:=by
    unfold nameB;rw[Qf1 hx];simp
   rw[<-e];exact h _ _ g
theorem message_Node (x:Int):BoolC P n_Qdl [.one (I x)] (λ_=>True) (decide (0<=x)&&decide (x<7)):=boolC H.mx H.Qdl 0 λfz mu n k hfr g0 _ h=>by
 rw[dY a_Qdl.eq_1 b_Qdl.eq_1];simp only[↓E1,E2,seval];repeat' (refine Qeo (λhb=>?_) (λhb=>?_)<;>simp only[↓E1,E2,seval,hb])
 all_goals first
  |(have:=h _ _ g0;simp_all;done)
theorem message_Client (x:Int):BoolC P n_Qct [.one (I x)] (λ_=>True) (decide (100<=x)&&decide (x<108)):=boolC H.mx H.Qct 0 λfz mu n k hfr g0 _ h=>by
 rw[dY a_Qct.eq_1 b_Qct.eq_1];simp only[↓E1,E2,seval];repeat' (refine Qeo (λhb=>?_) (λhb=>?_)<;>simp only[↓E1,E2,seval,hb])
 all_goals (have:=h _ _ g0;simp_all)
theorem point_May (p:Pt):BoolC P n_Qeg [.ag (ptC p)] (λ_=>True) (ptB p):=boolC H.mx H.Qeg 0 λfz mu n k hfr gg _ h=>by
 rw[dY a_Qeg.eq_1 b_Qeg.eq_1];unfold ptC;simp only[↓E1,E2,seval];have hle:=Nat.le_refl n;repeat' (first|((with_reducible refine Qeo (λhb=>?_) (λhb=>?_))<;>simp only[↓E1,E2,seval, *])|((with_reducible refine CPr_f (f:=n_Qd7) ?_);((first|(refine(point_Name H p.series).d2 hfr (by first|trivial|assumption) ?_;rintro v mu2 n2 g2 rfl)|(refine(point_Name H p.series).d3 hfr (λhm=>by first|trivial) ?_;rintro v mu2 n2 g2 b1 rfl)|(refine(point_Name H p.series).c1 hfr (by first|trivial|assumption) ?_;rintro v mu2 n2 g2 rfl)|(refine(point_Name H p.series).c2 hfr (λhm=>by first|trivial) ?_;rintro v mu2 n2 g2 b1 rfl)|(refine(point_Name H p.series).c3 hfr (λhm=>by first|trivial) ?_;rintro v mu2 n2 g2 b1 b2 rfl));(try replace b1:=g2.old hfr b1);replace gg:=gg.trans (g2.weaken hle);replace hle:=Nat.le_trans hle g2.le;replace hfr:=g2.free;clear g2;simp only[↓E1,E2,seval, *]))|((with_reducible refine CPr_f (f:=n_Qd0) ?_);((first|(refine(point_Small H _).d2 hfr (by first|trivial|assumption) ?_;rintro v mu2 n2 g2 rfl)|(refine(point_Small H _).d3 hfr (λhm=>by first|trivial) ?_;rintro v mu2 n2 g2 b1 rfl)|(refine(point_Small H _).c1 hfr (by first|trivial|assumption) ?_;rintro v mu2 n2 g2 rfl)|(refine(point_Small H _).c2 hfr (λhm=>by first|trivial) ?_;rintro v mu2 n2 g2 b1 rfl)|(refine(point_Small H _).c3 hfr (λhm=>by first|trivial) ?_;rintro v mu2 n2 g2 b1 b2 rfl));(try replace b1:=g2.old hfr b1);replace gg:=gg.trans (g2.weaken hle);replace hle:=Nat.le_trans hle g2.le;replace hfr:=g2.free;clear g2;simp only[↓E1,E2,seval, *])))
 all_goals (refine leafB h (by first|exact gg|exact gg.cons hle _|exact(gg.cons hle _).cons (Nat.le_succ_of_le hle) _) ?_;(try clear loop);(try clear u);clear h;first|(simp_all [ptB];done)|(simp_all [ptB];omega))
theorem point_Batch_1 (p:Pt):BoolC P n_Qc7 [.ag (ptC p)] (λ_=>True) (!ptB p):=boolC H.mx H.Qc7 0 λfz mu n k hfr g0 _ h=>by
 rw[dY a_Qc7.eq_1 b_Qc7.eq_1];unfold ptC;simp only[↓E1,E2,seval];refine(point_May H p).c1 (hfr.cons _) trivial ?_;rintro v mu1 n1 g1 rfl;simp only[↓E1,E2,seval];exact h _ _ ((g0.cons (Nat.le_refl _) _).trans (g1.weaken (Nat.le_succ _)))
theorem Quz (g:Nat) (p:Pt->Bool) (hg:∀a,BoolC P g [.ag (ptC a)] (λ_=>True) (p a)) (x:SV) (l:List Pt) (hl:l.length<=4611686018427387904):Ctr P n_Qad [.one x,.one (.fn g [])] (λM=>PtsR M x l) (λ_ _ _ v=>∃i:Int,v=.one (I i)/\decide (0<=i)=l.any p):=
 Ctr.of H.mx H.Qad (λ_=>l.length+1) λfz mu n k hfr hx hk=>by
  obtain⟨xl,xs,xk,xm⟩:=hx.len;rw[dY a_Qad.eq_1 b_Qad.eq_1];simp only[↓E1,E2,seval,xl,xs];refine scan (x:=0) (L:=l.length) (q:=0) (r:=8) (p:=λi=>!((l[i]?.map p).getD false)) (λe mu n=>Free fz mu n/\PtsR (with' mu fz) x l/\e 0 0=.one x/\e 0 1=.one (.fn g [])/\e 0 7=.one (.int .i64 l.length)) (λe=>∃j:Nat,e 0 4=.one (I j)) (λ_ _ _ h=>h.1) ?_ ?_ l.length 0 (l.length+1) _ mu n _ _ (by omega) (by omega) (by omega) ⟨hfr,hx,?_,?_,?_⟩ ?_ ?_ ?_
  ·rintro i e mu n K hi ⟨hf,hx,h0,h1,h7⟩ hc hy hn;obtain⟨id,off,cap,B,rfl,hB,hmk,hbd,hsub⟩:=hx.elem hi;rw[dX l_Qad_0.eq_1];have hw:=Qev hi hl;simp only[↓E1,E2,seval,h0,h1,h7,hc,hi,hB,hmk,hbd,hsub];refine(hg l[i]).c1 hf trivial ?_;rintro v mu' n' g rfl;cases hp:p l[i]with
   |true=>
    simp only[↓E1,E2,seval];exact hn (by simp[hi,hp]) _ _ _ g ⟨i,by simp[updN,updE]⟩
   |false=>
    simp only[↓E1,E2,seval,hc,hw];exact hy (by simp[hi,hp]) _ _ _ g ⟨g.free,PtsR.mono (λid B h=>g.old hf h) hx,by simp[updN,updE,h0],by simp[updN,updE,h1],by simp[updN,updE,h7]⟩ (by simp[updN,updE])
  ·rintro e mu n K ⟨hf,hx,h0,h1,h7⟩ hc hy;rw[dX l_Qad_0.eq_1];have hlt:(l.length<l.length)=False:=by simp
   simp only[↓E1,E2,seval,h0,h1,h7,hc,hlt];exact hy _ _ _ (Gr.refl hf) ⟨hf,hx,by simp[updN,updE,h0],by simp[updN,updE,h1],by simp[updN,updE,h7]⟩
  ·simp[updN,updE,envI]
  ·simp[updN,updE,envI]
  ·simp[updN,updE]
  ·simp[updN,updE]
  ·intro ha e' mu' n' g hI;simp only[↓E1,E2,seval];refine hk _ _ _ g ⟨-1,rfl,?_⟩;rw[any_no ha];rfl
  ·rintro hx' e' mu' n' g ⟨j,hj⟩;simp only[↓E1,E2,seval,hj];refine hk _ _ _ g ⟨j,rfl,?_⟩;rw[Qvy hx'];simp
theorem Qqc (g:Nat) (p:Pt->Bool) (hg:∀a,BoolC P g [.ag (ptC a)] (λ_=>True) (p a)) (x:SV) (l:List Pt) (hl:l.length<=4611686018427387904):BoolC P n_Qab [.one x,.one (.fn g [])] (λM=>PtsR M x l) (l.any p):=
 boolC H.mx H.Qab 0 λfz mu n k hfr g0 hx h=>by
  rw[dY a_Qab.eq_1 b_Qab.eq_1];simp only[↓E1,E2,seval];refine(Quz H g p hg x l hl).c1 hfr hx ?_;rintro v mu1 n1 g1 ⟨i,rfl,hi⟩;simp only[↓E1,E2,seval,hi];exact h _ _ g1
theorem Qux (g:Nat) (p:Int->Bool) (hg:∀a,BoolC P g [.one (I a)] (λ_=>True) (p a)) (x:SV) (l:List Int) (hl:l.length<=4611686018427387904):Ctr P n_Qaq [.one x,.one (.fn g [])] (λM=>IntsR M x l) (λ_ _ _ v=>∃i:Int,v=.one (I i)/\decide (0<=i)=l.any p):=
 Ctr.of H.mx H.Qaq (λ_=>l.length+1) λfz mu n k hfr hx hk=>by
  obtain⟨xl,xs,xk,xm⟩:=hx.len;rw[dY a_Qaq.eq_1 b_Qaq.eq_1];simp only[↓E1,E2,seval,xl,xs];refine scan (x:=0) (L:=l.length) (q:=0) (r:=8) (p:=λi=>!((l[i]?.map p).getD false)) (λe mu n=>Free fz mu n/\IntsR (with' mu fz) x l/\e 0 0=.one x/\e 0 1=.one (.fn g [])/\e 0 7=.one (.int .i64 l.length)) (λe=>∃j:Nat,e 0 4=.one (I j)) (λ_ _ _ h=>h.1) ?_ ?_ l.length 0 (l.length+1) _ mu n _ _ (by omega) (by omega) (by omega) ⟨hfr,hx,?_,?_,?_⟩ ?_ ?_ ?_
  ·rintro i e mu n K hi ⟨hf,hx,h0,h1,h7⟩ hc hy hn;obtain⟨id,off,cap,B,rfl,hB,hmk,hbd,hsub⟩:=hx.elem hi;rw[dX l_Qaq_0.eq_1];have hw:=Qev hi hl;simp only[↓E1,E2,seval,h0,h1,h7,hc,hi,hB,hmk,hbd,hsub];refine(hg l[i]).c1 hf trivial ?_;rintro v mu' n' g rfl;cases hp:p l[i]with
   |true=>
    simp only[↓E1,E2,seval];exact hn (by simp[hi,hp]) _ _ _ g ⟨i,by simp[updN,updE]⟩
   |false=>
    simp only[↓E1,E2,seval,hc,hw];exact hy (by simp[hi,hp]) _ _ _ g ⟨g.free,IntsR.mono (λid B h=>g.old hf h) hx,by simp[updN,updE,h0],by simp[updN,updE,h1],by simp[updN,updE,h7]⟩ (by simp[updN,updE])
  ·rintro e mu n K ⟨hf,hx,h0,h1,h7⟩ hc hy;rw[dX l_Qaq_0.eq_1];have hlt:(l.length<l.length)=False:=by simp
   simp only[↓E1,E2,seval,h0,h1,h7,hc,hlt];exact hy _ _ _ (Gr.refl hf) ⟨hf,hx,by simp[updN,updE,h0],by simp[updN,updE,h1],by simp[updN,updE,h7]⟩
  ·simp[updN,updE,envI]
  ·simp[updN,updE,envI]
  ·simp[updN,updE]
  ·simp[updN,updE]
  ·intro ha e' mu' n' g hI;simp only[↓E1,E2,seval];refine hk _ _ _ g ⟨-1,rfl,?_⟩;rw[any_no ha];rfl
  ·rintro hx' e' mu' n' g ⟨j,hj⟩;simp only[↓E1,E2,seval,hj];refine hk _ _ _ g ⟨j,rfl,?_⟩;rw[Qvy hx'];simp
theorem Qg8 (g:Nat) (p:Int->Bool) (hg:∀a,BoolC P g [.one (I a)] (λ_=>True) (p a)) (x:SV) (l:List Int) (hl:l.length<=4611686018427387904):BoolC P n_Qaj [.one x,.one (.fn g [])] (λM=>IntsR M x l) (l.any p):=
 boolC H.mx H.Qaj 0 λfz mu n k hfr g0 hx h=>by
  rw[dY a_Qaj.eq_1 b_Qaj.eq_1];simp only[↓E1,E2,seval];refine(Qux H g p hg x l hl).c1 hfr hx ?_;rintro v mu1 n1 g1 ⟨i,rfl,hi⟩;simp only[↓E1,E2,seval,hi];exact h _ _ g1
theorem point_Batch (x:SV) (l:List Pt):BoolC P n_Qds [.one x] (λM=>PtsR M x l) (Qip l):=boolC H.mx H.Qds 0 λfz mu n k hfr g0 hx h=>by
 obtain⟨xl,xs,xk,xm⟩:=hx.len;rw[dY a_Qds.eq_1 b_Qds.eq_1];simp only[↓E1,E2,seval,xl,xs];refine Qeo (λhb=>?_) (λhb=>?_)<;>simp only[↓E1,E2,seval,hb]
 ·refine(Qqc H _ _ (point_Batch_1 H) x l (by simp at hb;omega)).c1 hfr hx ?_;rintro v mu1 n1 g1 rfl;simp only[↓E1,E2,seval,hb];have e:Qip l=!(l.any λp=>!ptB p):=by
   unfold Qip;have:l.length<=8:=by simp at hb;omega
   simp[this,List.all_eq_not_any_not]
  rw[<-e];exact h _ _ g1
 ·have e:Qip l=false:=by
   unfold Qip;have:¬l.length<=8:=by simp at hb;omega
   simp[this]
  rw[<-e];exact h _ _ g0
theorem message_MayEntry (e:Ent) (b:SV):BoolC P n_Qbp [.ag (entC e b)] (λM=>PtsR M b e.batch) (entB e):=boolC H.mx H.Qbp 5 λfz mu n k hfr gg s1 h=>by
 obtain⟨xl,xs,xk,xm⟩:=s1.len;have u:∀en mu n k,dcode pOrc False (CP P) fz 5 l_Qbp_0 (tmE 40 en) mu n k=_:=λen mu n k=>dX l_Qbp_0.eq_1;rw[dY a_Qbp.eq_1 b_Qbp.eq_1];unfold entC;simp only[↓E1,E2,seval,xl,xs,xk,xm,↓u,↓Qiy];have hle:=Nat.le_refl n;repeat' (first|((with_reducible refine Qeo (λhb=>?_) (λhb=>?_))<;>simp only[↓E1,E2,seval, *,↓u,↓Qiy])|((with_reducible refine CPr_f (f:=n_Qds) ?_);((first|(refine(point_Batch H b e.batch).d2 hfr (by first|trivial|exact s1|assumption) ?_;rintro v mu2 n2 g2 rfl)|(refine(point_Batch H b e.batch).d3 hfr (λhm=>by first|trivial|exact PtsR.mono hm s1) ?_;rintro v mu2 n2 g2 b1 rfl)|(refine(point_Batch H b e.batch).c1 hfr (by first|trivial|exact s1|assumption) ?_;rintro v mu2 n2 g2 rfl)|(refine(point_Batch H b e.batch).c2 hfr (λhm=>by first|trivial|exact PtsR.mono hm s1) ?_;rintro v mu2 n2 g2 b1 rfl)|(refine(point_Batch H b e.batch).c3 hfr (λhm=>by first|trivial|exact PtsR.mono hm s1) ?_;rintro v mu2 n2 g2 b1 b2 rfl));(try replace b1:=g2.old hfr b1);(try replace b2:=g2.old hfr b2);(try replace s1:=PtsR.mono (λ_ _ hh=>g2.old hfr hh) s1);replace gg:=gg.trans (g2.weaken hle);replace hle:=Nat.le_trans hle g2.le;replace hfr:=g2.free;clear g2;simp only[↓E1,E2,seval, *,↓u,↓Qiy])))
 all_goals clear u
 all_goals (refine leafB h (by first|exact gg|exact gg.cons hle _|exact(gg.cons hle _).cons (Nat.le_succ_of_le hle) _) ?_;(try clear loop);(try clear u);clear h;first|(simp_all [entB,countB];done)|(simp_all [entB,countB];omega))
theorem message_MayLog (l:Lg) (x:SV):BoolC P n_Qcm [.ag (lgC l x)] (fun M=>EntsR M x l.ents) (lgB l):=boolC H.mx H.Qcm 4098 fun fz mu n k hfr gg s1 h=>by
 obtain⟨xl,xs,xk,xm⟩:=s1.len;have loop:∀(e:Env) mu1 n1 (K:LK) w,l.ents.length<=4096->Gr n fz mu mu1 n n1->EntsR (with' mu1 fz) x l.ents->e 2 4=.one x->e 2 5=.one (.int .i64 l.ents.length)->e 2 6=.one (.int .i64 0)->
  (l.ents.all entB=true->∀e' mu' n',Gr n fz mu mu' n n'->K (.exit 0) (tmE 46 e') mu' n')->(l.ents.all entB=false->∀e' mu' n',Gr n fz mu mu' n n'->e' 0 2=.one (.bool false)->K .ret (tmE 46 e') mu' n')->
  Lp (dcode pOrc False (CP P) fz 4098 l_Qcm_0) 4098 (tmE 46 e) mu1 n1 K w:=by
  intro e mu1 n1 K w hl g1 s1 i1 i2 i3 hd hr;refine scan (x:=0) (L:=l.ents.length) (p:=λi=>(l.ents[i]?.map entB).getD true) (λe mu n=>Free fz mu n/\EntsR (with' mu fz) x l.ents/\e 2 4=.one x/\e 2 5=.one (.int .i64 l.ents.length)) (λe=>e 0 2=.one (.bool false)) (λ_ _ _ h=>h.1) ?_ ?_ l.ents.length 0 4098 e mu1 n1 K w (by omega) (by omega) (by omega) ⟨g1.free,s1,i1,i2⟩ i3
   (λha e' mu' n' g _=>hd (Ql7 ha) e' mu' n' (g1.trans (g.weaken g1.le))) (λha e' mu' n' g hR=>hr (Qh9 ha) e' mu' n' (g1.trans (g.weaken g1.le)) hR)
  ·rintro i e mu n K hi ⟨hfr,s1,i1,i2⟩ hc hy hn;obtain⟨id,off,cap,B,bx,rfl,hB,hmk,hbd,hsub,s2⟩:=s1.elem hi;have hw:=Qev hi (by omega);have gg:=Gr.refl (lo:=n) hfr;have hle:=Nat.le_refl n;rw[dX l_Qcm_0.eq_1];obtain⟨yl,ys,yk,ym⟩:=s2.len;unfold entC at hsub;simp only[↓E1,E2,seval, *];repeat' (first|((with_reducible refine Qeo (λhb=>?_) (λhb=>?_))<;>simp only[↓E1,E2,seval, *])|((with_reducible refine CPr_f (f:=n_Qbp) ?_);((first|(refine(message_MayEntry H l.ents[i] bx).d2 hfr (by first|trivial|exact s1|exact s2|assumption) ?_;rintro v mu2 n2 g2 rfl)|(refine(message_MayEntry H l.ents[i] bx).d3 hfr (λhm=>by first|trivial|exact EntsR.mono hm s1|exact PtsR.mono hm s2) ?_;rintro v mu2 n2 g2 b1 rfl)|(refine(message_MayEntry H l.ents[i] bx).c1 hfr (by first|trivial|exact s1|exact s2|assumption) ?_;rintro v mu2 n2 g2 rfl)|(refine(message_MayEntry H l.ents[i] bx).c2 hfr (λhm=>by first|trivial|exact EntsR.mono hm s1|exact PtsR.mono hm s2) ?_;rintro v mu2 n2 g2 b1 rfl)|(refine(message_MayEntry H l.ents[i] bx).c3 hfr (λhm=>by first|trivial|exact EntsR.mono hm s1|exact PtsR.mono hm s2) ?_;rintro v mu2 n2 g2 b1 b2 rfl));(try replace s1:=EntsR.mono (λ_ _ hh=>g2.old hfr hh) s1);(try replace s2:=PtsR.mono (λ_ _ hh=>g2.old hfr hh) s2);replace gg:=gg.trans (g2.weaken hle);replace hle:=Nat.le_trans hle g2.le;replace hfr:=g2.free;clear g2;simp only[↓E1,E2,seval, *])))
   all_goals first
    |(refine hy (by simp_all [entB]) _ _ _ (by first|exact gg|exact gg.cons hle _|exact(gg.cons hle _).cons (Nat.le_succ_of_le hle) _) ⟨(by first|exact hfr|exact hfr.cons _|exact(hfr.cons _).cons _),(by first|exact s1|exact EntsR.mono (λ_ _ hh=>((Gr.refl (lo:=_) hfr).cons (Nat.le_refl _) _).old hfr hh) s1|exact EntsR.mono (λ_ _ hh=>(((Gr.refl (lo:=_) hfr).cons (Nat.le_refl _) _).cons (Nat.le_succ _) _).old hfr hh) s1),by simp[updN,updE, *],by simp[updN,updE, *]⟩ (by simp[updN,updE, *]);done)
    |(refine hn (by simp_all [entB]) _ _ _ (by first|exact gg|exact gg.cons hle _|exact(gg.cons hle _).cons (Nat.le_succ_of_le hle) _) (by simp[updN,updE, *]);done)
  ·rintro e mu n K ⟨hfr,s1,i1,i2⟩ hc hy;rw[dX l_Qcm_0.eq_1];have hlt:(l.ents.length<l.ents.length)=False:=by simp
   simp only[↓E1,E2,seval, *];exact hy _ _ _ (Gr.refl hfr) ⟨hfr,s1,by simp[updN,updE, *],by simp[updN,updE, *]⟩
 rw[dY a_Qcm.eq_1 b_Qcm.eq_1];unfold lgC;simp only[↓E1,E2,seval,xl,xs,xk,xm,Qe7];have hle:=Nat.le_refl n;repeat' (first|((with_reducible refine Qeo (λhb=>?_) (λhb=>?_))<;>simp only[↓E1,E2,seval, *,Qe7]))
 all_goals try (refine leafB h (gg.cons hle _) ?_;clear loop h;first|(simp_all [lgB,countB];done)|(simp_all [lgB,countB];omega))
 all_goals (refine loop _ _ _ _ _ (by clear loop h;first|assumption|(simp_all;omega)|(simp_all;done)) (by first|exact gg|exact gg.cons hle _|exact(gg.cons hle _).cons (Nat.le_succ_of_le hle) _) (by first|exact s1|exact EntsR.mono (λ_ _ hh=>((Gr.refl (lo:=_) hfr).cons (Nat.le_refl _) _).old hfr hh) s1|exact EntsR.mono (λ_ _ hh=>(((Gr.refl (lo:=_) hfr).cons (Nat.le_refl _) _).cons (Nat.le_succ _) _).old hfr hh) s1) (by simp[updN,updE, *]) (by simp[updN,updE, *]) (by simp[updN,updE, *]) (λha e' mu' n' g=>?_) (λha e' mu' n' g hR=>?_)<;>simp only[↓E1,E2,seval, *]<;>(refine leafB h g ?_;(first|(simp_all [lgB,countB];done)|(simp_all [lgB,countB];omega))))
theorem repair_Nodes (a b:Int):BoolC P n_Qdi [.one (I a),.one (I b)] (λ_=>True) (meB a b):=boolC H.mx H.Qdi 0 λfz mu n k hfr gg _ h=>by
 rw[dY a_Qdi.eq_1 b_Qdi.eq_1];simp only[↓E1,E2,seval,<-Qot];have hle:=Nat.le_refl n;repeat' (first|((with_reducible refine Qeo (λhb=>?_) (λhb=>?_))<;>simp only[↓E1,E2,seval, *]))
 all_goals (refine leafB h (by first|exact gg|exact gg.cons hle _|exact(gg.cons hle _).cons (Nat.le_succ_of_le hle) _) ?_;(try clear loop);(try clear u);clear h;first|(simp_all [meB,Qot];done)|(simp_all [meB,Qot];omega))
theorem replica_within (x:Int):BoolC P n_Qcl [.one (I x)] (λ_=>True) (countB x):=boolC H.mx H.Qcl 0 λfz mu n k hfr g0 _ h=>by
 rw[dY a_Qcl.eq_1 b_Qcl.eq_1];simp only[↓E1,E2,seval];repeat' (refine Qeo (λhb=>?_) (λhb=>?_)<;>simp only[↓E1,E2,seval,hb])
 all_goals (have:=h _ _ g0;simp_all [countB])
theorem replica_May_1 (x:Int):BoolC P n_Qc3 [.one (I x)] (λ_=>True) (!countB x):=boolC H.mx H.Qc3 0 λfz mu n k hfr g0 _ h=>by
 rw[dY a_Qc3.eq_1 b_Qc3.eq_1];simp only[↓E1,E2,seval];refine(replica_within H x).c1 hfr trivial ?_;rintro v mu1 n1 g1 rfl;simp only[↓E1,E2,seval];exact h _ _ g1
theorem choose_Last (l:Lg) (x:SV):Ctr P n_Qdr [.ag (lgC l x)] (λM=>EntsR M x l.ents) (λ_ _ _ v=>v=.one (I (last l))):=Ctr.of H.mx H.Qdr (λ_=>0) λfz mu n k hfr hx hk=>by
 obtain⟨xl,xs,xk,xm⟩:=hx.len;rw[dY a_Qdr.eq_1 b_Qdr.eq_1];unfold lgC;simp only[↓E1,E2,seval,xl,xs,xk,xm];exact hk _ _ _ ((Gr.refl hfr).cons (Nat.le_refl _) _) rfl
end
end Go.Proofs.YtnnjlnkoomeadaaGreat.Pv
namespace Go.Ev
def Sub (G M:Fz):Prop:=∀id B,G id=some B->M id=some B
theorem Sub.refl (M:Fz):Sub M M:=λ_ _ h=>h
theorem Sub.trans {A B C:Fz} (h:Sub A B) (k:Sub B C):Sub A C:=λ_ _ g=>k _ _ (h _ _ g)
def From (n:Nat) (M:Fz):Fz:=λj=>if n<=j then M j else none
theorem From.sub {n:Nat} {M:Fz}:Sub (From n M) M:=λid B h=>by unfold From at h;split at h;exact h;cases h
theorem From.mono {n:Nat} {M M':Fz} (h:Sub M M'):Sub (From n M) (From n M'):=λid B g=>by
 unfold From at g⊢;split at g
 ·rename_i hle;rw[if_pos hle];exact h _ _ g
 ·cases g
theorem From.le {n m:Nat} {M:Fz} (h:m<=n):Sub (From n M) (From m M):=λid B g=>by
 unfold From at g⊢;split at g
 ·rename_i hle;rw[if_pos (by omega)];exact g
 ·cases g
theorem From.at {n id:Nat} {M:Fz} {B:List SV} (h:n<=id) (g:M id=some B):From n M id=some B:=by unfold From;rw[if_pos h];exact g
theorem From.lt {n id:Nat} {M:Fz} {B:List SV} (h:From n M id=some B):n<=id:=by
 unfold From at h;split at h
 ·assumption
 ·cases h
theorem Gr.sub {fz:Fz} {mu mu':St} {n n' lo:Nat} (g:Gr lo fz mu mu' n n') (hf:Free fz mu n) (h:n<=lo):Sub (with' mu fz) (with' mu' fz):=λid B hh=>(g.ext id (by have:=hf.lt hh;omega)).trans hh
theorem Qmx {fz:Fz} {mu mu':St} {n id:Nat} {B:List SV} (hf:Free fz mu n) (hi:n<=id) (h:with' mu' fz id=some B):look mu' id=some B:=by
 have h0:fz id=none:=by
  have:=hf.none hi;rw[Qe5]at this;cases e:look mu id with
  |none=>rw[e]at this;exact this
  |some c=>rw[e]at this;cases this
 rw[Qe5]at h;cases e:look mu' id with
 |none=>rw[e,h0]at h;cases h
 |some c=>rw[e]at h;exact h
def SlX (M:Fz) (s:Nat) (x:SV) (es:List (List SV)):Prop:=
 (x=.nsl\/x=.esl)/\es=[]\/
 ∃id,x=.osl id 0 es.length es.length s/\M id=some es.flatten/\mkd es.flatten=false/\∀e∈es,e.length=s/\Qeq e=true
theorem SlX.mono {M M':Fz} {s:Nat} {x:SV} {es:List (List SV)} (h:SlX M s x es) (hm:Sub M M'):SlX M' s x es:=by
 rcases h with h|⟨id,h1,h2,h3⟩
 ·exact .inl h
 ·exact .inr ⟨id,h1,hm id _ h2,h3⟩
theorem SlX.to {M:Fz} {s:Nat} {x:SV} {es:List (List SV)} (h:SlX M s x es):Sl M s x es:=by
 rcases h with⟨h,he⟩|⟨id,h1,h2,h3,h4⟩
 ·refine .inl ⟨?_,he⟩;rcases h with h|h
  ·exact .inl h
  ·exact .inr (.inl h)
 ·refine .inr ⟨id,0,es.length,_,h1,Nat.le_refl _,h2,h3,?_,?_,h4⟩
  ·rw[Qfr λe he=>(h4 e he).1];omega
  ·rw[List.drop_zero,List.take_of_length_le];rw[Qfr λe he=>(h4 e he).1];omega
theorem SlX.len {M:Fz} {s:Nat} {x:SV} {es:List (List SV)} (h:SlX M s x es):(∀k,onLen x k=k es.length)/\x.isStr=false/\x.known=true/\x.isMk=false:=
 ⟨λk=>(Sl.len h.to (k:=k)).1,(Sl.len h.to (k:=λ_=>True)).2,(Sl.known h.to).1,(Sl.known h.to).2⟩
theorem Qe3 {s:Nat}:∀{es:List (List SV)},(∀e∈es,e.length=s/\Qeq e=true)->Qeq es.flatten=true
 |[],_=>rfl
 |e::es,h=>by
  rw[List.flatten_cons,Qlp,(h e (by simp)).2,Qe3 (es:=es) λx hx=>h x (by simp[hx])];rfl
theorem Qhm:∀{s:SV},s.known=true->s.isMk=false:=fun{s} h=>by cases s<;>first|rfl|cases h
theorem Qfu:∀{l:List SV},Qeq l=true->mkd l=false
 |[],_=>rfl
 |s::l,h=>by
  rw[Qgg,Bool.and_eq_true]at h;exact Qhm h.1
theorem Qg9 {M:Fz} {s:Nat} {x:SV} {es:List (List SV)} (h:Sl M s x es) {k:List SV->Nat->Prop}:onSrc M s x k=k es.flatten es.length/\Qeq es.flatten=true:=by
 rcases h with⟨h,rfl⟩|⟨id,off,cap,B,rfl,h2,h3,h4,h5,h6,h7⟩
 ·rcases h with rfl|rfl|rfl<;>exact⟨rfl,rfl⟩
 ·refine⟨?_,Qe3 h7⟩;rw[Qq2,show Nat.beq s s=true by simp,h3,Qmy,h6];simp[Need,h4,h5]
theorem Qpi {mu:St} {n s b:Nat} {x:SV} {es:List (List SV)} {k:KT Prop} (hx:x=.nsl\/x=.esl) (hf:fits es.length b=true) (he:∀e∈es,e.length=s/\Qeq e=true)
 (h0:es=[]->k (.one x) mu n) (h1:es≠[]->k (.one (.osl n 0 es.length es.length s)) ((n,es.flatten)::mu) (n+1)):onApp mu n s b x es.flatten es.length k:=by
 by_cases e:es=[]
 ·subst e;rcases hx with rfl|rfl
  ·exact h0 rfl
  ·exact h0 rfl
 ·have hl:es.length≠0:=λh=>e (List.length_eq_zero_iff.1 h);rcases hx with rfl|rfl
  ·rw[Qpm hl];exact⟨hf,h1 e⟩
  ·rw[Qpw hl];exact⟨hf,h1 e⟩
theorem Qhw {mu:St} {n s b:Nat} {x:SV} {es fs:List (List SV)} {k:KT Prop} {G:Fz} (hx:SlX G s x es) (hG:∀id B,G id=some B->look mu id=some B) (hf:fits (es.length+fs.length) b=true) (hfs:fs≠[]) (he:∀e∈fs,e.length=s/\Qeq e=true)
 (h1:∀mu',(∀j,j≠n->look mu' j=look mu j\/∃B,G j=some B/\(x=.osl j 0 es.length es.length s)/\look mu' j=none)->look mu' n=some (es++fs).flatten->k (.one (.osl n 0 (es++fs).length (es++fs).length s)) mu' (n+1)):onApp mu n s b x fs.flatten fs.length k:=by
 have hl:fs.length≠0:=λh=>hfs (List.length_eq_zero_iff.1 h);rcases hx with⟨h,rfl⟩|⟨id,rfl,h2,h3,h4⟩
 ·have hb:k (.one (.osl n 0 fs.length fs.length s)) ((n,fs.flatten)::mu) (n+1):=by
   have:=h1 ((n,fs.flatten)::mu) (λj hj=>.inl (by rw[Qer,if_neg (by omega)])) (by rw[Qer,if_pos rfl];rfl);simpa using this
  rw[List.length_nil,Nat.zero_add]at hf;rcases h with rfl|rfl
  ·rw[Qpm hl];exact⟨hf,hb⟩
  ·rw[Qpw hl];exact⟨hf,hb⟩
 ·have hlen:es.flatten.length=0+es.length*s:=by rw[Qfr λe he=>(h4 e he).1];omega
  rw[Qvj hl (hG _ _ h2) h3 hlen];refine⟨hf,?_⟩;have:=h1 ((n,(es++fs).flatten)::killS mu id) (λj hj=>?_) (by rw[Qer,if_pos rfl])
  ·simpa using this
  ·rw[Qer,if_neg (by omega),Qfe];by_cases e:id=j
   ·subst e;rw[if_pos rfl];exact .inr ⟨_,h2,rfl,rfl⟩
   ·rw[if_neg e];exact .inl rfl
def blk:SV->Option Nat
 |.osl id _ _ _ _=>some id
 |_=>none
def Ex (x:SV) (M:Fz):Fz:=λj=>if blk x=some j then none else M j
theorem Ex.at {j:Nat} {x:SV} {M:Fz} {B:List SV} (h2:blk x≠some j) (h:M j=some B):Ex x M j=some B:=by
 unfold Ex;rw[if_neg h2];exact h
theorem Ex.el {j:Nat} {x:SV} {M:Fz} {B:List SV} (h:Ex x M j=some B):blk x≠some j/\M j=some B:=by
 unfold Ex at h;split at h
 ·cases h
 ·rename_i hn;exact⟨hn,h⟩
theorem Ex.sub {x:SV} {M:Fz}:Sub (Ex x M) M:=λ_ _ h=>(Ex.el h).2
theorem Ex.mono {x:SV} {M M':Fz} (h:Sub M M'):Sub (Ex x M) (Ex x M'):=λ_ _ hj=>Ex.at (Ex.el hj).1 (h _ _ (Ex.el hj).2)
theorem From.el {n j:Nat} {M:Fz} {B:List SV} (h:From n M j=some B):n<=j/\M j=some B:=⟨From.lt h,From.sub _ _ h⟩
def Grow {α:Type} (lo:Nat) (M:Fz) (s:Nat) (R:Fz->List SV->α->Prop) (x:SV) (l:List α):Prop:=
 ∃cs,SlX (From lo M) s x cs/\All2 (R (Ex x (From lo M))) cs l
theorem Grow.nil {α:Type} {lo:Nat} {M:Fz} {s:Nat} {R:Fz->List SV->α->Prop}:Grow lo M s R .nsl []:=⟨[],.inl ⟨.inl rfl,rfl⟩,trivial⟩
theorem Grow.len {α:Type} {lo:Nat} {M:Fz} {s:Nat} {R:Fz->List SV->α->Prop} {x:SV} {l:List α} (h:Grow lo M s R x l):(∀k,onLen x k=k l.length)/\x.isStr=false/\x.known=true/\x.isMk=false:=by
 obtain⟨cs,h1,h2⟩:=h;rw[<-h2.length];exact h1.len
theorem Qfp {mu:St} {fz:Fz} {id:Nat} (h:fz id=none):with' mu fz id=look mu id:=by
 rw[Qe5];cases look mu id with
 |none=>exact h
 |some c=>rfl
theorem Qeu {mu mu':St} {fz:Fz} {id:Nat} (h:look mu id=look mu' id):with' mu fz id=with' mu' fz id:=by rw[Qe5,Qe5,h]
theorem Free.fz {fz:Fz} {mu:St} {n:Nat} (h:Free fz mu n):∀j,n<=j->fz j=Option.none:=λj hj=>by
 have:=h.none hj;rw[Qe5]at this;cases e:Ev.look mu j with
 |none=>rw[e]at this;exact this
 |some c=>rw[e]at this;cases this
theorem Grow.more {α:Type} {R:Fz->List SV->α->Prop} (hR:∀{M M' c a},Sub M M'->R M c a->R M' c a) {lo:Nat} {fz:Fz} {mu mu2:St} {n n2 s b:Nat} {x:SV} {l:List α} {c:List SV} {a:α} {k:KT Prop}
 (G:Grow lo (with' mu fz) s R x l) (hfr:Free fz mu n) (hlo:lo<=n) (hfz:∀j,lo<=j->fz j=none) (g:Gr n fz mu mu2 n n2)
 (hc:R (From n (with' mu2 fz)) c a) (hcl:c.length=s/\Qeq c=true) (hf:fits (l.length+1) b=true)
 (h1:∀mu3,Gr lo fz mu mu3 n (n2+1)->Grow lo (with' mu3 fz) s R (.osl n2 0 (l.length+1) (l.length+1) s) (l++[a])->k (.one (.osl n2 0 (l.length+1) (l.length+1) s)) mu3 (n2+1)):
 onApp mu2 n2 s b x c 1 k:=by
 obtain⟨cs,hx,hall⟩:=G;have hl:=hall.length;have key:onApp mu2 n2 s b x [c].flatten [c].length k:=by
  refine Qhw (G:=From lo (with' mu fz)) hx (λid B h=>?_) (by rw[hl];exact hf) (by simp) (by simpa using hcl) λmu3 ho hn=>?_
  ·obtain⟨h2,h3⟩:=From.el h;rw[g.own id (hfr.lt h3),<-h3,Qfp (hfz id h2)]
  ·have hkill:∀j,j≠n2->(j<lo\/blk x≠some j\/n<=j)->look mu3 j=look mu2 j:=by
    intro j hj hd;rcases ho j hj with h|⟨B,h2,h3,h4⟩
    ·exact h
    ·exfalso
     obtain⟨h5,h6⟩:=From.el h2;have:=hfr.lt h6;rcases hd with hd|hd|hd
     ·omega
     ·exact hd (by rw[h3];rfl)
     ·omega
   have hle:=g.le;have hM3:with' mu3 fz n2=some (cs++[c]).flatten:=Qem hn;have hlen:(cs++[c]).length=l.length+1:=by simp[hl]
   rw[hlen];refine h1 mu3 ⟨by omega,λid hi=>?_,λid hi=>?_,λj=>?_⟩ ⟨cs++[c],?_,hall.imp (λc a h=>hR ?_ h) |>.append ⟨hR ?_ hc,trivial⟩⟩
   ·rw[Qeu (hkill id (by omega) (.inl hi))];exact g.ext id (by omega)
   ·rw[hkill id (by omega) (.inl hi)];exact g.own id (by omega)
   ·have h5:=g.free.none (id:=n2+1+j) (by omega);rcases ho (n2+1+j) (by omega)with h|⟨B,h2,h3,h4⟩
    ·rw[Qeu h];exact h5
    ·rw[Qe5,h4];exact hfz _ (by omega)
   ·refine .inr ⟨n2,by rw[hlen],From.at (by omega) hM3,?_,?_⟩
    ·rcases hx with⟨_,rfl⟩|⟨id,_,_,_,h4⟩
     ·simpa using Qfu hcl.2
     ·refine Qfu (Qe3 (s:=s) λe he=>?_);rcases List.mem_append.1 he with he|he
      ·exact h4 e he
      ·rw[List.mem_singleton.1 he];exact hcl
    ·intro e he;rcases List.mem_append.1 he with he|he
     ·rcases hx with⟨_,rfl⟩|⟨id,_,_,_,h4⟩
      ·cases he
      ·exact h4 e he
     ·rw[List.mem_singleton.1 he];exact hcl
   ·intro j B h;obtain⟨h3,h4⟩:=Ex.el h;obtain⟨h5,h6⟩:=From.el h4;have h7:=hfr.lt h6;refine Ex.at (λe=>?_) (From.at h5 ?_)
    ·have:n2=j:=by simpa[blk]using e
     omega
    ·rw[Qeu (hkill j (by omega) (.inr (.inl h3))),g.ext j h7];exact h6
   ·intro j B h;obtain⟨h5,h6⟩:=From.el h;have h7:=g.free.lt h6;refine Ex.at (λe=>?_) (From.at (by omega) ?_)
    ·have:n2=j:=by simpa[blk]using e
     omega
    ·rw[Qeu (hkill j (by omega) (.inr (.inr h5)))];exact h6
 simpa using key
theorem Grow.mono {α:Type} {R:Fz->List SV->α->Prop} (hR:∀{M M' c a},Sub M M'->R M c a->R M' c a) {lo:Nat} {M M':Fz} {s:Nat} {x:SV} {l:List α} (G:Grow lo M s R x l) (h:Sub (From lo M) (From lo M')):Grow lo M' s R x l:=by
 obtain⟨cs,hx,hall⟩:=G;exact⟨cs,hx.mono h,hall.imp λc a hh=>hR (Ex.mono h) hh⟩
theorem From.put {lo:Nat} {fz:Fz} {mu:St} {ob:Nat} {d d':List SV} (ho:ob<lo) (h:look mu ob=some d):Sub (From lo (with' mu fz)) (From lo (with' (putS mu ob d') fz)):=λj B hj=>by
 obtain⟨h5,h6⟩:=From.el hj;exact From.at h5 (by rw[Qet h,if_neg (by omega)];exact h6)
theorem Qha {fz:Fz} {mu:St} {n s b:Nat} {fs:List (List SV)} {k:KT Prop} (hfr:Free fz mu n) (hf:fits fs.length b=true) (he:∀e∈fs,e.length=s/\Qeq e=true)
 (h:∀x mu' n',Gr n fz mu mu' n n'->SlX (From n (with' mu' fz)) s x fs->k (.one x) mu' n'):onApp ((n,[])::mu) (n+1) s b (.osl n 0 0 0 s) fs.flatten fs.length k:=by
 have g1:Gr n fz mu ((n,[])::mu) n (n+1):=(Gr.refl hfr).cons (Nat.le_refl _) _;by_cases e:fs=[]
 ·subst e;show onApp ((n,[])::mu) (n+1) s b (.osl n 0 0 0 s) [] 0 k;rw[Qn0];exact h _ _ _ g1 (.inr ⟨n,rfl,From.at (Nat.le_refl _) (by rw[Qfl,if_pos rfl];rfl),rfl,λe he=>by cases he⟩)
 ·refine Qhw (G:=From n (with' ((n,[])::mu) fz)) (es:=[]) (.inr ⟨n,rfl,From.at (Nat.le_refl _) (by rw[Qfl,if_pos rfl];rfl),rfl,λe he=>by cases he⟩) (λid B hh=>?_) (by simpa using hf) e he λmu3 ho hn=>?_
  ·obtain⟨h1,h2⟩:=From.el hh;rw[<-h2,Qfp (hfr.fz id h1)]
  ·have hs:∀j,j<n->look mu3 j=look mu j:=λj hj=>by
    rcases ho j (by omega)with h1|⟨B,h1,-⟩
    ·rw[h1,Qer,if_neg (by omega)]
    ·have:=From.lt h1;omega
   refine h _ _ _ ⟨by omega,λid hi=>Qeu (hs id hi),λid hi=>hs id hi,λj=>?_⟩ (.inr ⟨n+1,rfl,From.at (by omega) (Qem hn),Qfu (Qe3 he),he⟩);rcases ho (n+1+1+j) (by omega)with h1|⟨B,h1,h2,h3⟩
   ·rw[Qeu h1];exact g1.free.none (by omega)
   ·rw[Qe5,h3];exact hfr.fz _ (by omega)
theorem app_nil {fz:Fz} {mu:St} {n s b:Nat} {x:SV} {fs:List (List SV)} {k:KT Prop} (hx:x=.nsl\/x=.esl) (hfr:Free fz mu n) (hf:fits fs.length b=true) (he:∀e∈fs,e.length=s/\Qeq e=true)
 (h:∀x mu' n',Gr n fz mu mu' n n'->SlX (From n (with' mu' fz)) s x fs->k (.one x) mu' n'):onApp mu n s b x fs.flatten fs.length k:=by
 refine Qpi hx hf he (λe=>?_) (λe=>?_)
 ·exact h _ _ _ (Gr.refl hfr) (.inl ⟨hx,e⟩)
 ·exact h _ _ _ ((Gr.refl hfr).cons (Nat.le_refl _) _) (.inr ⟨n,rfl,From.at (Nat.le_refl _) (by rw[Qfl,if_pos rfl]),Qfu (Qe3 he),he⟩)
theorem Qfk {mu:St} {fz:Fz} {id j:Nat} {c:List SV} (h:(look mu id).isSome=true):with' (putS mu id c) fz j=if id=j then some c else with' mu fz j:=by
 obtain⟨d,hd⟩:=Option.isSome_iff_exists.1 h;exact Qet hd
theorem Qkq {id:Nat} {c d:List SV}:∀{mu:St},putS (putS mu id c) id d=putS mu id d
 |[]=>rfl
 |(i,e)::mu=>by
  rw[Qlk,Qlk];by_cases h:i=id
  ·rw[if_pos h,if_pos h,Qlk,if_pos h]
  ·rw[if_neg h,if_neg h,Qlk,if_neg h,Qkq]
set_option linter.defProp false in
def E3:=And.intro @Qfk (And.intro @Qen (And.intro @Qkq (And.intro @Option.isSome_some.{0} @Option.map_some.{0,0})))
theorem Grow.weaken {α:Type} {R:Fz->List SV->α->Prop} (hR:∀{M M' c a},Sub M M'->R M c a->R M' c a) {lo lo':Nat} {M:Fz} {s:Nat} {x:SV} {l:List α} (h:lo'<=lo) (G:Grow lo M s R x l):Grow lo' M s R x l:=by
 obtain⟨cs,hx,hall⟩:=G;exact⟨cs,hx.mono (From.le h),hall.imp λc a hh=>hR (Ex.mono (From.le h)) hh⟩
theorem Ctr.mono {P:Program} {f:Nat} {args:List AV} {pre:Fz->Prop} {post post':Nat->Nat->Fz->AV->Prop} (h:Ctr P f args pre post) (hp:∀n n' M v,post n n' M v->post' n n' M v):Ctr P f args pre post':=
 λfz mu n k hf hpre hk=>h fz mu n k hf hpre λv mu' n' g hpost=>hk v mu' n' g (hp _ _ _ _ hpost)
theorem lookI {mu:St} {id:Nat} {c:List SV} (h:look mu id=some c):(look mu id).isSome=true:=by rw[h];rfl
end Go.Ev
namespace Go.Proofs.YtnnjlnkoomeadaaGreat.Pv
open Go.Ev Go.Ev.Rp
set_option maxRecDepth 100000
set_option maxHeartbeats 4000000
def PtsX (M:Fz) (x:SV) (l:List Pt):Prop:=SlX M 3 x (l.map ptC)
def IntsX (M:Fz) (x:SV) (l:List Int):Prop:=SlX M 1 x (l.map intC)
def EntX (M:Fz) (c:List SV) (e:Ent):Prop:=∃b,c=entC e b/\PtsX M b e.batch
def EntsX (M:Fz) (x:SV) (l:List Ent):Prop:=∃cs,SlX M 5 x cs/\All2 (EntX M) cs l
def DvX (M:Fz) (c:List SV) (d:Dv):Prop:=∃x,c=dvC d x/\EntsX M x d.log.ents
section
variable {M M':Fz} (hm:Sub M M')
include hm
theorem PtsX.mono {x:SV} {l:List Pt} (h:PtsX M x l):PtsX M' x l:=SlX.mono h hm
theorem IntsX.mono {x:SV} {l:List Int} (h:IntsX M x l):IntsX M' x l:=SlX.mono h hm
theorem EntX.mono {c:List SV} {e:Ent} (h:EntX M c e):EntX M' c e:=let⟨b,h1,h2⟩:=h;⟨b,h1,PtsX.mono hm h2⟩
theorem EntsX.mono {x:SV} {l:List Ent} (h:EntsX M x l):EntsX M' x l:=let⟨cs,h1,h2⟩:=h;⟨cs,SlX.mono h1 hm,h2.imp λ_ _ h=>EntX.mono hm h⟩
theorem DvX.mono {c:List SV} {d:Dv} (h:DvX M c d):DvX M' c d:=let⟨x,h1,h2⟩:=h;⟨x,h1,EntsX.mono hm h2⟩
end
section
variable {M:Fz}
theorem PtsX.to {x:SV} {l:List Pt} (h:PtsX M x l):PtsR M x l:=SlX.to h
theorem IntsX.to {x:SV} {l:List Int} (h:IntsX M x l):IntsR M x l:=SlX.to h
theorem EntX.to {c:List SV} {e:Ent} (h:EntX M c e):EntR M c e:=let⟨b,h1,h2⟩:=h;⟨b,h1,h2.to⟩
theorem EntsX.to {x:SV} {l:List Ent} (h:EntsX M x l):EntsR M x l:=let⟨cs,h1,h2⟩:=h;⟨cs,h1.to,h2.imp λ_ _ h=>h.to⟩
theorem DvX.to {c:List SV} {d:Dv} (h:DvX M c d):DvR M c d:=let⟨x,h1,h2⟩:=h;⟨x,h1,h2.to⟩
end
theorem pt_ok {l:List Pt}:∀e∈l.map ptC,e.length=3/\Qeq e=true:=by
 intro e he;obtain⟨p,_,rfl⟩:=List.mem_map.1 he;exact⟨rfl,rfl⟩
theorem Qjg {l:List Int}:∀e∈l.map intC,e.length=1/\Qeq e=true:=by
 intro e he;obtain⟨p,_,rfl⟩:=List.mem_map.1 he;exact⟨rfl,rfl⟩
theorem SlX.mk_new {M:Fz} {s id:Nat} {es:List (List SV)} (h1:M id=some es.flatten) (h2:∀e∈es,e.length=s/\Qeq e=true):SlX M s (.osl id 0 es.length es.length s) es:=
 .inr ⟨id,rfl,h1,Qfu (Qe3 h2),h2⟩
theorem Qfc {n b:Nat} (h:n*b<=140737488355328) (h1:1<=b) (h2:b<=65536):fits n b=true:=by
 unfold fits;cases Nat.ble (Nat.mul n (Nat.succ b)) roomy with
 |true=>rfl
 |false=>
  have e1:Nat.ble (Nat.mul n b) 140737488355328=true:=by rw[Nat.ble_eq];exact h
  have e2:Nat.ble 1 b=true:=by rw[Nat.ble_eq];exact h1
  have e3:Nat.ble b 65536=true:=by rw[Nat.ble_eq];exact h2
  rw[e1,e2,e3];rfl
theorem sub1 {fz:Fz} {mu:St} {n:Nat} (hfr:Free fz mu n) {c:List SV}:Sub (with' mu fz) (with' ((n,c)::mu) fz):=λ_ _ hh=>((Gr.refl (lo:=n) hfr).cons (Nat.le_refl _) _).old hfr hh
theorem sub2 {fz:Fz} {mu:St} {n:Nat} (hfr:Free fz mu n) {c d:List SV}:Sub (with' mu fz) (with' ((n+1,d)::(n,c)::mu) fz):=λ_ _ hh=>(((Gr.refl (lo:=n) hfr).cons (Nat.le_refl _) _).cons (Nat.le_succ _) _).old hfr hh
theorem gr1 {fz:Fz} {mu:St} {n:Nat} (hfr:Free fz mu n) {c:List SV}:Gr n fz mu ((n,c)::mu) n (n+1):=(Gr.refl hfr).cons (Nat.le_refl _) _
theorem gr2 {fz:Fz} {mu:St} {n:Nat} (hfr:Free fz mu n) {c d:List SV}:Gr n fz mu ((n+1,d)::(n,c)::mu) n (n+2):=(gr1 hfr).cons (Nat.le_succ _) _
theorem gr3 {fz:Fz} {mu:St} {n:Nat} (hfr:Free fz mu n) {c d e:List SV}:Gr n fz mu ((n+2,e)::(n+1,d)::(n,c)::mu) n (n+3):=(gr2 hfr).cons (by omega) _
section
variable {P:Program} (H:Fs P)
include H
theorem message_CloneEntry (e:Ent) (b:SV) (hb:e.batch.length<=4398046511104):Ctr P n_Qa2 [.ag (entC e b)] (λM=>PtsR M b e.batch) (λn _ M v=>∃b',v=.ag (entC e b')/\PtsX (From n M) b' e.batch):=Ctr.of H.mx H.Qa2 (λ_=>0) λfz mu n k hfr s1 hk=>by
 obtain⟨xl,xs,xk,xm⟩:=s1.len;rw[dY a_Qa2.eq_1 b_Qa2.eq_1];unfold entC;simp only[↓E1,E2,seval, *];obtain⟨h1,h2⟩:=Qg9 (Sl.mono s1 (sub2 hfr (c:=[I e.view,I e.client,I e.session,I e.number,b]) (d:=[I 0,I 0,I 0,I 0,.nsl])));rw[h1];refine⟨h2,Qpi (.inl rfl) (Qfc (by simp;omega) (by decide) (by decide)) pt_ok (λhe=>?_) (λhe=>?_)⟩
 ·simp only[↓E1,E2,seval, *];exact hk _ _ _ (gr2 hfr) ⟨.nsl,rfl,.inl ⟨.inl rfl,he⟩⟩
 ·simp only[↓E1,E2,seval, *];exact hk _ _ _ (gr3 hfr) ⟨_,rfl,SlX.mk_new (From.at (by omega) (by rw[Qfl,if_pos rfl])) pt_ok⟩
theorem Qow (l:Lg) (x:SV) {fz:Fz} {mu0:St} {n0 lo:Nat} (hfr0:Free fz mu0 n0) (s1:EntsR (with' mu0 fz) x l.ents) (hL:l.ents.length<=2513169434916) (hb:∀e∈l.ents,e.batch.length<=4398046511104) (ob:Nat) (xe:SV) (i:Nat) (hi:i<l.ents.length) {fu:Nat} {e:Env} {mu:St} {n:Nat} {K:LK}
 (hfr:Free fz mu n) (hlo:n0<=lo/\lo<=n) (g0:Gr n0 fz mu0 mu n0 n) (b1:Ev.look mu ob=some [I l.base,l.snap.sv,xe]) (hob:n0<=ob/\ob<lo) (G:Grow lo (with' mu fz) 5 EntX xe (l.ents.take i)) (h3:e 0 3=.one (.optr ob 0)) (h12:e 0 12=.one x) (h13:e 0 13=.one (.int .i64 l.ents.length)) (h14:e 0 14=.one (.int .i64 i))
 (hK:∀e' mu' n' xe',Gr n0 fz mu0 mu' n0 n'->lo<=n'->Ev.look mu' ob=some [I l.base,l.snap.sv,xe']->(∀j,j<lo->j≠ob->Ev.look mu' j=Ev.look mu j)->Grow lo (with' mu' fz) 5 EntX xe' (l.ents.take (i+1))->e' 0 2=e 0 2->e' 0 3=.one (.optr ob 0)->e' 0 12=.one x->e' 0 13=.one (.int .i64 l.ents.length)->e' 0 14=.one (.int .i64 ((i+1:Nat):Int))->K .normal (tmE 27 e') mu' n'):
 dcode pOrc False (CP P) fz fu l_Qby_0 (tmE 27 e) mu n K:=by
 obtain⟨id,off,cap,B,b,rfl,hB,hmk,hbd,hsub,s2⟩:=(EntsR.mono (λ_ _ hh=>g0.old hfr0 hh) s1).elem hi;have hw:=Qev hi (by omega);have b2:=Qem (fz:=fz) b1;have hno:(n=ob)=False:=by simp;omega
 obtain⟨yl,ys,yk,ym⟩:=s2.len;obtain⟨-,-,zk,zm⟩:=G.len;have hE:=message_CloneEntry H l.ents[i] b (hb _ (List.getElem_mem hi));unfold entC at hsub hE;rw[dX l_Qby_0.eq_1];simp only[↓E1,E2,seval, *];refine hE.d3 hfr (λhm=>s2.mono hm) ?_;rintro v new n2 g2 bx1 ⟨b',rfl,hb'⟩;simp only[↓E1,E2,seval, *];have yk':=(SlX.len hb').2.2.1;have hli:(l.ents.take i).length=i:=by rw[List.length_take];omega
 refine⟨yk',yk',Grow.more (R:=EntX) (λh g=>EntX.mono h g) (a:=l.ents[i]) G hfr hlo.2 (λj hj=>hfr0.fz j (by omega)) (g2.cons g2.le _) ⟨b',rfl,PtsX.mono ((From.mono (sub1 g2.free)).trans (From.le (by omega))) hb'⟩ ⟨rfl,by simp only[↓E1,E2,seval,yk']⟩ (by rw[hli];exact Qfc (by omega) (by decide) (by decide)) (λmu3 g3 G3=>?_)⟩;have b3:Ev.look mu3 ob=some [I l.base,l.snap.sv,xe]:=by
  rw[g3.own ob hob.2];exact b1
 rw[hli]at G3⊢;simp only[↓E1,E2,seval, *];refine hK _ _ _ _ ((g0.trans (g3.weaken hlo.1)).put hob.1 b3) (by have:=g2.le;omega) (by rw[Qen,if_pos rfl,b3];rfl) (λj hj hne=>by rw[Qen,if_neg (by omega)];exact g3.own j hj) (Grow.mono (R:=EntX) (λh g=>EntX.mono h g) ?_ (From.put hob.2 b3)) ?_ ?_ ?_ ?_ ?_
 ·rw[List.take_add_one,List.getElem?_eq_getElem hi];exact G3
 all_goals simp[updN,updE, *]
omit H in
theorem Ql0 {lo:Nat} {M:Fz} {x:SV} {l:List Ent} (h:Grow lo M 5 EntX x l):EntsX (From lo M) x l:=let⟨cs,h1,h2⟩:=h;⟨cs,h1,h2.imp λ_ _ g=>EntX.mono Ex.sub g⟩
theorem Qfz (l:Lg) (x:SV) (hL:l.ents.length<=2513169434916) (hb:∀e∈l.ents,e.batch.length<=4398046511104):Ctr P n_Qby [.ag (lgC l x)] (λM=>EntsR M x l.ents) (λn _ M v=>∃x',v=.ag (lgC l x')/\Grow n M 5 EntX x' l.ents):=Ctr.of H.mx H.Qby (λ_=>l.ents.length+1) λfz mu n k hfr s1 hk=>by
 obtain⟨xl,xs,xk,xm⟩:=s1.len;rw[dY a_Qby.eq_1 b_Qby.eq_1];unfold lgC;simp only[↓E1,E2,seval, *];refine loopI (x:=0) (L:=l.ents.length) (p:=λ_=>true) (λi e mu' n'=>∃xe,Gr n fz mu mu' n n'/\n+3<=n'/\Ev.look mu' (n+1)=some [I 0,.str 0 0,.nsl]/\Ev.look mu' (n+1+1)=some [I l.base,l.snap.sv,xe]/\Grow (n+3) (with' mu' fz) 5 EntX xe (l.ents.take i)/\e 0 2=.one (.optr (n+1) 0)/\e 0 3=.one (.optr (n+1+1) 0)/\e 0 12=.one x/\e 0 13=.one (.int .i64 l.ents.length)/\e 0 14=.one (.int .i64 i)) (λ_ _ _=>False) ?_ ?_ _ _ _ _ _ (by omega) ?_ ?_ ?_
 ·rintro i e mu1 n1 K hi ⟨xe,g1,c2,c1,c3,c4,c5,c6,c7,c8,c9⟩ hy hn;exact Qow H l x hfr s1 hL hb (n+1+1) xe i hi g1.free ⟨by omega,c2⟩ g1 c3 (by omega) c4 c6 c7 c8 c9 (λe' mu' n' xe' g' a0 a1 a2 a3 a4 a5 a6 a7 a8=>hy rfl _ _ _ ⟨xe',g',a0,(a2 _ (by omega) (by omega)).trans c1,a1,a3,a4.trans c5,a5,a6,a7,a8⟩)
 ·rintro e mu1 n1 K ⟨xe,g1,c2,c1,c3,c4,c5,c6,c7,c8,c9⟩ hx;rw[dX l_Qby_0.eq_1];have hlt:(l.ents.length<l.ents.length)=False:=by simp
  simp only[↓E1,E2,seval, *];exact hx _ _ _ ⟨xe,g1,c2,c1,c3,c4,by simp[updN,updE,c5],by simp[updN,updE,c6],by simp[updN,updE,c7],by simp[updN,updE,c8],by simp[updN,updE,c9]⟩
 ·exact⟨.nsl,gr3 hfr,by omega,by simp[Qer],by simp[Qer],Grow.nil,by simp[updN,updE],by simp[updN,updE],by simp[updN,updE],by simp[updN,updE],by simp[updN,updE]⟩
 ·rintro -e1 mu1 n1 ⟨xe,g1,c2,c1,c3,c4,c5,c6,c7,c8,c9⟩;have b3:=Qem (fz:=fz) c3;obtain⟨-,-,zk,zm⟩:=c4.len;simp only[↓E1,E2,seval, *];have g2:=g1.put (id:=n+1) (by omega) c1 (c:=[I l.base,l.snap.sv,xe]);have e1:with' (putS mu1 (n+1) [I l.base,l.snap.sv,xe]) fz (n+1)=some [I l.base,l.snap.sv,xe]:=by rw[Qet c1,if_pos rfl]
  simp only[↓E1,E2,seval, *];rw[List.take_length]at c4;exact hk _ _ _ g2 ⟨xe,rfl,Grow.weaken (R:=EntX) (lo:=n+3) (lo':=n) (λh g=>EntX.mono h g) (by omega) (Grow.mono (R:=EntX) (λh g=>EntX.mono h g) c4 (From.put (by omega) c1))⟩
 ·rintro⟨_,_,_,h⟩;cases h
theorem message_CloneLog (l:Lg) (x:SV) (hL:l.ents.length<=2513169434916) (hb:∀e∈l.ents,e.batch.length<=4398046511104):Ctr P n_Qby [.ag (lgC l x)] (λM=>EntsR M x l.ents) (λn _ M v=>∃x',v=.ag (lgC l x')/\EntsX (From n M) x' l.ents):=
 (Qfz H l x hL hb).mono λ_ _ _ _ ⟨x',h1,h2⟩=>⟨x',h1,Ql0 h2⟩
end
def prv (p:Int) (l:List Int) (i:Nat):Int:=if i=0 then p else l.getD (i-1) 0
def Qim (me k p:Int) (l:List Int) (i:Nat):Bool:=decide (prv p l i<l.getD i 0)&&decide (l.getD i 0<k)&&decide (l.getD i 0≠me)
theorem Qkj (me k:Int):∀(l:List Int) (p:Int),Qf8 me k p l=(List.range l.length).all (Qim me k p l)
 |[],p=>rfl
 |a::l,p=>by
  rw[Qf8,Qkj me k l a,List.length_cons,List.range_succ_eq_map,List.all_cons,List.all_map];congr 1;apply List.all_congr rfl;intro i;cases i<;>rfl
def dosOk (r:Rep) (i:Nat):Bool:=match r.dos[i]? with|none=>true|some d=>lgB d.log&&decide (0<=d.normal)&&decide (d.normal<r.view)&&decide (0<=d.commit)
theorem Qv5 (r:Rep):dosB r=(List.range r.dos.length).all (dosOk r):=by
 unfold dosB;rw[Bool.eq_iff_iff,List.all_eq_true,List.all_eq_true];constructor
 ·intro h i hi;have hi:i<r.dos.length:=by simpa using hi
  unfold dosOk;rw[List.getElem?_eq_getElem hi];exact h _ (List.getElem_mem hi)
 ·intro h d hd;obtain⟨i,hi,rfl⟩:=List.getElem_of_mem hd;have:=h i (by simpa using hi);unfold dosOk at this;rw[List.getElem?_eq_getElem hi]at this;exact this
def doAt (r:Rep) (i:Nat):Bool:=Qim r.me r.nodes (-1) (r.dos.map (·.frm)) i&&dosOk r i
theorem do_all (r:Rep):(Qf8 r.me r.nodes (-1) (r.dos.map (·.frm))&&dosB r)=(List.range r.dos.length).all (doAt r):=by
 rw[Qkj,Qv5,List.length_map];unfold doAt;rw[Bool.eq_iff_iff];simp only[Bool.and_eq_true,List.all_eq_true];exact⟨λh i hi=>⟨h.1 i hi,h.2 i hi⟩,λh=>⟨λi hi=>(h i hi).1,λi hi=>(h i hi).2⟩⟩
theorem Qrw (r:Rep):repB r=(meB r.me r.nodes&&decide (0<=r.status)&&decide (r.status<=2)&&countB r.view&&countB r.normal&&countB r.commit&&
 decide (r.normal<=r.view)&&(decide (r.status≠0)||decide (r.normal=r.view))&&lgB r.log&&decide (r.log.base<=r.commit)&&decide (r.commit<=last r.log)&&
 decide ((r.acks.length:Int)=r.nodes)&&!(r.acks.any λa=>!countB a)&&(decide (r.status=1)||decide (r.starts.length=0)&&decide (r.dos.length=0)&&!r.sent)&&
 Qf8 r.me r.nodes (-1) r.starts&&(Qf8 r.me r.nodes (-1) (r.dos.map (·.frm))&&dosB r)):=by
 unfold repB meB;rw[List.all_eq_not_any_not,Bool.and_assoc (_&&Qf8 r.me r.nodes (-1) r.starts)]
section
variable {P:Program} (H:Fs P)
include H
theorem replica_May (r:Rep) (xe xa xs xd:SV) (hl1:r.starts.length<=1152921504606846976) (hl2:r.dos.length<=1152921504606846976) (hl3:r.acks.length<=1152921504606846976):
 BoolC P n_Qdo [.ag (repC r xe xa xs xd)] (λM=>EntsR M xe r.log.ents/\IntsR M xa r.acks/\IntsR M xs r.starts/\DvsR M xd r.dos) (repB r):=boolC H.mx H.Qdo (r.starts.length+r.dos.length+1) λfz mu n k hfr gg s h=>by
 obtain⟨s1,s2,s3,s4⟩:=s;obtain⟨xel,xes,xek,xem⟩:=s1.len;obtain⟨xal,xas,xak,xam⟩:=s2.len;obtain⟨xsl,xss,xsk,xsm⟩:=s3.len;obtain⟨xdl,xds,xdk,xdm⟩:=s4.len;have hfr0:=hfr;have loop0:Hide (∀(e:Env) mu1 n1 (K:LK) w,Gr n fz mu mu1 n n1->with' mu1 fz n=some (repC r xe xa xs xd)->e 0 1=.one (.optr n 0)->e 6 14=.one xs->e 6 15=.one (.int .i64 r.starts.length)->e 7 0=.one (.int .i64 0)->e 0 3=.one (.int .i64 (-1))->
  (Qf8 r.me r.nodes (-1) r.starts=true->∀e' mu' n',Gr n fz mu mu' n n'->with' mu' fz n=some (repC r xe xa xs xd)->e' 0 1=.one (.optr n 0)->K (.exit 0) (tmE 184 e') mu' n')->
  (Qf8 r.me r.nodes (-1) r.starts=false->∀e' mu' n',Gr n fz mu mu' n n'->e' 0 2=.one (.bool false)->K .ret (tmE 184 e') mu' n')->
  Lp (dcode pOrc False (CP P) fz (r.starts.length+r.dos.length+1) l_Qdo_0) (r.starts.length+r.dos.length+1) (tmE 184 e) mu1 n1 K w):=⟨by
  intro e mu1 n1 K w g1 a1 a2 a3 a4 a5 a6 hd hr;rw[Qkj]at hd hr;refine loopI (x:=0) (L:=r.starts.length) (p:=Qim r.me r.nodes (-1) r.starts) (λi e mu' n'=>Gr n fz mu mu' n n'/\with' mu' fz n=some (repC r xe xa xs xd)/\e 0 1=.one (.optr n 0)/\e 6 14=.one xs/\e 6 15=.one (.int .i64 r.starts.length)/\e 7 0=.one (.int .i64 i)/\e 0 3=.one (.int .i64 (prv (-1) r.starts i)))
   (λe mu' n'=>Gr n fz mu mu' n n'/\e 0 2=.one (.bool false)) ?_ ?_ e mu1 n1 K w (by omega) ⟨g1,a1,a2,a3,a4,a5,a6⟩ (λha e' mu' n' hI=>hd (Qh0 ha) e' mu' n' hI.1 hI.2.1 hI.2.2.1) (λhx e' mu' n' hR=>hr (Qf1 hx) e' mu' n' hR.1 hR.2)
  ·rintro i e mu1 n1 K hi ⟨g1,b1,a2,a3,a4,a5,a6⟩ hy hn;have t3:=IntsR.mono (λ_ _ hh=>g1.old hfr0 hh) s3;obtain⟨id,off,cap,B,rfl,hB,hmk,hbd,hsub⟩:=t3.elem hi;have hw:=Qev hi (by omega);have hle:=Nat.le_refl n1;have hp:prv (-1) r.starts (i+1)=r.starts[i]:=by simp[prv,hi]
   have hg:r.starts.getD i 0=r.starts[i]:=by simp[hi]
   clear hd hr h;unfold repC at b1;rw[dX l_Qdo_0.eq_1];simp only[↓E1,E2,seval, *];repeat' (first|((with_reducible refine Qeo (λhb=>?_) (λhb=>?_))<;>simp only[↓E1,E2,seval, *]))
   all_goals first
    |(refine hy ?_ _ _ _ ⟨g1,b1,?_,?_,?_,?_,?_⟩<;>(try simp[updN,updE, *])<;>(clear hy hn;simp_all [Qim]);done)
    |(refine hn ?_ _ _ _ ⟨g1,?_⟩<;>(try simp[updN,updE, *])<;>(clear hy hn;simp_all [Qim];try omega);done)
  ·rintro e mu n K hI hd;obtain⟨g1,a1,a2,a3,a4,a5,a6⟩:=id hI;rw[dX l_Qdo_0.eq_1];have hlt:(r.starts.length<r.starts.length)=False:=by simp
   simp only[↓E1,E2,seval, *];all_goals refine hd _ _ _ ⟨g1,a1,by simp[updN,updE, *],by simp[updN,updE, *],by simp[updN,updE, *],by simp[updN,updE, *],by simp[updN,updE, *]⟩⟩
 have loop1:Hide (∀(e:Env) mu1 n1 (K:LK) w,Gr n fz mu mu1 n n1->with' mu1 fz n=some (repC r xe xa xs xd)->e 0 1=.one (.optr n 0)->e 8 6=.one xd->e 8 7=.one (.int .i64 r.dos.length)->e 8 8=.one (.int .i64 0)->e 0 3=.one (.int .i64 (-1))->
  ((Qf8 r.me r.nodes (-1) (r.dos.map (·.frm))&&dosB r)=true->∀e' mu' n',Gr n fz mu mu' n n'->K (.exit 2) (tmE 184 e') mu' n')->
  ((Qf8 r.me r.nodes (-1) (r.dos.map (·.frm))&&dosB r)=false->∀e' mu' n',Gr n fz mu mu' n n'->e' 0 2=.one (.bool false)->K .ret (tmE 184 e') mu' n')->
  Lp (dcode pOrc False (CP P) fz (r.starts.length+r.dos.length+1) l_Qc3) (r.starts.length+r.dos.length+1) (tmE 184 e) mu1 n1 K w):=⟨by
  clear loop0;intro e mu1 n1 K w g1 a1 a2 a3 a4 a5 a6 hd hr;rw[do_all]at hd hr;refine loopI (x:=2) (L:=r.dos.length) (p:=doAt r) (λi e mu' n'=>Gr n fz mu mu' n n'/\with' mu' fz n=some (repC r xe xa xs xd)/\e 0 1=.one (.optr n 0)/\e 8 6=.one xd/\e 8 7=.one (.int .i64 r.dos.length)/\e 8 8=.one (.int .i64 i)/\e 0 3=.one (.int .i64 (prv (-1) (r.dos.map (·.frm)) i)))
   (λe mu' n'=>Gr n fz mu mu' n n'/\e 0 2=.one (.bool false)) ?_ ?_ e mu1 n1 K w (by omega) ⟨g1,a1,a2,a3,a4,a5,a6⟩ (λha e' mu' n' hI=>hd (Qh0 ha) e' mu' n' hI.1) (λhx e' mu' n' hR=>hr (Qf1 hx) e' mu' n' hR.1 hR.2)
  ·rintro i e mu1 n1 K hi ⟨g1,b1,a2,a3,a4,a5,a6⟩ hy hn;have t4:=DvsR.mono (λ_ _ hh=>g1.old hfr0 hh) s4;obtain⟨id,off,cap,B,bx,rfl,hB,hmk,hbd,hsub,t5⟩:=t4.elem hi;obtain⟨ybl,ybs,ybk,ybm⟩:=t5.len;have hw:=Qev hi (by omega);have hle:=Nat.le_refl n1;have hfr:=g1.free;have gg:=Gr.refl (lo:=n1) hfr;have hp:prv (-1) (r.dos.map (·.frm)) (i+1)=r.dos[i].frm:=by simp[prv,hi]
   have hg:(r.dos.map (·.frm)).getD i 0=r.dos[i].frm:=by simp[hi]
   have hgi:r.dos[i]?=some r.dos[i]:=List.getElem?_eq_getElem hi;have hn1:n<n1:=g1.free.lt b1;have hne:¬n1=n:=by omega
   have hmm:=message_MayLog H r.dos[i].log bx;clear hd hr h;unfold repC at b1;unfold dvC at hsub;rw[dX l_Qc3.eq_1];simp only[↓E1,E2,seval, *];repeat' (first|((with_reducible refine Qeo (λhb=>?_) (λhb=>?_))<;>simp only[↓E1,E2,seval, *])|((with_reducible refine CPr_f (f:=n_Qcm) ?_);((first|(refine(hmm).d2 hfr (by first|trivial|exact t5|assumption) ?_;rintro v mu2 n2 g2 rfl)|(refine(hmm).d3 hfr (λhm=>by first|trivial|exact EntsR.mono hm t5) ?_;rintro v mu2 n2 g2 b7 rfl)|(refine(hmm).c1 hfr (by first|trivial|exact t5|assumption) ?_;rintro v mu2 n2 g2 rfl)|(refine(hmm).c2 hfr (λhm=>by first|trivial|exact EntsR.mono hm t5) ?_;rintro v mu2 n2 g2 b7 rfl)|(refine(hmm).c3 hfr (λhm=>by first|trivial|exact EntsR.mono hm t5) ?_;rintro v mu2 n2 g2 b7 b8 rfl));(try replace b1:=g2.old hfr b1);(try replace b7:=g2.old hfr b7);(try replace t5:=EntsR.mono (λ_ _ hh=>g2.old hfr hh) t5);replace gg:=gg.trans (g2.weaken hle);replace hle:=Nat.le_trans hle g2.le;replace hfr:=g2.free;clear g2;simp only[↓E1,E2,seval, *])))
   all_goals first
    |(refine hy ?_ _ _ _ ⟨g1.trans (gg.weaken g1.le),b1,?_,?_,?_,?_,?_⟩<;>(try simp[updN,updE, *])<;>(clear hy hn hmm;simp_all [doAt,Qim,dosOk]);done)
    |(refine hn ?_ _ _ _ ⟨(by first|exact g1.trans (gg.weaken g1.le)|exact g1.cons g1.le _),?_⟩<;>(try simp[updN,updE, *])<;>(clear hy hn hmm;simp_all [doAt,Qim,dosOk];try omega);done)
  ·rintro e mu n K hI hd;obtain⟨g1,a1,a2,a3,a4,a5,a6⟩:=id hI;rw[dX l_Qc3.eq_1];have hlt:(r.dos.length<r.dos.length)=False:=by simp
   simp only[↓E1,E2,seval, *];all_goals refine hd _ _ _ ⟨g1,a1,by simp[updN,updE, *],by simp[updN,updE, *],by simp[updN,updE, *],by simp[updN,updE, *],by simp[updN,updE, *]⟩⟩
 rw[dY a_Qdo.eq_1 b_Qdo.eq_1];have hA:True:=trivial;have hle:=Nat.le_refl n;have hwa:IntKind.i64.wrap ((r.starts.length:Int)+r.dos.length)=((r.starts.length+r.dos.length:Nat):Int):=by rw[wrap64 (by omega) (by omega)];rfl
 unfold repC;simp only[↓E1,E2,seval, *];repeat' (first|((with_reducible refine Qeo (λhb=>?_) (λhb=>?_))<;>(replace hA:=And.intro hA hb;clear hb;simp only[↓E1,E2,seval, *]))|((with_reducible refine CPr_f (f:=n_Qdi) ?_);((first|(refine(repair_Nodes H _ _).d2 hfr (by first|trivial|exact s1|exact s2|exact s3|exact s4|assumption) ?_;rintro v mu2 n2 g2 rfl)|(refine(repair_Nodes H _ _).d3 hfr (λhm=>by first|trivial|exact EntsR.mono hm s1|exact IntsR.mono hm s2|exact IntsR.mono hm s3|exact DvsR.mono hm s4) ?_;rintro v mu2 n2 g2 b1 rfl)|(refine(repair_Nodes H _ _).c1 hfr (by first|trivial|exact s1|exact s2|exact s3|exact s4|assumption) ?_;rintro v mu2 n2 g2 rfl)|(refine(repair_Nodes H _ _).c2 hfr (λhm=>by first|trivial|exact EntsR.mono hm s1|exact IntsR.mono hm s2|exact IntsR.mono hm s3|exact DvsR.mono hm s4) ?_;rintro v mu2 n2 g2 b1 rfl)|(refine(repair_Nodes H _ _).c3 hfr (λhm=>by first|trivial|exact EntsR.mono hm s1|exact IntsR.mono hm s2|exact IntsR.mono hm s3|exact DvsR.mono hm s4) ?_;rintro v mu2 n2 g2 b1 b2 rfl));(try replace b1:=g2.old hfr b1);(try replace s1:=EntsR.mono (λ_ _ hh=>g2.old hfr hh) s1);(try replace s2:=IntsR.mono (λ_ _ hh=>g2.old hfr hh) s2);(try replace s3:=IntsR.mono (λ_ _ hh=>g2.old hfr hh) s3);(try replace s4:=DvsR.mono (λ_ _ hh=>g2.old hfr hh) s4);replace gg:=gg.trans (g2.weaken hle);replace hle:=Nat.le_trans hle g2.le;replace hfr:=g2.free;clear g2;simp only[↓E1,E2,seval, *]))|((with_reducible refine CPr_f (f:=n_Qcl) ?_);((first|(refine(replica_within H _).d2 hfr (by first|trivial|exact s1|exact s2|exact s3|exact s4|assumption) ?_;rintro v mu2 n2 g2 rfl)|(refine(replica_within H _).d3 hfr (λhm=>by first|trivial|exact EntsR.mono hm s1|exact IntsR.mono hm s2|exact IntsR.mono hm s3|exact DvsR.mono hm s4) ?_;rintro v mu2 n2 g2 b1 rfl)|(refine(replica_within H _).c1 hfr (by first|trivial|exact s1|exact s2|exact s3|exact s4|assumption) ?_;rintro v mu2 n2 g2 rfl)|(refine(replica_within H _).c2 hfr (λhm=>by first|trivial|exact EntsR.mono hm s1|exact IntsR.mono hm s2|exact IntsR.mono hm s3|exact DvsR.mono hm s4) ?_;rintro v mu2 n2 g2 b1 rfl)|(refine(replica_within H _).c3 hfr (λhm=>by first|trivial|exact EntsR.mono hm s1|exact IntsR.mono hm s2|exact IntsR.mono hm s3|exact DvsR.mono hm s4) ?_;rintro v mu2 n2 g2 b1 b2 rfl));(try replace b1:=g2.old hfr b1);(try replace s1:=EntsR.mono (λ_ _ hh=>g2.old hfr hh) s1);(try replace s2:=IntsR.mono (λ_ _ hh=>g2.old hfr hh) s2);(try replace s3:=IntsR.mono (λ_ _ hh=>g2.old hfr hh) s3);(try replace s4:=DvsR.mono (λ_ _ hh=>g2.old hfr hh) s4);replace gg:=gg.trans (g2.weaken hle);replace hle:=Nat.le_trans hle g2.le;replace hfr:=g2.free;clear g2;simp only[↓E1,E2,seval, *]))|((with_reducible refine CPr_f (f:=n_Qcm) ?_);((first|(refine(message_MayLog H r.log xe).d2 hfr (by first|trivial|exact s1|exact s2|exact s3|exact s4|assumption) ?_;rintro v mu2 n2 g2 rfl)|(refine(message_MayLog H r.log xe).d3 hfr (λhm=>by first|trivial|exact EntsR.mono hm s1|exact IntsR.mono hm s2|exact IntsR.mono hm s3|exact DvsR.mono hm s4) ?_;rintro v mu2 n2 g2 b1 rfl)|(refine(message_MayLog H r.log xe).c1 hfr (by first|trivial|exact s1|exact s2|exact s3|exact s4|assumption) ?_;rintro v mu2 n2 g2 rfl)|(refine(message_MayLog H r.log xe).c2 hfr (λhm=>by first|trivial|exact EntsR.mono hm s1|exact IntsR.mono hm s2|exact IntsR.mono hm s3|exact DvsR.mono hm s4) ?_;rintro v mu2 n2 g2 b1 rfl)|(refine(message_MayLog H r.log xe).c3 hfr (λhm=>by first|trivial|exact EntsR.mono hm s1|exact IntsR.mono hm s2|exact IntsR.mono hm s3|exact DvsR.mono hm s4) ?_;rintro v mu2 n2 g2 b1 b2 rfl));(try replace b1:=g2.old hfr b1);(try replace s1:=EntsR.mono (λ_ _ hh=>g2.old hfr hh) s1);(try replace s2:=IntsR.mono (λ_ _ hh=>g2.old hfr hh) s2);(try replace s3:=IntsR.mono (λ_ _ hh=>g2.old hfr hh) s3);(try replace s4:=DvsR.mono (λ_ _ hh=>g2.old hfr hh) s4);replace gg:=gg.trans (g2.weaken hle);replace hle:=Nat.le_trans hle g2.le;replace hfr:=g2.free;clear g2;simp only[↓E1,E2,seval, *]))|((with_reducible refine CPr_f (f:=n_Qdr) ?_);((first|(refine(choose_Last H r.log xe).d2 hfr (by first|trivial|exact s1|exact s2|exact s3|exact s4|assumption) ?_;rintro v mu2 n2 g2 rfl)|(refine(choose_Last H r.log xe).d3 hfr (λhm=>by first|trivial|exact EntsR.mono hm s1|exact IntsR.mono hm s2|exact IntsR.mono hm s3|exact DvsR.mono hm s4) ?_;rintro v mu2 n2 g2 b1 rfl)|(refine(choose_Last H r.log xe).c1 hfr (by first|trivial|exact s1|exact s2|exact s3|exact s4|assumption) ?_;rintro v mu2 n2 g2 rfl)|(refine(choose_Last H r.log xe).c2 hfr (λhm=>by first|trivial|exact EntsR.mono hm s1|exact IntsR.mono hm s2|exact IntsR.mono hm s3|exact DvsR.mono hm s4) ?_;rintro v mu2 n2 g2 b1 rfl)|(refine(choose_Last H r.log xe).c3 hfr (λhm=>by first|trivial|exact EntsR.mono hm s1|exact IntsR.mono hm s2|exact IntsR.mono hm s3|exact DvsR.mono hm s4) ?_;rintro v mu2 n2 g2 b1 b2 rfl));(try replace b1:=g2.old hfr b1);(try replace s1:=EntsR.mono (λ_ _ hh=>g2.old hfr hh) s1);(try replace s2:=IntsR.mono (λ_ _ hh=>g2.old hfr hh) s2);(try replace s3:=IntsR.mono (λ_ _ hh=>g2.old hfr hh) s3);(try replace s4:=DvsR.mono (λ_ _ hh=>g2.old hfr hh) s4);replace gg:=gg.trans (g2.weaken hle);replace hle:=Nat.le_trans hle g2.le;replace hfr:=g2.free;clear g2;simp only[↓E1,E2,seval, *]))|((with_reducible refine CPr_f (f:=n_Qaj) ?_);((first|(refine(Qg8 H _ _ (replica_May_1 H) xa r.acks (Nat.le_trans hl3 (by decide))).d2 hfr (by first|trivial|exact s1|exact s2|exact s3|exact s4|assumption) ?_;rintro v mu2 n2 g2 rfl)|(refine(Qg8 H _ _ (replica_May_1 H) xa r.acks (Nat.le_trans hl3 (by decide))).d3 hfr (λhm=>by first|trivial|exact EntsR.mono hm s1|exact IntsR.mono hm s2|exact IntsR.mono hm s3|exact DvsR.mono hm s4) ?_;rintro v mu2 n2 g2 b1 rfl)|(refine(Qg8 H _ _ (replica_May_1 H) xa r.acks (Nat.le_trans hl3 (by decide))).c1 hfr (by first|trivial|exact s1|exact s2|exact s3|exact s4|assumption) ?_;rintro v mu2 n2 g2 rfl)|(refine(Qg8 H _ _ (replica_May_1 H) xa r.acks (Nat.le_trans hl3 (by decide))).c2 hfr (λhm=>by first|trivial|exact EntsR.mono hm s1|exact IntsR.mono hm s2|exact IntsR.mono hm s3|exact DvsR.mono hm s4) ?_;rintro v mu2 n2 g2 b1 rfl)|(refine(Qg8 H _ _ (replica_May_1 H) xa r.acks (Nat.le_trans hl3 (by decide))).c3 hfr (λhm=>by first|trivial|exact EntsR.mono hm s1|exact IntsR.mono hm s2|exact IntsR.mono hm s3|exact DvsR.mono hm s4) ?_;rintro v mu2 n2 g2 b1 b2 rfl));(try replace b1:=g2.old hfr b1);(try replace s1:=EntsR.mono (λ_ _ hh=>g2.old hfr hh) s1);(try replace s2:=IntsR.mono (λ_ _ hh=>g2.old hfr hh) s2);(try replace s3:=IntsR.mono (λ_ _ hh=>g2.old hfr hh) s3);(try replace s4:=DvsR.mono (λ_ _ hh=>g2.old hfr hh) s4);replace gg:=gg.trans (g2.weaken hle);replace hle:=Nat.le_trans hle g2.le;replace hfr:=g2.free;clear g2;simp only[↓E1,E2,seval, *])))
 all_goals try (refine leafB h (by first|exact gg|exact gg.cons hle _|exact(gg.cons hle _).cons (Nat.le_succ_of_le hle) _) ?_;(clear h gg hle hfr);(try clear loop);(try clear loop0);(try clear loop1);(try clear s1);(try clear s2);(try clear s3);(try clear s4);(try clear b1);(try clear b2);clear xel xes xek xem xal xas xak xam xsl xss xsk xsm xdl xds xdk xdm hfr0 hwa;rw[Qrw];(try generalize (r.acks.any λa=>!countB a)=qq at hA⊢);first|(simp_all [-List.length_eq_zero_iff];done)|(simp_all [-List.length_eq_zero_iff];omega))
 all_goals ((with_reducible refine Lp_at ?_);refine loop0.out _ _ _ _ _ gg b1 (by simp[updN,updE]) (by simp[updN,updE]) (by simp[updN,updE]) (by simp[updN,updE]) (by simp[updN,updE]) (λhr e1 mu1 n1 g1 b1 a2=>?_) (λhr e1 mu1 n1 g1 a1=>?_))
 all_goals (replace hA:=And.intro hA hr;clear hr gg s1 s2 s3 s4 hfr hle)
 all_goals try (simp only[↓E1,E2,seval, *];refine leafB h g1 ?_;clear h g1 loop0 loop1 b1 xel xes xek xem xal xas xak xam xsl xss xsk xsm xdl xds xdk xdm hfr0 hwa;rw[Qrw];(try generalize (r.acks.any λa=>!countB a)=qq at hA⊢);simp_all [-List.length_eq_zero_iff];done)
 all_goals
  have b0:=b1;unfold repC at b1;simp only[↓E1,E2,seval, *];refine loop1.out _ _ _ _ _ g1 b0 (by simp[updN,updE, *]) (by simp[updN,updE, *]) (by simp[updN,updE, *]) (by simp[updN,updE, *]) (by simp[updN,updE, *]) (λhr e2 mu2 n2 g2=>?_) (λhr e2 mu2 n2 g2 a1=>?_)
 all_goals (replace hA:=And.intro hA hr;clear hr;simp only[↓E1,E2,seval, *];refine leafB h g2 ?_;clear h g1 g2 loop0 loop1 b0 b1 xel xes xek xem xal xas xak xam xsl xss xsk xsm xdl xds xdk xdm hfr0 hwa;rw[Qrw];(try generalize (r.acks.any λa=>!countB a)=qq at hA⊢);first|(simp_all [-List.length_eq_zero_iff];done)|(simp_all [-List.length_eq_zero_iff];omega)|(simp_all [-List.length_eq_zero_iff];exfalso;omega))
end
def numP (id o:Nat) (f:Int):SV:=
 if f=0 then .optr id (o+3)else if f=1 then .optr id (o+4)else if f=2 then .optr id (o+5)else if f=3 then .optr id (o+6)else if f=4 then .optr id (o+7)else if f=5 then .optr id (o+8)else
 if f=6 then .optr id (o+9)else if f=7 then .optr id (o+10)else if f=8 then .optr id (o+11)else if f=9 then .optr id (o+12)else if f=10 then .optr id (o+13)else .npt
def limLo (kind f:Int):Int:=if f=8 then 0 else if f=9 then 0 else if f=2/\kind=1 then -1 else if(f=2\/f=10)/\(kind=2\/kind=3)then -2147483648 else 0
def limHi (f:Int):Int:=if f=8 then 9 else if f=9 then 4 else 2147483647
def isNode (x:Int):Bool:=decide (0<=x)&&decide (x<7)
def Qgs (x:Int):Bool:=decide (100<=x)&&decide (x<108)
def whoB (k a b:Int):Bool:=(if k=0\/k=2 then Qgs a else isNode a)&&(if k=1\/k=3 then Qgs b else isNode b)
def Qff (k:Int):List Int:=
 if k=0 then[6,7,12]else if k=1 then[6,7,8,2]else if k=2 then[7,9,11,2,10]else if k=3 then[7,8,2,4]else if k=4 then[0,2,3,5,6,7,12]else if k=5 then[0,2]else if k=6 then[0,2,3]else
 if k=7 then[0]else if k=8 then[0,1,3,13]else if k=9 then[0,3,13]else if k=10 then[0,2]else if k=11 then[0,3,13]else if k=12 then[0,4]else if k=13 then[0,4]else if k=14 then[2]else if k=15 then[2]else[2,14]
theorem kinds (k:Int) (h0:0<=k) (h:k<17):k=0\/k=1\/k=2\/k=3\/k=4\/k=5\/k=6\/k=7\/k=8\/k=9\/k=10\/k=11\/k=12\/k=13\/k=14\/k=15\/k=16:=by omega
def hasF (k:Int) (f:Nat):Bool:=(Qff k).contains (f:Int)
def hasL (l:List Int):List SV:=[.bool (l.contains 0),.bool (l.contains 1),.bool (l.contains 2),.bool (l.contains 3),.bool (l.contains 4),.bool (l.contains 5),.bool (l.contains 6),.bool (l.contains 7),.bool (l.contains 8),.bool (l.contains 9),.bool (l.contains 10),.bool (l.contains 11),.bool (l.contains 12),.bool (l.contains 13),.bool (l.contains 14)]
theorem lits (i:Nat) (h:i<15):i=0\/i=1\/i=2\/i=3\/i=4\/i=5\/i=6\/i=7\/i=8\/i=9\/i=10\/i=11\/i=12\/i=13\/i=14:=by omega
theorem hasL_len (l:List Int):(hasL l).length=15:=rfl
theorem hasL_mkd (l:List Int):mkd (hasL l)=false:=rfl
theorem Qte (l:List Int) (v:Nat) (h:v<15):over (hasL l) v [.bool true]=hasL (l++[(v:Int)]):=by
 rcases lits v h with rfl|rfl|rfl|rfl|rfl|rfl|rfl|rfl|rfl|rfl|rfl|rfl|rfl|rfl|rfl<;>simp[over,hasL]
theorem Qu6 (k:Int) (hk:0<=k/\k<17):∀v∈Qff k,∃j:Nat,j<15/\v=(j:Int):=by
 have h:∀l:List Int,(l.all λv=>decide (0<=v)&&decide (v<15))=true->∀v∈l,∃j:Nat,j<15/\v=(j:Int):=λl h v hv=>by
  have:=List.all_eq_true.1 h v hv;simp at this;exact⟨v.toNat,by omega,by omega⟩
 apply h;rcases kinds k hk.1 hk.2 with rfl|rfl|rfl|rfl|rfl|rfl|rfl|rfl|rfl|rfl|rfl|rfl|rfl|rfl|rfl|rfl|rfl<;>decide
theorem Qui (k:Int) (hk:0<=k/\k<17):(Qff k).length<=7:=by
 rcases kinds k hk.1 hk.2 with rfl|rfl|rfl|rfl|rfl|rfl|rfl|rfl|rfl|rfl|rfl|rfl|rfl|rfl|rfl|rfl|rfl<;>decide
theorem mkd_ints:∀l:List Int,mkd (l.map I)=false
 |[]=>rfl
 |_::_=>rfl
def numV (m:Msg):Nat->Option Int
 |0=>some m.view
 |1=>some m.normal
 |2=>some m.at'
 |3=>some m.commit
 |4=>some m.round
 |5=>some m.client
 |6=>some m.session
 |7=>some m.number
 |8=>some m.code
 |9=>some m.agg
 |10=>some m.until'
 |_=>none
def Qiz (m:Msg) (f:Nat):Bool:=match numV m f with|none=>true|some x=>(hasF m.kind f||decide (x=0))&&decide (limLo m.kind f<=x)&&decide (x<=limHi f)
def msgB (m:Msg):Bool:=
 decide (0<=m.kind)&&decide (m.kind<17)&&whoB m.kind m.frm m.to&&(List.range 15).all (Qiz m)&&(if hasF m.kind 11 then nameB m.series else decide (m.series.l=0))&&
 decide (m.text.l<=65536)&&(hasF m.kind 14||decide (m.text.l=0))&&Qip m.batch&&(hasF m.kind 12||decide (m.batch.length=0))&&lgB m.log&&(hasF m.kind 13||decide (m.log.base=0)&&decide (m.log.ents.length=0))
section
variable {P:Program} (H:Fs P)
include H
theorem message_number (id o:Nat) (f:Int):Ctr P n_Qcp [.one (.optr id o),.one (I f)] (λ_=>True) (λ_ _ _ v=>v=.one (numP id o f)):=Ctr.of H.mx H.Qcp (λ_=>0) λfz mu n k hfr _ h=>by
 rw[dY a_Qcp.eq_1 b_Qcp.eq_1];have gg:=Gr.refl (lo:=n) hfr;simp only[↓E1,E2,seval];repeat' (first|((with_reducible refine Qeo (λhb=>?_) (λhb=>?_))<;>simp only[↓E1,E2,seval, *]))
 all_goals exact h _ _ _ gg (by clear h;simp_all [numP])
theorem message_limits (k0 f:Int):Ctr P n_Qcq [.one (I k0),.one (I f)] (λ_=>True) (λ_ _ _ v=>v=.tp [.one (I (limLo k0 f)),.one (I (limHi f))]):=Ctr.of H.mx H.Qcq (λ_=>0) λfz mu n k hfr _ h=>by
 rw[dY a_Qcq.eq_1 b_Qcq.eq_1];have gg:=Gr.refl (lo:=n) hfr;simp only[↓E1,E2,seval];repeat' (first|((with_reducible refine Qeo (λhb=>?_) (λhb=>?_))<;>simp only[↓E1,E2,seval, *]))
 all_goals exact h _ _ _ gg (by clear h;simp_all [limLo,limHi])
theorem message_who (id:Nat) (m:Msg) (xb xe:SV):BoolC P n_Qdw [.one (.optr id 0)] (λM=>M id=some (msgC m xb xe)) (whoB m.kind m.frm m.to):=boolC H.mx H.Qdw 0 λfz mu n k hfr gg b1 h=>by
 rw[dY a_Qdw.eq_1 b_Qdw.eq_1];unfold msgC at b1;have hle:=Nat.le_refl n;simp only[↓E1,E2,seval, *];repeat' (first|((with_reducible refine Qeo (λhb=>?_) (λhb=>?_))<;>simp only[↓E1,E2,seval, *])|((with_reducible refine CPr_f (f:=n_Qdl) ?_);((first|(refine(message_Node H _).d2 hfr (by first|trivial|assumption) ?_;rintro v mu2 n2 g2 rfl)|(refine(message_Node H _).d3 hfr (λhm=>by first|trivial) ?_;rintro v mu2 n2 g2 b1 rfl)|(refine(message_Node H _).c1 hfr (by first|trivial|assumption) ?_;rintro v mu2 n2 g2 rfl)|(refine(message_Node H _).c2 hfr (λhm=>by first|trivial) ?_;rintro v mu2 n2 g2 b1 rfl)|(refine(message_Node H _).c3 hfr (λhm=>by first|trivial) ?_;rintro v mu2 n2 g2 b1 b2 rfl));(try replace b1:=g2.old hfr b1);replace gg:=gg.trans (g2.weaken hle);replace hle:=Nat.le_trans hle g2.le;replace hfr:=g2.free;clear g2;simp only[↓E1,E2,seval, *]))|((with_reducible refine CPr_f (f:=n_Qct) ?_);((first|(refine(message_Client H _).d2 hfr (by first|trivial|assumption) ?_;rintro v mu2 n2 g2 rfl)|(refine(message_Client H _).d3 hfr (λhm=>by first|trivial) ?_;rintro v mu2 n2 g2 b1 rfl)|(refine(message_Client H _).c1 hfr (by first|trivial|assumption) ?_;rintro v mu2 n2 g2 rfl)|(refine(message_Client H _).c2 hfr (λhm=>by first|trivial) ?_;rintro v mu2 n2 g2 b1 rfl)|(refine(message_Client H _).c3 hfr (λhm=>by first|trivial) ?_;rintro v mu2 n2 g2 b1 b2 rfl));(try replace b1:=g2.old hfr b1);replace gg:=gg.trans (g2.weaken hle);replace hle:=Nat.le_trans hle g2.le;replace hfr:=g2.free;clear g2;simp only[↓E1,E2,seval, *])))
 all_goals (refine leafB h (by first|exact gg|exact gg.cons hle _|exact(gg.cons hle _).cons (Nat.le_succ_of_le hle) _) ?_;(try clear loop);(try clear u);clear h;first|(simp_all [whoB,isNode,Qgs];done)|(simp_all [whoB,isNode,Qgs];omega))
theorem message_fields (k0:Int) (h0:0<=k0) (h1:k0<17):Ctr P n_Qco [.one (I k0)] (λ_=>True) (λ_ _ M v=>∃id,v=.tp [.one (.osl id 0 (Qff k0).length (Qff k0).length 1),.one (.bool true)]/\M id=some ((Qff k0).map I)):=Ctr.of H.mx H.Qco (λ_=>0) λfz mu n k hfr _ h=>by
 rw[dY a_Qco.eq_1 b_Qco.eq_1];have gg:=Gr.refl (lo:=n) hfr;rcases kinds k0 h0 h1 with rfl|rfl|rfl|rfl|rfl|rfl|rfl|rfl|rfl|rfl|rfl|rfl|rfl|rfl|rfl|rfl|rfl
 all_goals
  simp only[↓E1,E2,seval];refine h _ _ _ ?_ ⟨_,rfl,?_⟩
  ·repeat (first|exact Gr.refl hfr|refine Gr.cons ?_ (by omega) _)
  ·repeat (first|(rw[Qfl,if_pos rfl])|(rw[Qfl,if_neg (by omega)]))
   rfl
theorem Qkm (k0:Int) (h0:¬(0<=k0/\k0<17)):Ctr P n_Qco [.one (I k0)] (λ_=>True) (λ_ _ M v=>v=.tp [.one .nsl,.one (.bool false)]):=Ctr.of H.mx H.Qco (λ_=>0) λfz mu n k hfr _ h=>by
 rw[dY a_Qco.eq_1 b_Qco.eq_1];have gg:=Gr.refl (lo:=n) hfr;simp only[↓E1,E2,seval];repeat' (first|((with_reducible refine Qeo (λhb=>?_) (λhb=>?_))<;>simp only[↓E1,E2,seval, *]))
 all_goals first
  |(refine h _ _ _ ?_ rfl;(repeat (first|exact Gr.refl hfr|refine Gr.cons ?_ (by omega) _));done)
  |(exfalso;clear h;simp_all;done)
  |(exfalso;clear h;simp_all;omega)
theorem message_May (m:Msg) (xb xe:SV):BoolC P n_Qdq [.ag (msgC m xb xe)] (fun M=>PtsR M xb m.batch/\EntsR M xe m.log.ents) (msgB m):=boolC H.mx H.Qdq 16 fun fz mu n k hfr gg s h=>by
 obtain⟨s1,s2⟩:=s;obtain⟨xl,xs,xk,xm⟩:=s1.len;obtain⟨yl,ys,yk,ym⟩:=s2.len;rw[dY a_Qdq.eq_1 b_Qdq.eq_1];have hle:=Nat.le_refl n;have hmc:msgC m xb xe=msgC m xb xe:=rfl;conv at hmc=>rhs;unfold msgC
 have z1:=s1;have z2:=s2;have hfr0:=hfr;by_cases hk:0<=m.kind/\m.kind<17
 ·have loop0:∀(e:Env) mu1 n1 (K:LK) w (fid hid:Nat),n<=hid->¬hid=fid->¬hid=n->Gr n fz mu mu1 n n1->with' mu1 fz n=some (msgC m xb xe)->with' mu1 fz fid=some ((Qff m.kind).map I)->Ev.look mu1 hid=some (hasL [])->
   e 0 1=.one (.optr n 0)->e 0 5=.one (.optr hid 0)->e 1 8=.one (.osl fid 0 (Qff m.kind).length (Qff m.kind).length 1)->e 1 9=.one (.int .i64 (Qff m.kind).length)->e 1 10=.one (.int .i64 0)->
   (∀e' mu' n',Gr n fz mu mu' n n'->with' mu' fz n=some (msgC m xb xe)->with' mu' fz hid=some (hasL (Qff m.kind))->e' 0 1=.one (.optr n 0)->e' 0 5=.one (.optr hid 0)->K (.exit 0) (tmE 141 e') mu' n')->
   Lp (dcode pOrc False (CP P) fz 16 l_Qdq_0) 16 (tmE 141 e) mu1 n1 K w:=by
   intro e mu1 n1 K w fid hid hh1 hh2 hh3 g1 a1 a2 a3 a4 a5 a6 a7 a8 hd;have hlen:=Qui m.kind hk;refine loopI (x:=0) (L:=(Qff m.kind).length) (p:=λ_=>true) (λi e mu' n'=>Gr n fz mu mu' n n'/\with' mu' fz n=some (msgC m xb xe)/\with' mu' fz fid=some ((Qff m.kind).map I)/\Ev.look mu' hid=some (hasL ((Qff m.kind).take i))/\
    e 0 1=.one (.optr n 0)/\e 0 5=.one (.optr hid 0)/\e 1 8=.one (.osl fid 0 (Qff m.kind).length (Qff m.kind).length 1)/\e 1 9=.one (.int .i64 (Qff m.kind).length)/\e 1 10=.one (.int .i64 i)) (λ_ _ _=>False) ?_ ?_ e mu1 n1 K w (by omega) ⟨g1,a1,a2,a3,a4,a5,a6,a7,a8⟩ ?_ (λ⟨_,_,_,h⟩=>by cases h)
   ·rintro i e mu n K hi ⟨g1,a1,a2,a3,a4,a5,a6,a7,a8⟩ hy _;obtain⟨j,hj,hv⟩:=Qu6 m.kind hk _ (List.getElem_mem hi);have hw:=Qev hi (by omega);have hB:List.take 1 (List.drop i ((Qff m.kind).map I))=[I j]:=by rw[<-List.map_drop,<-List.map_take,List.drop_eq_getElem_cons hi];simp[hv]
    have hmk:=mkd_ints (Qff m.kind);have hi1:i+1<=(Qff m.kind).length:=hi;have hj1:j+1<=15:=hj;have ho:=Qte ((Qff m.kind).take i) j hj;have ht:(Qff m.kind).take i++[(j:Int)]=(Qff m.kind).take (i+1):=by rw[List.take_succ_eq_append_getElem hi,hv]
    have hid1:=Gr.put (c:=hasL ((Qff m.kind).take (i+1))) g1 hh1 a3;have hnf:¬hid=fid:=hh2;rw[dX l_Qdq_0.eq_1];simp only[↓E1,E2,seval, *,Nat.mul_one,List.length_map,hasL_len,hasL_mkd];refine hy rfl _ _ _ ⟨hid1,?_,?_,?_,?_,?_,?_,?_,?_⟩
    ·rw[Qet a3,if_neg hh3];exact a1
    ·rw[Qet a3,if_neg hh2];exact a2
    ·rw[Qen,if_pos rfl,a3];rfl
    all_goals simp[updN,updE, *]
   ·rintro e mu n K hI hd;obtain⟨g1,a1,a2,a3,a4,a5,a6,a7,a8⟩:=id hI;rw[dX l_Qdq_0.eq_1];have hlt:((Qff m.kind).length<(Qff m.kind).length)=False:=by simp
    simp only[↓E1,E2,seval, *];all_goals refine hd _ _ _ ⟨g1,a1,a2,a3,by simp[updN,updE, *],by simp[updN,updE, *],by simp[updN,updE, *],by simp[updN,updE, *],by simp[updN,updE, *]⟩
   ·rintro _ e' mu' n' ⟨g1,a1,a2,a3,a4,a5,a6,a7,a8⟩;refine hd e' mu' n' g1 a1 ?_ a4 a5;rw[List.take_length]at a3;exact Qem a3
  have loop1:∀(e:Env) mu1 n1 (K:LK) w (hid:Nat),¬hid=n->Gr n fz mu mu1 n n1->with' mu1 fz n=some (msgC m xb xe)->with' mu1 fz hid=some (hasL (Qff m.kind))->
   e 0 1=.one (.optr n 0)->e 0 5=.one (.optr hid 0)->e 2 1=.one (.int .i64 0)->
   ((List.range 15).all (Qiz m)=true->∀e' mu' n',Gr n fz mu mu' n n'->with' mu' fz n=some (msgC m xb xe)->with' mu' fz hid=some (hasL (Qff m.kind))->e' 0 1=.one (.optr n 0)->e' 0 5=.one (.optr hid 0)->K (.exit 2) (tmE 141 e') mu' n')->
   ((List.range 15).all (Qiz m)=false->∀e' mu' n',Gr n fz mu mu' n n'->e' 0 2=.one (.bool false)->K .ret (tmE 141 e') mu' n')->
   Lp (dcode pOrc False (CP P) fz 16 l_Qdq_1) 16 (tmE 141 e) mu1 n1 K w:=by
   intro e mu1 n1 K w hid hh3 g1 a1 a2 a3 a4 a5 hd hr;refine loopI (x:=2) (L:=15) (p:=Qiz m) (λi e mu' n'=>Gr n fz mu mu' n n'/\with' mu' fz n=some (msgC m xb xe)/\with' mu' fz hid=some (hasL (Qff m.kind))/\
    e 0 1=.one (.optr n 0)/\e 0 5=.one (.optr hid 0)/\e 2 1=.one (.int .i64 i)) (λe mu' n'=>Gr n fz mu mu' n n'/\e 0 2=.one (.bool false)) ?_ ?_ e mu1 n1 K w (by omega) ⟨g1,a1,a2,a3,a4,a5⟩ (λha e' mu' n' hI=>hd (Qh0 ha) e' mu' n' hI.1 hI.2.1 hI.2.2.1 hI.2.2.2.1 hI.2.2.2.2.1) (λhx e' mu' n' hR=>hr (Qf1 hx) e' mu' n' hR.1 hR.2)
   ·rintro i e mu1 n1 K hi ⟨g1,b1,b2,a3,a4,a5⟩ hy hn;have hfr0:=hfr;have hfr:=g1.free;have gg:=Gr.refl (lo:=n1) hfr;have hle:=Nat.le_refl n1;clear hd hr h;unfold msgC at b1;unfold hasL at b2;rw[dX l_Qdq_1.eq_1];rcases lits i hi with rfl|rfl|rfl|rfl|rfl|rfl|rfl|rfl|rfl|rfl|rfl|rfl|rfl|rfl|rfl
    all_goals simp only[↓E1,E2,seval, *]
    repeat' (first|((with_reducible refine Qeo (λhb=>?_) (λhb=>?_))<;>simp only[↓E1,E2,seval, *,numP])|((with_reducible refine CPr_f (f:=n_Qcp) ?_);((first|(refine(message_number H _ _ _).d2 hfr (by first|trivial|assumption) ?_;rintro v mu2 n2 g2 rfl)|(refine(message_number H _ _ _).d3 hfr (λhm=>by first|trivial) ?_;rintro v mu2 n2 g2 b1 rfl)|(refine(message_number H _ _ _).c1 hfr (by first|trivial|assumption) ?_;rintro v mu2 n2 g2 rfl)|(refine(message_number H _ _ _).c2 hfr (λhm=>by first|trivial) ?_;rintro v mu2 n2 g2 b1 rfl)|(refine(message_number H _ _ _).c3 hfr (λhm=>by first|trivial) ?_;rintro v mu2 n2 g2 b1 b2 rfl));(try replace b1:=g2.old hfr b1);(try replace b2:=g2.old hfr b2);replace gg:=gg.trans (g2.weaken hle);replace hle:=Nat.le_trans hle g2.le;replace hfr:=g2.free;clear g2;simp only[↓E1,E2,seval, *,numP]))|((with_reducible refine CPr_f (f:=n_Qcq) ?_);((first|(refine(message_limits H _ _).d2 hfr (by first|trivial|assumption) ?_;rintro v mu2 n2 g2 rfl)|(refine(message_limits H _ _).d3 hfr (λhm=>by first|trivial) ?_;rintro v mu2 n2 g2 b1 rfl)|(refine(message_limits H _ _).c1 hfr (by first|trivial|assumption) ?_;rintro v mu2 n2 g2 rfl)|(refine(message_limits H _ _).c2 hfr (λhm=>by first|trivial) ?_;rintro v mu2 n2 g2 b1 rfl)|(refine(message_limits H _ _).c3 hfr (λhm=>by first|trivial) ?_;rintro v mu2 n2 g2 b1 b2 rfl));(try replace b1:=g2.old hfr b1);(try replace b2:=g2.old hfr b2);replace gg:=gg.trans (g2.weaken hle);replace hle:=Nat.le_trans hle g2.le;replace hfr:=g2.free;clear g2;simp only[↓E1,E2,seval, *,numP])))
    all_goals first
     |(refine hy (by clear hy hn loop0 b1 b2;first|(simp_all [Qiz,numV,hasF];done)|(simp_all [Qiz,numV,hasF];omega)) _ _ _ ⟨g1.trans (gg.weaken g1.le),b1,b2,?_,?_,?_⟩<;>simp[updN,updE, *];done)
     |(refine hn (by clear hy hn loop0 b1 b2;first|(simp_all [Qiz,numV,hasF];done)|(simp_all [Qiz,numV,hasF];omega)) _ _ _ ⟨g1.trans (gg.weaken g1.le),?_⟩;simp[updN,updE, *];done)
   ·rintro e mu n K hI hd;obtain⟨g1,a1,a2,a3,a4,a5⟩:=id hI;rw[dX l_Qdq_1.eq_1];have hlt:((15:Int)<15)=False:=by simp
    simp only[↓E1,E2,seval, *];all_goals refine hd _ _ _ ⟨g1,a1,a2,by simp[updN,updE, *],by simp[updN,updE, *],by simp[updN,updE, *]⟩
  have ho:=Qte;simp only[↓E1,E2,seval, *];refine(message_fields H m.kind hk.1 hk.2).c2 hfr (λ_=>trivial) ?_;rintro v mu2 n2 g2 b1 ⟨fid,rfl,b3⟩;(try replace b1:=g2.old hfr b1);(try replace b3:=g2.old hfr b3);(try replace s1:=PtsR.mono (λ_ _ hh=>g2.old hfr hh) s1);(try replace s2:=EntsR.mono (λ_ _ hh=>g2.old hfr hh) s2);replace gg:=gg.trans (g2.weaken hle);replace hle:=Nat.le_trans hle g2.le;replace hfr:=g2.free;clear g2
  simp only[↓E1,E2,seval, *];repeat' (first|((with_reducible refine Qeo (λhb=>?_) (λhb=>?_))<;>simp only[↓E1,E2,seval, *])|((with_reducible refine CPr_f (f:=n_Qdw) ?_);((first|(refine(message_who H n m xb xe).d2 hfr (by first|trivial|exact s1|exact s2|assumption) ?_;rintro v mu2 n2 g2 rfl)|(refine(message_who H n m xb xe).d3 hfr (λhm=>by first|trivial|exact PtsR.mono hm s1|exact EntsR.mono hm s2) ?_;rintro v mu2 n2 g2 b1 rfl)|(refine(message_who H n m xb xe).c1 hfr (by first|trivial|exact s1|exact s2|assumption) ?_;rintro v mu2 n2 g2 rfl)|(refine(message_who H n m xb xe).c2 hfr (λhm=>by first|trivial|exact PtsR.mono hm s1|exact EntsR.mono hm s2) ?_;rintro v mu2 n2 g2 b1 rfl)|(refine(message_who H n m xb xe).c3 hfr (λhm=>by first|trivial|exact PtsR.mono hm s1|exact EntsR.mono hm s2) ?_;rintro v mu2 n2 g2 b1 b2 rfl));(try replace b1:=g2.old hfr b1);(try replace b3:=g2.old hfr b3);(try replace s1:=PtsR.mono (λ_ _ hh=>g2.old hfr hh) s1);(try replace s2:=EntsR.mono (λ_ _ hh=>g2.old hfr hh) s2);replace gg:=gg.trans (g2.weaken hle);replace hle:=Nat.le_trans hle g2.le;replace hfr:=g2.free;clear g2;simp only[↓E1,E2,seval, *])))
  all_goals try (refine leafB h (by exact gg) (by clear loop0 loop1 h;simp_all [msgB]);done)
  have hf1:=hfr.lt b3;have hf2:=hfr.lt b1;have hbx:∀id c,with' mu2 fz id=some c->with' ((n2,hasL [])::mu2) fz id=some c:=λid c hh=>by rw[Qfl,if_neg (by have:=hfr.lt hh;omega)];exact hh
  refine loop0 _ _ _ _ _ fid n2 hle (by omega) (by omega) (gg.cons hle _) (hbx _ _ b1) (hbx _ _ b3) Qnj (by simp[updN,updE]) (by simp[updN,updE]) (by simp[updN,updE]) (by simp[updN,updE]) (by simp[updN,updE]) ?_;clear b1 b3 s1 s2;intro e3 mu3 n3 g3 b1 b2 a1 a2;simp only[↓E1,E2,seval, *];refine loop1 _ _ _ _ _ n2 (by omega) g3 b1 b2 (by simp[updN,updE, *]) (by simp[updN,updE, *]) (by simp[updN,updE, *]) ?_ ?_
  ·intro hall e4 mu4 n4 g4 b1 b2 a1 a2;unfold msgC at b1;unfold hasL at b2;have s1:=PtsR.mono (λ_ _ hh=>g4.old hfr0 hh) z1;have s2:=EntsR.mono (λ_ _ hh=>g4.old hfr0 hh) z2;have hfr:=g4.free;have gg:=g4;have hle:=g4.le;clear loop0 loop1 g3;simp only[↓E1,E2,seval, *,Qe7];repeat' (first|((with_reducible refine Qeo (λhb=>?_) (λhb=>?_))<;>simp only[↓E1,E2,seval, *,Qe7])|((with_reducible refine CPr_f (f:=n_Qd7) ?_);((first|(refine(point_Name H m.series).d2 hfr (by first|trivial|exact s1|exact s2|assumption) ?_;rintro v mu2 n2 g2 rfl)|(refine(point_Name H m.series).d3 hfr (λhm=>by first|trivial|exact PtsR.mono hm s1|exact EntsR.mono hm s2) ?_;rintro v mu2 n2 g2 b1 rfl)|(refine(point_Name H m.series).c1 hfr (by first|trivial|exact s1|exact s2|assumption) ?_;rintro v mu2 n2 g2 rfl)|(refine(point_Name H m.series).c2 hfr (λhm=>by first|trivial|exact PtsR.mono hm s1|exact EntsR.mono hm s2) ?_;rintro v mu2 n2 g2 b1 rfl)|(refine(point_Name H m.series).c3 hfr (λhm=>by first|trivial|exact PtsR.mono hm s1|exact EntsR.mono hm s2) ?_;rintro v mu2 n2 g2 b1 b2 rfl));(try replace b1:=g2.old hfr b1);(try replace b2:=g2.old hfr b2);(try replace s1:=PtsR.mono (λ_ _ hh=>g2.old hfr hh) s1);(try replace s2:=EntsR.mono (λ_ _ hh=>g2.old hfr hh) s2);replace gg:=gg.trans (g2.weaken hle);replace hle:=Nat.le_trans hle g2.le;replace hfr:=g2.free;clear g2;simp only[↓E1,E2,seval, *,Qe7]))|((with_reducible refine CPr_f (f:=n_Qds) ?_);((first|(refine(point_Batch H xb m.batch).d2 hfr (by first|trivial|exact s1|exact s2|assumption) ?_;rintro v mu2 n2 g2 rfl)|(refine(point_Batch H xb m.batch).d3 hfr (λhm=>by first|trivial|exact PtsR.mono hm s1|exact EntsR.mono hm s2) ?_;rintro v mu2 n2 g2 b1 rfl)|(refine(point_Batch H xb m.batch).c1 hfr (by first|trivial|exact s1|exact s2|assumption) ?_;rintro v mu2 n2 g2 rfl)|(refine(point_Batch H xb m.batch).c2 hfr (λhm=>by first|trivial|exact PtsR.mono hm s1|exact EntsR.mono hm s2) ?_;rintro v mu2 n2 g2 b1 rfl)|(refine(point_Batch H xb m.batch).c3 hfr (λhm=>by first|trivial|exact PtsR.mono hm s1|exact EntsR.mono hm s2) ?_;rintro v mu2 n2 g2 b1 b2 rfl));(try replace b1:=g2.old hfr b1);(try replace b2:=g2.old hfr b2);(try replace s1:=PtsR.mono (λ_ _ hh=>g2.old hfr hh) s1);(try replace s2:=EntsR.mono (λ_ _ hh=>g2.old hfr hh) s2);replace gg:=gg.trans (g2.weaken hle);replace hle:=Nat.le_trans hle g2.le;replace hfr:=g2.free;clear g2;simp only[↓E1,E2,seval, *,Qe7]))|((with_reducible refine CPr_f (f:=n_Qcm) ?_);((first|(refine(message_MayLog H m.log xe).d2 hfr (by first|trivial|exact s1|exact s2|assumption) ?_;rintro v mu2 n2 g2 rfl)|(refine(message_MayLog H m.log xe).d3 hfr (λhm=>by first|trivial|exact PtsR.mono hm s1|exact EntsR.mono hm s2) ?_;rintro v mu2 n2 g2 b1 rfl)|(refine(message_MayLog H m.log xe).c1 hfr (by first|trivial|exact s1|exact s2|assumption) ?_;rintro v mu2 n2 g2 rfl)|(refine(message_MayLog H m.log xe).c2 hfr (λhm=>by first|trivial|exact PtsR.mono hm s1|exact EntsR.mono hm s2) ?_;rintro v mu2 n2 g2 b1 rfl)|(refine(message_MayLog H m.log xe).c3 hfr (λhm=>by first|trivial|exact PtsR.mono hm s1|exact EntsR.mono hm s2) ?_;rintro v mu2 n2 g2 b1 b2 rfl));(try replace b1:=g2.old hfr b1);(try replace b2:=g2.old hfr b2);(try replace s1:=PtsR.mono (λ_ _ hh=>g2.old hfr hh) s1);(try replace s2:=EntsR.mono (λ_ _ hh=>g2.old hfr hh) s2);replace gg:=gg.trans (g2.weaken hle);replace hle:=Nat.le_trans hle g2.le;replace hfr:=g2.free;clear g2;simp only[↓E1,E2,seval, *,Qe7])))
   all_goals (refine leafB h gg ?_;clear h b1 b2 z1 z2 ho hbx hmc xl yl;unfold msgB hasF;rw[hall];first|(simp_all [-List.length_eq_zero_iff];done)|(simp_all [-List.length_eq_zero_iff];omega))
  ·intro hall e4 mu4 n4 g4 a1;simp only[↓E1,E2,seval, *];exact leafB h g4 (by unfold msgB;rw[hall];simp)
 ·have hf:=Qkm H m.kind hk;unfold msgC;simp only[↓E1,E2,seval, *];refine hf.c2 hfr (λ_=>trivial) ?_;rintro v mu2 n2 g2 b1 rfl;simp only[↓E1,E2,seval, *];exact leafB h g2 (by unfold msgB;simp;omega)
end
def prim (v k:Int):Int:=if k<1\/v<0 then 0 else v.tmod k
def Qgj (r:Rep):Bool:=decide (prim r.view r.nodes=r.me)
def leadB (r:Rep):Bool:=Qgj r&&decide (r.status=0)
def stepC (r:Rep) (xe xa xs xd xo:SV) (vd:Bool):List SV:=repC r xe xa xs xd++[xo,.bool vd]
section
variable {P:Program} (H:Fs P)
include H
theorem ref1_Count (x:Int):BoolC P n_Qd4 [.one (I x)] (λ_=>True) (countB x):=boolC H.mx H.Qd4 0 λfz mu n k hfr gg _ h=>by
 rw[dY a_Qd4.eq_1 b_Qd4.eq_1];have hA:True:=trivial;have hle:=Nat.le_refl n;simp only[↓E1,E2,seval];repeat' (first|((with_reducible refine Qeo (λhb=>?_) (λhb=>?_))<;>(replace hA:=And.intro hA hb;clear hb;simp only[↓E1,E2,seval, *])))
 all_goals try (refine leafB h (by first|exact gg|exact gg.cons hle _|exact(gg.cons hle _).cons (Nat.le_succ_of_le hle) _) ?_;(clear h gg hle hfr);(try clear loop);(try clear loop0);(try clear loop1);(try clear s1);(try clear s2);(try clear s3);(try clear s4);(try clear b1);(try clear b2);skip;first|(simp_all [countB];done)|(simp_all [countB];omega))
theorem ref1_Small (x:Int):BoolC P n_Qea [.one (I x)] (λ_=>True) (Qi4 x):=boolC H.mx H.Qea 0 λfz mu n k hfr gg _ h=>by
 rw[dY a_Qea.eq_1 b_Qea.eq_1];have hA:True:=trivial;have hle:=Nat.le_refl n;simp only[↓E1,E2,seval];repeat' (first|((with_reducible refine Qeo (λhb=>?_) (λhb=>?_))<;>(replace hA:=And.intro hA hb;clear hb;simp only[↓E1,E2,seval, *])))
 all_goals try (refine leafB h (by first|exact gg|exact gg.cons hle _|exact(gg.cons hle _).cons (Nat.le_succ_of_le hle) _) ?_;(clear h gg hle hfr);(try clear loop);(try clear loop0);(try clear loop1);(try clear s1);(try clear s2);(try clear s3);(try clear s4);(try clear b1);(try clear b2);skip;first|(simp_all [Qi4];done)|(simp_all [Qi4];omega))
theorem ref4_client (x:Int):BoolC P n_Qdy [.one (I x)] (λ_=>True) (Qgs x):=boolC H.mx H.Qdy 0 λfz mu n k hfr gg _ h=>by
 rw[dY a_Qdy.eq_1 b_Qdy.eq_1];have hA:True:=trivial;have hle:=Nat.le_refl n;simp only[↓E1,E2,seval];repeat' (first|((with_reducible refine Qeo (λhb=>?_) (λhb=>?_))<;>(replace hA:=And.intro hA hb;clear hb;simp only[↓E1,E2,seval, *])))
 all_goals try (refine leafB h (by first|exact gg|exact gg.cons hle _|exact(gg.cons hle _).cons (Nat.le_succ_of_le hle) _) ?_;(clear h gg hle hfr);(try clear loop);(try clear loop0);(try clear loop1);(try clear s1);(try clear s2);(try clear s3);(try clear s4);(try clear b1);(try clear b2);skip;first|(simp_all [Qgs];done)|(simp_all [Qgs];omega))
theorem ref4_node (x:Int):BoolC P n_Qed [.one (I x)] (λ_=>True) (isNode x):=boolC H.mx H.Qed 0 λfz mu n k hfr gg _ h=>by
 rw[dY a_Qed.eq_1 b_Qed.eq_1];have hA:True:=trivial;have hle:=Nat.le_refl n;simp only[↓E1,E2,seval];repeat' (first|((with_reducible refine Qeo (λhb=>?_) (λhb=>?_))<;>(replace hA:=And.intro hA hb;clear hb;simp only[↓E1,E2,seval, *])))
 all_goals try (refine leafB h (by first|exact gg|exact gg.cons hle _|exact(gg.cons hle _).cons (Nat.le_succ_of_le hle) _) ?_;(clear h gg hle hfr);(try clear loop);(try clear loop0);(try clear loop1);(try clear s1);(try clear s2);(try clear s3);(try clear s4);(try clear b1);(try clear b2);skip;first|(simp_all [isNode];done)|(simp_all [isNode];omega))
theorem ref16_Nodes (x:Int):BoolC P n_Qdt [.one (I x)] (λ_=>True) (Qj1 x):=boolC H.mx H.Qdt 0 λfz mu n k hfr gg _ h=>by
 rw[dY a_Qdt.eq_1 b_Qdt.eq_1];have hA:True:=trivial;have hle:=Nat.le_refl n;simp only[↓E1,E2,seval];repeat' (first|((with_reducible refine Qeo (λhb=>?_) (λhb=>?_))<;>(replace hA:=And.intro hA hb;clear hb;simp only[↓E1,E2,seval, *])))
 all_goals try (refine leafB h (by first|exact gg|exact gg.cons hle _|exact(gg.cons hle _).cons (Nat.le_succ_of_le hle) _) ?_;(clear h gg hle hfr);(try clear loop);(try clear loop0);(try clear loop1);(try clear s1);(try clear s2);(try clear s3);(try clear s4);(try clear b1);(try clear b2);skip;first|(simp_all [Qj1];done)|(simp_all [Qj1];omega))
theorem ref16_Last (l:Lg) (x:SV):Ctr P n_Qd2 [.ag (lgC l x)] (λM=>EntsR M x l.ents) (λ_ _ _ v=>v=.one (I (last l))):=Ctr.of H.mx H.Qd2 (λ_=>0) λfz mu n k hfr hx hk=>by
 obtain⟨xl,xs,xk,xm⟩:=hx.len;rw[dY a_Qd2.eq_1 b_Qd2.eq_1];unfold lgC;simp only[↓E1,E2,seval,xl,xs,xk,xm];exact hk _ _ _ ((Gr.refl hfr).cons (Nat.le_refl _) _) rfl
theorem replica_Primary (v k0:Int):Ctr P n_Qb5 [.one (I v),.one (I k0)] (λ_=>True) (λ_ _ _ w=>w=.one (I (prim v k0))):=Ctr.of H.mx H.Qb5 (λ_=>0) λfz mu n k hfr _ h=>by
 rw[dY a_Qb5.eq_1 b_Qb5.eq_1];have gg:=Gr.refl (lo:=n) hfr;have hA:True:=trivial;have hle:=Nat.le_refl n;simp only[↓E1,E2,seval];repeat' (first|((with_reducible refine Qeo (λhb=>?_) (λhb=>?_))<;>(replace hA:=And.intro hA hb;clear hb;simp only[↓E1,E2,seval, *])))
 all_goals try (refine h _ _ _ gg ?_;clear h;simp_all [prim];done)
 have hz:¬k0=0:=by simp at hA;omega
 simp only[↓E1,E2,seval,hz];refine h _ _ _ gg ?_;simp at hA;simp[prim];omega
theorem ref16_Primary (v k0:Int):Ctr P n_Qc4 [.one (I v),.one (I k0)] (λ_=>True) (λ_ _ _ w=>w=.one (I (prim v k0))):=Ctr.of H.mx H.Qc4 (λ_=>0) λfz mu n k hfr _ h=>by
 rw[dY a_Qc4.eq_1 b_Qc4.eq_1];have gg:=Gr.refl (lo:=n) hfr;have hA:True:=trivial;have hle:=Nat.le_refl n;simp only[↓E1,E2,seval];repeat' (first|((with_reducible refine Qeo (λhb=>?_) (λhb=>?_))<;>(replace hA:=And.intro hA hb;clear hb;simp only[↓E1,E2,seval, *])))
 all_goals try (refine h _ _ _ gg ?_;clear h;simp_all [prim];done)
 have hz:¬k0=0:=by simp at hA;omega
 simp only[↓E1,E2,seval,hz];refine h _ _ _ gg ?_;simp at hA;simp[prim];omega
theorem replica_step_leads (id:Nat) (r:Rep) (xe xa xs xd xo:SV) (vd:Bool):BoolC P n_Qa5 [.one (.optr id 0)] (λM=>M id=some (stepC r xe xa xs xd xo vd)) (Qgj r):=boolC H.mx H.Qa5 0 λfz mu n k hfr gg b1 h=>by
 rw[dY a_Qa5.eq_1 b_Qa5.eq_1];unfold stepC repC at b1;have b9:=b1;have hA:True:=trivial;have hle:=Nat.le_refl n;simp only[↓E1,E2,seval, *];repeat' (first|((with_reducible refine Qeo (λhb=>?_) (λhb=>?_))<;>(replace hA:=And.intro hA hb;clear hb;simp only[↓E1,E2,seval, *]))|((with_reducible refine CPr_f (f:=n_Qb5) ?_);((first|(refine(replica_Primary H _ _).d2 hfr (by first|trivial|assumption) ?_;rintro v mu2 n2 g2 rfl)|(refine(replica_Primary H _ _).d3 hfr (λhm=>by first|trivial) ?_;rintro v mu2 n2 g2 b1 rfl)|(refine(replica_Primary H _ _).c1 hfr (by first|trivial|assumption) ?_;rintro v mu2 n2 g2 rfl)|(refine(replica_Primary H _ _).c2 hfr (λhm=>by first|trivial) ?_;rintro v mu2 n2 g2 b1 rfl)|(refine(replica_Primary H _ _).c3 hfr (λhm=>by first|trivial) ?_;rintro v mu2 n2 g2 b1 b2 rfl));(try replace b1:=g2.old hfr b1);replace gg:=gg.trans (g2.weaken hle);replace hle:=Nat.le_trans hle g2.le;replace hfr:=g2.free;clear g2;simp only[↓E1,E2,seval, *])))
 all_goals try (refine leafB h (by first|exact gg|exact gg.cons hle _|exact(gg.cons hle _).cons (Nat.le_succ_of_le hle) _) ?_;(clear h gg hle hfr);(try clear loop);(try clear loop0);(try clear loop1);(try clear s1);(try clear s2);(try clear s3);(try clear s4);(try clear b1);(try clear b2);clear b9;first|(simp_all [Qgj];done)|(simp_all [Qgj];omega))
theorem replica_step_normal (id:Nat) (r:Rep) (xe xa xs xd xo:SV) (vd:Bool):BoolC P n_Qaw [.one (.optr id 0)] (λM=>M id=some (stepC r xe xa xs xd xo vd)) (leadB r):=boolC H.mx H.Qaw 0 λfz mu n k hfr gg b1 h=>by
 rw[dY a_Qaw.eq_1 b_Qaw.eq_1];have b0:=b1;unfold stepC repC at b1;have hA:True:=trivial;have hle:=Nat.le_refl n;simp only[↓E1,E2,seval, *];repeat' (first|((with_reducible refine Qeo (λhb=>?_) (λhb=>?_))<;>(replace hA:=And.intro hA hb;clear hb;simp only[↓E1,E2,seval, *]))|((with_reducible refine CPr_f (f:=n_Qa5) ?_);((first|(refine(replica_step_leads H id r xe xa xs xd xo vd).d2 hfr (by first|trivial|assumption) ?_;rintro v mu2 n2 g2 rfl)|(refine(replica_step_leads H id r xe xa xs xd xo vd).d3 hfr (λhm=>by first|trivial) ?_;rintro v mu2 n2 g2 b1 rfl)|(refine(replica_step_leads H id r xe xa xs xd xo vd).c1 hfr (by first|trivial|assumption) ?_;rintro v mu2 n2 g2 rfl)|(refine(replica_step_leads H id r xe xa xs xd xo vd).c2 hfr (λhm=>by first|trivial) ?_;rintro v mu2 n2 g2 b1 rfl)|(refine(replica_step_leads H id r xe xa xs xd xo vd).c3 hfr (λhm=>by first|trivial) ?_;rintro v mu2 n2 g2 b1 b2 rfl));(try replace b1:=g2.old hfr b1);(try replace b0:=g2.old hfr b0);replace gg:=gg.trans (g2.weaken hle);replace hle:=Nat.le_trans hle g2.le;replace hfr:=g2.free;clear g2;simp only[↓E1,E2,seval, *])))
 all_goals try (refine leafB h (by first|exact gg|exact gg.cons hle _|exact(gg.cons hle _).cons (Nat.le_succ_of_le hle) _) ?_;(clear h gg hle hfr);(try clear loop);(try clear loop0);(try clear loop1);(try clear s1);(try clear s2);(try clear s3);(try clear s4);(try clear b1);(try clear b2);clear b0;first|(simp_all [leadB];done)|(simp_all [leadB];omega))
theorem ref1_Name (t:Tx):BoolC P n_Qee [.one t.sv] (λ_=>True) (nameB t):=boolC H.mx H.Qee 14 λfz mu n k hfr gg _ h=>by
 rw[dY a_Qee.eq_1 b_Qee.eq_1];have hA:True:=trivial;have hle:=Nat.le_refl n;simp only[↓E1,E2,seval];repeat' (first|((with_reducible refine Qeo (λhb=>?_) (λhb=>?_))<;>(replace hA:=And.intro hA hb;clear hb;simp only[↓E1,E2,seval, *])))
 all_goals try (refine leafB h (by first|exact gg|exact gg.cons hle _|exact(gg.cons hle _).cons (Nat.le_succ_of_le hle) _) ?_;(clear h gg hle hfr);(try clear loop);(try clear loop0);(try clear loop1);(try clear s1);(try clear s2);(try clear s3);(try clear s4);(try clear b1);(try clear b2);skip;first|(simp_all [nameB];done)|(simp_all [nameB];omega))
 obtain⟨⟨-,h1⟩,h2⟩:=hA;have hl:t.l<=12:=by simp at h2;omega
 have hl1:1<=t.l:=by simp at h1;omega
 refine loopI (x:=0) (L:=t.l) (p:=λi=>Qqk (Qpu t.l t.n i)) (λi e mu' n'=>Gr n fz mu mu' n n'/\e 0 0=.one t.sv/\e 0 3=.one (.int .i64 i)) (λe mu' n'=>Gr n fz mu mu' n n'/\e 0 2=.one (.bool false)) ?_ ?_ _ mu n _ _ (by omega) ⟨gg,by simp[updN,updE,envI],by simp[updN,updE]⟩ ?_ ?_
 ·rintro i e mu1 n1 K hi ⟨g1,h0,hc⟩ hy hn;rw[dX l_Qee_0.eq_1];have hw:=Qev hi (by omega);obtain⟨b,hbe⟩:∃b,t.n/256^(t.l-1-i)%256=b:=⟨_,rfl⟩
  rw[show Qpu t.l t.n i=b from hbe,Qxh]at hy hn;clear h;have hA:True:=trivial;simp only[↓E1,E2,seval,h0,hc,hi,hbe];repeat' ((with_reducible refine Qeo (λhb=>?_) (λhb=>?_))<;>(replace hA:=And.intro hA hb;clear hb;simp only[↓E1,E2,seval,hA,hc,hw,hbe]))
  all_goals first
   |(refine hn (by clear hy hn hbe;simp_all;try omega) _ _ _ ⟨g1,?_⟩;simp[updN,updE];done)
   |(refine hy (by clear hy hn hbe;simp_all;try omega) _ _ _ ⟨g1,?_,?_⟩<;>simp[updN,updE,h0];done)
 ·rintro e mu1 n1 K ⟨g1,h0,hc⟩ hx;rw[dX l_Qee_0.eq_1];have hlt:(t.l<t.l)=False:=by simp
  simp only[↓E1,E2,seval,h0,hc,hlt];exact hx _ _ _ ⟨g1,by simp[updN,updE,h0],by simp[updN,updE,hc]⟩
 ·intro ha e' mu' n' ⟨g,_⟩;simp only[↓E1,E2,seval];exact leafB h g (by unfold nameB;simp[hl,hl1,Qh0 ha])
 ·intro hx e' mu' n' ⟨g,hR⟩;simp only[↓E1,E2,seval,hR];exact leafB h g (by unfold nameB;rw[Qf1 hx];simp)
theorem ref1_May (p:Pt):BoolC P n_Qej [.ag (ptC p)] (λ_=>True) (ptB p):=boolC H.mx H.Qej 0 λfz mu n k hfr gg _ h=>by
 rw[dY a_Qej.eq_1 b_Qej.eq_1];unfold ptC;have hA:True:=trivial;have hle:=Nat.le_refl n;simp only[↓E1,E2,seval];repeat' (first|((with_reducible refine Qeo (λhb=>?_) (λhb=>?_))<;>(replace hA:=And.intro hA hb;clear hb;simp only[↓E1,E2,seval, *]))|((with_reducible refine CPr_f (f:=n_Qee) ?_);((first|(refine(ref1_Name H p.series).d2 hfr (by first|trivial|assumption) ?_;rintro v mu2 n2 g2 rfl)|(refine(ref1_Name H p.series).d3 hfr (λhm=>by first|trivial) ?_;rintro v mu2 n2 g2 b1 rfl)|(refine(ref1_Name H p.series).c1 hfr (by first|trivial|assumption) ?_;rintro v mu2 n2 g2 rfl)|(refine(ref1_Name H p.series).c2 hfr (λhm=>by first|trivial) ?_;rintro v mu2 n2 g2 b1 rfl)|(refine(ref1_Name H p.series).c3 hfr (λhm=>by first|trivial) ?_;rintro v mu2 n2 g2 b1 b2 rfl));(try replace b1:=g2.old hfr b1);replace gg:=gg.trans (g2.weaken hle);replace hle:=Nat.le_trans hle g2.le;replace hfr:=g2.free;clear g2;simp only[↓E1,E2,seval, *]))|((with_reducible refine CPr_f (f:=n_Qea) ?_);((first|(refine(ref1_Small H _).d2 hfr (by first|trivial|assumption) ?_;rintro v mu2 n2 g2 rfl)|(refine(ref1_Small H _).d3 hfr (λhm=>by first|trivial) ?_;rintro v mu2 n2 g2 b1 rfl)|(refine(ref1_Small H _).c1 hfr (by first|trivial|assumption) ?_;rintro v mu2 n2 g2 rfl)|(refine(ref1_Small H _).c2 hfr (λhm=>by first|trivial) ?_;rintro v mu2 n2 g2 b1 rfl)|(refine(ref1_Small H _).c3 hfr (λhm=>by first|trivial) ?_;rintro v mu2 n2 g2 b1 b2 rfl));(try replace b1:=g2.old hfr b1);replace gg:=gg.trans (g2.weaken hle);replace hle:=Nat.le_trans hle g2.le;replace hfr:=g2.free;clear g2;simp only[↓E1,E2,seval, *])))
 all_goals try (refine leafB h (by first|exact gg|exact gg.cons hle _|exact(gg.cons hle _).cons (Nat.le_succ_of_le hle) _) ?_;(clear h gg hle hfr);(try clear loop);(try clear loop0);(try clear loop1);(try clear s1);(try clear s2);(try clear s3);(try clear s4);(try clear b1);(try clear b2);skip;first|(simp_all [ptB];done)|(simp_all [ptB];omega))
theorem ref1_Batch (x:SV) (l:List Pt) (hl:l.length<=1152921504606846976):BoolC P n_Qd5 [.one x] (λM=>PtsR M x l) (Qip l):=boolC H.mx H.Qd5 (l.length+1) λfz mu n k hfr gg s1 h=>by
 obtain⟨xl,xs,xk,xm⟩:=s1.len;have hfr0:=hfr;rw[dY a_Qd5.eq_1 b_Qd5.eq_1];have hA:True:=trivial;have hle:=Nat.le_refl n;simp only[↓E1,E2,seval, *];refine loopI (x:=0) (L:=l.length) (p:=λi=>(l[i]?.map ptB).getD true) (λi e mu' n'=>Gr n fz mu mu' n n'/\e 0 0=.one x/\e 0 3=.one (.int .i64 i)) (λe mu' n'=>Gr n fz mu mu' n n'/\e 0 2=.one (.bool false)) ?_ ?_ _ mu n _ _ (by omega) ⟨gg,by simp[updN,updE,envI],by simp[updN,updE]⟩ ?_ ?_
 ·rintro i e mu1 n1 K hi ⟨g1,h0,hc⟩ hy hn;have s2:=PtsR.mono (λ_ _ hh=>g1.old hfr0 hh) s1;obtain⟨id,off,cap,B,rfl,hB,hmk,hbd,hsub⟩:=s2.elem hi;rw[dX l_Qd5_0.eq_1];have hw:=Qev hi (by omega);simp only[↓E1,E2,seval,h0,hc,hi,hB,hmk,hbd,hsub];refine(ref1_May H l[i]).c1 g1.free trivial ?_;rintro v mu' n' g rfl;have g2:=g1.trans (g.weaken g1.le);cases hp:ptB l[i]with
  |true=>
   simp only[↓E1,E2,seval,hc,hw];exact hy (by simp[hi,hp]) _ _ _ ⟨g2,by simp[updN,updE,h0],by simp[updN,updE]⟩
  |false=>
   simp only[↓E1,E2,seval];exact hn (by simp[hi,hp]) _ _ _ ⟨g2,by simp[updN,updE]⟩
 ·rintro e mu1 n1 K ⟨g1,h0,hc⟩ hx;rw[dX l_Qd5_0.eq_1];have hlt:(l.length<l.length)=False:=by simp
  simp only[↓E1,E2,seval,h0,hc,hlt,xl,xs];exact hx _ _ _ ⟨g1,by simp[updN,updE,h0],by simp[updN,updE,hc]⟩
 ·intro ha e' mu' n' ⟨g,h0,_⟩;simp only[↓E1,E2,seval,h0,xl,xs];exact leafB h g (by unfold Qip;rw[Ql7 ha];simp;try omega)
 ·intro hx e' mu' n' ⟨g,hR⟩;simp only[↓E1,E2,seval,hR];exact leafB h g (by unfold Qip;rw[Qh9 hx];simp)
theorem ref4_EntryMay (e:Ent) (b:SV) (hl:e.batch.length<=1152921504606846976):BoolC P n_Qcx [.ag (entC e b)] (λM=>PtsR M b e.batch) (entB e):=boolC H.mx H.Qcx 0 λfz mu n k hfr gg s1 h=>by
 obtain⟨xl,xs,xk,xm⟩:=s1.len;rw[dY a_Qcx.eq_1 b_Qcx.eq_1];unfold entC;have hA:True:=trivial;have hle:=Nat.le_refl n;simp only[↓E1,E2,seval,xl,xs,xk,xm];repeat' (first|((with_reducible refine Qeo (λhb=>?_) (λhb=>?_))<;>(replace hA:=And.intro hA hb;clear hb;simp only[↓E1,E2,seval, *]))|((with_reducible refine CPr_f (f:=n_Qd4) ?_);((first|(refine(ref1_Count H _).d2 hfr (by first|trivial|exact s1|assumption) ?_;rintro v mu2 n2 g2 rfl)|(refine(ref1_Count H _).d3 hfr (λhm=>by first|trivial|exact PtsR.mono hm s1) ?_;rintro v mu2 n2 g2 b1 rfl)|(refine(ref1_Count H _).c1 hfr (by first|trivial|exact s1|assumption) ?_;rintro v mu2 n2 g2 rfl)|(refine(ref1_Count H _).c2 hfr (λhm=>by first|trivial|exact PtsR.mono hm s1) ?_;rintro v mu2 n2 g2 b1 rfl)|(refine(ref1_Count H _).c3 hfr (λhm=>by first|trivial|exact PtsR.mono hm s1) ?_;rintro v mu2 n2 g2 b1 b2 rfl));(try replace b1:=g2.old hfr b1);(try replace s1:=PtsR.mono (λ_ _ hh=>g2.old hfr hh) s1);replace gg:=gg.trans (g2.weaken hle);replace hle:=Nat.le_trans hle g2.le;replace hfr:=g2.free;clear g2;simp only[↓E1,E2,seval, *]))|((with_reducible refine CPr_f (f:=n_Qd5) ?_);((first|(refine(ref1_Batch H b e.batch hl).d2 hfr (by first|trivial|exact s1|assumption) ?_;rintro v mu2 n2 g2 rfl)|(refine(ref1_Batch H b e.batch hl).d3 hfr (λhm=>by first|trivial|exact PtsR.mono hm s1) ?_;rintro v mu2 n2 g2 b1 rfl)|(refine(ref1_Batch H b e.batch hl).c1 hfr (by first|trivial|exact s1|assumption) ?_;rintro v mu2 n2 g2 rfl)|(refine(ref1_Batch H b e.batch hl).c2 hfr (λhm=>by first|trivial|exact PtsR.mono hm s1) ?_;rintro v mu2 n2 g2 b1 rfl)|(refine(ref1_Batch H b e.batch hl).c3 hfr (λhm=>by first|trivial|exact PtsR.mono hm s1) ?_;rintro v mu2 n2 g2 b1 b2 rfl));(try replace b1:=g2.old hfr b1);(try replace s1:=PtsR.mono (λ_ _ hh=>g2.old hfr hh) s1);replace gg:=gg.trans (g2.weaken hle);replace hle:=Nat.le_trans hle g2.le;replace hfr:=g2.free;clear g2;simp only[↓E1,E2,seval, *])))
 all_goals try (refine leafB h (by first|exact gg|exact gg.cons hle _|exact(gg.cons hle _).cons (Nat.le_succ_of_le hle) _) ?_;(clear h gg hle hfr);(try clear loop);(try clear loop0);(try clear loop1);(try clear s1);(try clear s2);(try clear s3);(try clear s4);(try clear b1);(try clear b2);clear xl xs xk xm;first|(simp_all [entB,-List.length_eq_zero_iff];done)|(simp_all [entB,-List.length_eq_zero_iff];omega))
end
def RepS (M:Fz) (r:Rep) (xe xa xs xd:SV):Prop:=EntsR M xe r.log.ents/\IntsR M xa r.acks/\IntsR M xs r.starts/\DvsR M xd r.dos
def MsgS (M:Fz) (m:Msg) (xb xe:SV):Prop:=PtsR M xb m.batch/\EntsR M xe m.log.ents
theorem RepS.mono {M M':Fz} (hm:∀id B,M id=some B->M' id=some B) {r:Rep} {xe xa xs xd:SV} (h:RepS M r xe xa xs xd):RepS M' r xe xa xs xd:=⟨EntsR.mono hm h.1,IntsR.mono hm h.2.1,IntsR.mono hm h.2.2.1,DvsR.mono hm h.2.2.2⟩
theorem MsgS.mono {M M':Fz} (hm:∀id B,M id=some B->M' id=some B) {m:Msg} {xb xe:SV} (h:MsgS M m xb xe):MsgS M' m xb xe:=⟨PtsR.mono hm h.1,EntsR.mono hm h.2⟩
def Ok (l:Lg):Prop:=∀e∈l.ents,e.batch.length<=1152921504606846976
section
variable {P:Program} (H:Fs P)
include H
theorem ref4_LogMay (l:Lg) (x:SV) (hok:Ok l):BoolC P n_Qdu [.ag (lgC l x)] (fun M=>EntsR M x l.ents) (lgB l):=boolC H.mx H.Qdu 4098 fun fz mu n k hfr gg s1 h=>by
 obtain⟨xl,xs,xk,xm⟩:=s1.len;have hfr0:=hfr;have z1:=s1;have loop:Hide (∀(e:Env) mu1 n1 (K:LK) w,l.ents.length<=4096->Gr n fz mu mu1 n n1->with' mu1 fz n=some (lgC l x)->e 0 1=.one (.optr n 0)->e 0 3=.one (.int .i64 0)->
  (l.ents.all entB=true->∀e' mu' n',Gr n fz mu mu' n n'->K (.exit 0) (tmE 44 e') mu' n')->(l.ents.all entB=false->∀e' mu' n',Gr n fz mu mu' n n'->e' 0 2=.one (.bool false)->K .ret (tmE 44 e') mu' n')->
  Lp (dcode pOrc False (CP P) fz 4098 l_Qdu_0) 4098 (tmE 44 e) mu1 n1 K w):=⟨by
  intro e mu1 n1 K w hl g1 b1 h0 hc hd hr;refine loopI (x:=0) (L:=l.ents.length) (p:=λi=>(l.ents[i]?.map entB).getD true) (λi e mu' n'=>Gr n fz mu mu' n n'/\with' mu' fz n=some (lgC l x)/\e 0 1=.one (.optr n 0)/\e 0 3=.one (.int .i64 i)) (λe mu' n'=>Gr n fz mu mu' n n'/\e 0 2=.one (.bool false)) ?_ ?_ e mu1 n1 K w (by omega) ⟨g1,b1,h0,hc⟩ (λha e' mu' n' hI=>hd (Ql7 ha) e' mu' n' hI.1) (λhx e' mu' n' hR=>hr (Qh9 hx) e' mu' n' hR.1 hR.2)
  ·rintro i e mu1 n1 K hi ⟨g1,b1,h0,hc⟩ hy hn;have b0:=b1;have t1:=EntsR.mono (λ_ _ hh=>g1.old hfr0 hh) z1;obtain⟨id,off,cap,B,bx,rfl,hB,hmk,hbd,hsub,s2⟩:=t1.elem hi;have hw:=Qev hi (by omega);unfold lgC at b1;unfold entC at hsub;rw[dX l_Qdu_0.eq_1];simp only[↓E1,E2,seval,h0,hc,hi,hB,hmk,hbd,hsub,b1];refine(ref4_EntryMay H l.ents[i] bx (hok _ (List.getElem_mem hi))).c1 g1.free s2 ?_;rintro v mu' n' g rfl;have g2:=g1.trans (g.weaken g1.le);have b2:=g.old g1.free b0;cases hp:entB l.ents[i]with
   |true=>
    simp only[↓E1,E2,seval,hc,hw];exact hy (by simp[hi,hp]) _ _ _ ⟨g2,b2,by simp[updN,updE,h0],by simp[updN,updE]⟩
   |false=>
    simp only[↓E1,E2,seval];exact hn (by simp[hi,hp]) _ _ _ ⟨g2,by simp[updN,updE]⟩
  ·rintro e mu1 n1 K ⟨g1,b1,h0,hc⟩ hx;have b0:=b1;unfold lgC at b1;rw[dX l_Qdu_0.eq_1];have hlt:(l.ents.length<l.ents.length)=False:=by simp
   simp only[↓E1,E2,seval,h0,hc,hlt,xl,xs,b1];exact hx _ _ _ ⟨g1,b0,by simp[updN,updE,h0],by simp[updN,updE,hc]⟩⟩
 rw[dY a_Qdu.eq_1 b_Qdu.eq_1];unfold lgC;have hA:True:=trivial;have hle:=Nat.le_refl n;simp only[↓E1,E2,seval,xl,xs,xk,xm,Qe7];repeat' (first|((with_reducible refine Qeo (λhb=>?_) (λhb=>?_))<;>(replace hA:=And.intro hA hb;clear hb;simp only[↓E1,E2,seval, *,Qe7]))|((with_reducible refine CPr_f (f:=n_Qd4) ?_);((first|(refine(ref1_Count H _).d2 hfr (by first|trivial|exact s1|assumption) ?_;rintro v mu2 n2 g2 rfl)|(refine(ref1_Count H _).d3 hfr (λhm=>by first|trivial|exact EntsR.mono hm s1) ?_;rintro v mu2 n2 g2 b1 rfl)|(refine(ref1_Count H _).c1 hfr (by first|trivial|exact s1|assumption) ?_;rintro v mu2 n2 g2 rfl)|(refine(ref1_Count H _).c2 hfr (λhm=>by first|trivial|exact EntsR.mono hm s1) ?_;rintro v mu2 n2 g2 b1 rfl)|(refine(ref1_Count H _).c3 hfr (λhm=>by first|trivial|exact EntsR.mono hm s1) ?_;rintro v mu2 n2 g2 b1 b2 rfl));(try replace b1:=g2.old hfr b1);(try replace s1:=EntsR.mono (λ_ _ hh=>g2.old hfr hh) s1);replace gg:=gg.trans (g2.weaken hle);replace hle:=Nat.le_trans hle g2.le;replace hfr:=g2.free;clear g2;simp only[↓E1,E2,seval, *,Qe7])))
 all_goals try (refine leafB h (by first|exact gg|exact gg.cons hle _|exact(gg.cons hle _).cons (Nat.le_succ_of_le hle) _) ?_;(clear h gg hle hfr);(try clear loop);(try clear loop0);(try clear loop1);(try clear s1);(try clear s2);(try clear s3);(try clear s4);(try clear b1);(try clear b2);clear xl xs xk xm hfr0 z1;first|(simp_all [lgB,countB,-List.length_eq_zero_iff];done)|(simp_all [lgB,countB,-List.length_eq_zero_iff];omega))
 all_goals ((with_reducible refine Lp_at ?_);refine loop.out _ _ _ _ _ (by clear loop h;simp at hA;omega) gg b1 (by simp[updN,updE]) (by simp[updN,updE]) (λhr e2 mu2 n2 g2=>?_) (λhr e2 mu2 n2 g2 a1=>?_))
 all_goals (replace hA:=And.intro hA hr;clear hr;simp only[↓E1,E2,seval, *];refine leafB h g2 ?_;clear h g2 loop b1 xl xs xk xm s1 z1;first|(simp_all [lgB,countB,-List.length_eq_zero_iff];done)|(simp_all [lgB,countB,-List.length_eq_zero_iff];omega))
end
theorem nil_Sl {M:Fz} {s:Nat} {x:SV} {es:List (List SV)} (h:Sl M s x es):∃b,nilness true x=some b/\(b=true->x=.nsl/\es=[]):=by
 rcases h with⟨h,rfl⟩|⟨id,off,cap,B,rfl,_⟩
 ·rcases h with rfl|rfl|rfl
  ·exact⟨true,rfl,λ_=>⟨rfl,rfl⟩⟩
  ·exact⟨false,rfl,λh=>by cases h⟩
  ·exact⟨false,rfl,λh=>by cases h⟩
 ·exact⟨false,rfl,λh=>by cases h⟩
section
variable {P:Program} (H:Fs P)
include H
theorem Qio (x:SV) (l:List Int) (hl:l.length<=17592186044415):Ctr P n_Qau [.one x] (λM=>IntsR M x l) (λn _ M v=>∃x',v=.one x'/\IntsX (From n M) x' l):=Ctr.of H.mx H.Qau (λ_=>0) λfz mu n k hfr s1 hk=>by
 obtain⟨xl,xs,xk,xm⟩:=s1.len;obtain⟨b,hb1,hb2⟩:=nil_Sl s1;rw[dY a_Qau.eq_1 b_Qau.eq_1];simp only[↓E1,E2,seval, *];cases b with
 |true=>
  obtain⟨-,he⟩:=hb2 rfl;simp only[↓E1,E2,seval, *];exact hk _ _ _ (Gr.refl hfr) ⟨.nsl,rfl,.inl ⟨.inl rfl,he⟩⟩
 |false=>
  clear hb2;simp only[↓E1,E2,seval, *];obtain⟨h1,h2⟩:=Qg9 (Sl.mono s1 (sub1 hfr (c:=[])));rw[h1];clear h1;refine⟨h2,Qha hfr (Qfc (by simp;omega) (by decide) (by decide)) Qjg (λx' mu' n' g hx=>?_)⟩;simp only[↓E1,E2,seval];exact hk _ _ _ g ⟨x',rfl,hx⟩
theorem Qi2 (x:SV) (cs:List (List SV)) (hl:cs.length<=1954687338267):Ctr P n_Qan [.one x] (λM=>Sl M 6 x cs) (λn _ M v=>∃x',v=.one x'/\SlX (From n M) 6 x' cs):=Ctr.of H.mx H.Qan (λ_=>0) λfz mu n k hfr s1 hk=>by
 obtain⟨b,hb1,hb2⟩:=nil_Sl s1;have hcs:∀e∈cs,e.length=6/\Qeq e=true:=by
  rcases s1 with⟨_,rfl⟩|⟨_,_,_,_,_,_,_,_,_,_,h⟩
  ·intro e he;cases he
  ·exact h
 rw[dY a_Qan.eq_1 b_Qan.eq_1];simp only[↓E1,E2,seval, *];cases b with
 |true=>
  obtain⟨-,he⟩:=hb2 rfl;simp only[↓E1,E2,seval, *];exact hk _ _ _ (Gr.refl hfr) ⟨.nsl,rfl,.inl ⟨.inl rfl,he⟩⟩
 |false=>
  clear hb2;simp only[↓E1,E2,seval, *];obtain⟨h1,h2⟩:=Qg9 (Sl.mono s1 (sub1 hfr (c:=[])));rw[h1];clear h1;refine⟨h2,Qha hfr (Qfc (by omega) (by decide) (by decide)) hcs (λx' mu' n' g hx=>?_)⟩;simp only[↓E1,E2,seval];exact hk _ _ _ g ⟨x',rfl,hx⟩
theorem message_Clone (m:Msg) (xb xe:SV) (hl:m.batch.length<=4398046511104) (hL:m.log.ents.length<=2513169434916) (hb:∀e∈m.log.ents,e.batch.length<=4398046511104):Ctr P n_Qc6 [.ag (msgC m xb xe)] (λM=>MsgS M m xb xe) (λn _ M v=>∃xb' xe',v=.ag (msgC m xb' xe')/\PtsX (From n M) xb' m.batch/\EntsX (From n M) xe' m.log.ents):=Ctr.of H.mx H.Qc6 (λ_=>0) λfz mu n k hfr s hk=>by
 obtain⟨s1,s2⟩:=s;obtain⟨xl,xs,xk,xm⟩:=s1.len;obtain⟨yl,ys,yk,ym⟩:=s2.len;have hE:=message_CloneLog H m.log xe hL hb;have hmc:msgC m xb xe=msgC m xb xe:=rfl;conv at hmc=>rhs;unfold msgC
 unfold lgC at hE;rw[dY a_Qc6.eq_1 b_Qc6.eq_1];unfold msgC;simp only[↓E1,E2,seval, *];obtain⟨h1,h2⟩:=Qg9 (Sl.mono s1 (sub2 hfr (c:=msgC m xb xe) (d:=[I 0,I 0,I 0,I 0,I 0,I 0,I 0,I 0,I 0,I 0,I 0,I 0,I 0,I 0,.str 0 0,.nsl,I 0,.str 0 0,.nsl,.str 0 0])));unfold msgC at h1;rw[h1];clear h1;refine⟨h2,app_nil (.inl rfl) (gr2 hfr).free (Qfc (by simp;omega) (by decide) (by decide)) pt_ok (λxb' mu1 n1 g1 hb'=>?_)⟩;have g1':=(gr2 hfr).trans (g1.weaken (by omega));have b1:=(g1.own n (by omega)).trans (by simp[Qer];rfl);have b2:=(g1.own (n+1) (by omega)).trans (by simp[Qer];rfl);have zk:=(SlX.len hb').2.2.1;have zm:=(SlX.len hb').2.2.2;simp only[↓E1,E2,seval, *,Qfk,Qen,Option.isSome_some];have ga:=g1'.put (Nat.le_refl _) b1 (c:=msgC m xb' xe);unfold msgC at ga;refine hE.c1 ga.free (EntsR.mono (ga.sub hfr (Nat.le_refl _)) s2) ?_;rintro v mu2 n2 g2 ⟨xe',rfl,he'⟩;have b3:Ev.look mu2 n=some (msgC m xb' xe):=by rw[g2.own n (by have:=g1.le;omega),Qen,if_pos rfl,b1];rfl
 have b4:=(show Ev.look mu2 (n+1)=Ev.look mu1 (n+1)from by rw[g2.own (n+1) (by have:=g1.le;omega),Qen,if_neg (by omega)]).trans b2;have yk':=he'.choose_spec.1.len.2.2.1;have ym':=he'.choose_spec.1.len.2.2.2;have gb:=((ga.trans (g2.weaken (by have:=g1.le;omega))).put (Nat.le_refl _) b3 (c:=msgC m xb' xe')).put (c:=msgC m xb' xe') (id:=n+1) (by omega) (by rw[Qen,if_neg (by omega)];exact b4);have f1:Sub (From (n+1+1) (with' mu2 fz)) (From n (with' (putS (putS mu2 n (msgC m xb' xe')) (n+1) (msgC m xb' xe')) fz)):=
  ((From.put (by omega) b3).trans (From.put (by omega) (by rw[Qen,if_neg (by omega)];exact b4))).trans (From.le (by omega))
 have hb2:=SlX.mono hb' ((From.put (by omega) b1 (d':=msgC m xb' xe)).trans ((From.mono (g2.sub ga.free (Nat.le_refl _))).trans f1));have he2:=EntsX.mono ((From.le (by have:=g1.le;omega)).trans f1) he';unfold msgC at gb hb2 he2 b3;simp only[↓E1,E2,seval, *,Qfk,Qen,Option.isSome_some,Option.map_some];exact hk _ _ _ gb ⟨xb',xe',rfl,hb2,he2⟩
end
end Go.Proofs.YtnnjlnkoomeadaaGreat.Pv
namespace Go.Ev
def Tag (o:Nat->Nat) (t:Nat) (M:Fz):Fz:=λj=>if o j=t then M j else none
theorem Tag.at {o:Nat->Nat} {t j:Nat} {M:Fz} {B:List SV} (h:o j=t) (g:M j=some B):Tag o t M j=some B:=by unfold Tag;rw[if_pos h];exact g
theorem Tag.el {o:Nat->Nat} {t j:Nat} {M:Fz} {B:List SV} (h:Tag o t M j=some B):o j=t/\M j=some B:=by
 unfold Tag at h;split at h
 ·rename_i e;exact⟨e,h⟩
 ·cases h
theorem Tag.sub {o:Nat->Nat} {t:Nat} {M:Fz}:Sub (Tag o t M) M:=λ_ _ h=>(Tag.el h).2
theorem Tag.mono {o:Nat->Nat} {t:Nat} {M M':Fz} (h:Sub M M'):Sub (Tag o t M) (Tag o t M'):=λ_ _ g=>Tag.at (Tag.el g).1 (h _ _ (Tag.el g).2)
def tagN (o:Nat->Nat) (n:Nat) (τ:Nat->Nat):Nat->Nat:=λj=>if j<n then o j else τ j
theorem Qfm {o τ:Nat->Nat} {n j:Nat} (h:j<n):tagN o n τ j=o j:=by unfold tagN;rw[if_pos h]
theorem Qgn {o τ:Nat->Nat} {n j:Nat} (h:n<=j):tagN o n τ j=τ j:=by unfold tagN;rw[if_neg (by omega)]
theorem Tag.old {o τ:Nat->Nat} {t n:Nat} {fz:Fz} {mu mu':St} (hf:Free fz mu n) (h:Sub (with' mu fz) (with' mu' fz)):Sub (Tag o t (with' mu fz)) (Tag (tagN o n τ) t (with' mu' fz)):=λj B g=>by
 obtain⟨g1,g2⟩:=Tag.el g;exact Tag.at (by rw[Qfm (hf.lt g2)];exact g1) (h _ _ g2)
theorem Tag.new {o τ:Nat->Nat} {t n:Nat} {M:Fz} (h:∀j,n<=j->τ j=t):Sub (From n M) (Tag (tagN o n τ) t M):=λj B g=>by
 obtain⟨g1,g2⟩:=From.el g;exact Tag.at (by rw[Qgn g1];exact h j g1) g2
theorem Tag.put {o:Nat->Nat} {t id:Nat} {fz:Fz} {mu:St} {c:List SV} (h:(look mu id).isSome=true) (ho:o id≠t):Sub (Tag o t (with' mu fz)) (Tag o t (with' (putS mu id c) fz)):=λj B g=>by
 obtain⟨g1,g2⟩:=Tag.el g;exact Tag.at g1 (by rw[Qfk h,if_neg (by rintro rfl;exact ho g1)];exact g2)
def Qg4 (x:SV) (a b:Nat):Nat->Nat:=λj=>if blk x=some j then a else b
theorem Grow.tag {α:Type} {R:Fz->List SV->α->Prop} (hR:∀{M M' c a},Sub M M'->R M c a->R M' c a) {lo:Nat} {M:Fz} {s:Nat} {x:SV} {l:List α} (G:Grow lo M s R x l) {o:Nat->Nat} {a b:Nat}:
 ∃cs,SlX (Tag (tagN o lo (Qg4 x a b)) a M) s x cs/\All2 (R (Tag (tagN o lo (Qg4 x a b)) b M)) cs l:=by
 obtain⟨cs,h1,h2⟩:=G;refine⟨cs,?_,h2.imp λc d h=>hR (λj B g=>?_) h⟩
 ·rcases h1 with h1|⟨id,g1,g2,g3⟩
  ·exact .inl h1
  ·obtain⟨g4,g5⟩:=From.el g2;exact .inr ⟨id,g1,Tag.at (by rw[Qgn g4];unfold Qg4;rw[if_pos (by rw[g1];rfl)]) g5,g3⟩
 ·obtain⟨g1,g2⟩:=Ex.el g;obtain⟨g3,g4⟩:=From.el g2;exact Tag.at (by rw[Qgn g3];unfold Qg4;rw[if_neg g1]) g4
theorem Qqf {s:Nat}:∀{es:List (List SV)} {i k:Nat} {vs:List SV},(∀e∈es,e.length=s)->(hi:i<es.length)->k+vs.length<=s->over es.flatten (i*s+k) vs=(es.set i (over es[i] k vs)).flatten
 |[],i,_,_,_,h,_=>by simp at h
 |e::es,0,k,vs,hl,_,hk=>by
  have he:=hl e (by simp);simp only[Nat.zero_mul,Nat.zero_add,List.flatten_cons,List.set_cons_zero,List.getElem_cons_zero,over];rw[List.take_append,List.drop_append,show k-e.length=0 by omega,show k+vs.length-e.length=0 by omega];simp
 |e::es,i+1,k,vs,hl,hi,hk=>by
  have he:=hl e (by simp);have ih:=Qqf (es:=es) (i:=i) (k:=k) (vs:=vs) (λx hx=>hl x (by simp[hx])) (by simpa using hi) hk;simp only[List.flatten_cons,List.set_cons_succ,List.getElem_cons_succ];rw[<-ih,show(i+1)*s+k=e.length+(i*s+k) by rw[Nat.add_mul,he];omega];simp only[over];rw[List.take_append,List.drop_append,List.take_of_length_le (by omega),List.drop_eq_nil_of_le (by omega),show e.length+(i*s+k)-e.length=i*s+k by omega,show e.length+(i*s+k)+vs.length-e.length=i*s+k+vs.length by omega];simp
theorem Qop {s:Nat}:∀{es:List (List SV)} {i k m:Nat},(∀e∈es,e.length=s)->(hi:i<es.length)->k+m<=s->(es.flatten.drop (i*s+k)).take m=(es[i].drop k).take m
 |[],i,_,_,_,h,_=>by simp at h
 |e::es,0,k,m,hl,_,hk=>by
  have he:=hl e (by simp);simp only[Nat.zero_mul,Nat.zero_add,List.flatten_cons,List.getElem_cons_zero];rw[List.drop_append,show k-e.length=0 by omega,List.drop_zero,List.take_append,show m-(e.drop k).length=0 by simp;omega];simp
 |e::es,i+1,k,m,hl,hi,hk=>by
  have he:=hl e (by simp);have ih:=Qop (es:=es) (i:=i) (k:=k) (m:=m) (λx hx=>hl x (by simp[hx])) (by simpa using hi) hk;simp only[List.flatten_cons,List.getElem_cons_succ];rw[<-ih,show(i+1)*s+k=e.length+(i*s+k) by rw[Nat.add_mul,he];omega,List.drop_append,List.drop_eq_nil_of_le (by omega),show e.length+(i*s+k)-e.length=i*s+k by omega];simp
section
variable {P:Program} {f:Nat} {args:List AV} {fz:Fz} {mu:St} {n:Nat} {k:KT Prop} {w:WK k} {c d e:List SV}
theorem CPr.abs1 (hfr:Free fz mu n) (h:∀mu1 n1,Gr n fz mu mu1 n n1->n+1<=n1->look mu1 n=some c->CPr P f args fz mu1 n1 k w):CPr P f args fz ((n,c)::mu) (n+1) k w:=
 h _ _ ((Gr.refl hfr).cons (Nat.le_refl _) _) (Nat.le_refl _) (by rw[Qer,if_pos rfl])
theorem CPr.abs3 (hfr:Free fz mu n) (h:∀mu1 n1,Gr n fz mu mu1 n n1->n+3<=n1->look mu1 n=some c->look mu1 (n+1)=some d->look mu1 (n+2)=some e->CPr P f args fz mu1 n1 k w):CPr P f args fz ((n+1+1,e)::(n+1,d)::(n,c)::mu) (n+1+1+1) k w:=
 h _ _ ((((Gr.refl hfr).cons (Nat.le_refl _) _).cons (by omega) _).cons (by omega) _) (Nat.le_refl _) (by rw[Qer,if_neg (by omega),Qer,if_neg (by omega),Qer,if_pos rfl]) (by rw[Qer,if_neg (by omega),Qer,if_pos rfl]) (by rw[Qer,if_pos rfl])
end
def Ids (a:St) (lo hi:Nat):Prop:=∀id,look a id≠none->lo<=id/\id<hi
theorem Qkr {a b m:St} {id:Nat} (h:look a id≠none->look b id=none):look (a++(b++m)) id=look (b++(a++m)) id:=by
 rw[Qe1,Qe1,Qe1,Qe1];cases ea:look a id with
 |none=>cases look b id<;>rfl
 |some c=>rw[h (by rw[ea];simp)]
theorem Qur {a m m':St} {id:Nat} (h:look m id=look m' id):look (a++m) id=look (a++m') id:=by rw[Qe1,Qe1,h]
theorem Ids.apart {a b:St} {l1 h1 l2 h2 id:Nat} (ha:Ids a l1 h1) (hb:Ids b l2 h2) (h:h1<=l2\/h2<=l1) (hn:look a id≠none):look b id=none:=by
 have:=ha id hn;cases eb:look b id with
 |none=>rfl
 |some c=>have:=hb id (by rw[eb];simp);omega
theorem Gr.congr {lo:Nat} {fz:Fz} {mu mu1 mu2:St} {n n':Nat} (g:Gr lo fz mu mu1 n n') (h:∀id,look mu2 id=look mu1 id):Gr lo fz mu mu2 n n':=
 ⟨g.le,λid hi=>by rw[Qeu (h id)];exact g.ext id hi,λid hi=>by rw[h];exact g.own id hi,λj=>by rw[Qeu (h _)];exact g.free j⟩
theorem Ql3 {mu1 mu2:St} {fz:Fz} (h:∀id,look mu2 id=look mu1 id):with' mu2 fz=with' mu1 fz:=by funext id;exact Qeu (h id)
theorem Ctr.d4 {P:Program} {f:Nat} {args:List AV} {pre:Fz->Prop} {post:Nat->Nat->Fz->AV->Prop} {fz:Fz} {mu:St} {n:Nat} {k:KT Prop} (h:Ctr P f args pre post) {w:WK k} (hf:Free fz mu n) (hp:pre (with' mu fz))
 (hk:∀v new n',Gr n fz mu (new++mu) n n'->Ids new n n'->post n n' (with' (new++mu) fz) v->k v new n'):CPr P f args (with' mu fz) [] n k w:=
 h.d1 hf hp λv new n' hg hpost=>hk v new n' (hg.join hf (Nat.le_refl _)) (λid hn=>by
  refine⟨?_,?_⟩
  ·rcases Nat.lt_or_ge id n with h1|h1
   ·exfalso;exact hn (hg.own id h1)
   ·exact h1
  ·rcases Nat.lt_or_ge id n' with h1|h1
   ·exact h1
   ·exfalso
    refine hn ?_;have:=hg.free.none h1;rw[Qe5]at this;cases e:look new id with
    |none=>rfl
    |some c=>rw[e]at this;cases this) (by rw[Qgd];exact hpost)
end Go.Ev
namespace Go.Proofs.YtnnjlnkoomeadaaGreat.Pv
open Go.Ev Go.Ev.Rp
set_option maxRecDepth 100000
set_option maxHeartbeats 4000000
structure LgSz (l:Lg):Prop where
 ents:l.ents.length<=2513169434916
 bat:∀e∈l.ents,e.batch.length<=4398046511104
structure RepSz (r:Rep):Prop where
 log:LgSz r.log
 acks:r.acks.length<=17592186044415
 starts:r.starts.length<=17592186044415
 dos:r.dos.length<=1954687338267
 dlog:∀d∈r.dos,LgSz d.log
structure RepT (o:Nat->Nat) (M:Fz) (r:Rep) (xe xa xs xd:SV):Prop where
 ents:∃cs,SlX (Tag o 1 M) 5 xe cs/\All2 (EntX (Tag o 2 M)) cs r.log.ents
 acks:IntsX (Tag o 3 M) xa r.acks
 starts:IntsX (Tag o 4 M) xs r.starts
 dos:∃cs,SlX (Tag o 5 M) 6 xd cs/\All2 (DvX (Tag o 6 M)) cs r.dos
def RestT (o:Nat->Nat) (M:Fz) (r:Rep) (xe xa xs:SV):Prop:=(∃cs,SlX (Tag o 1 M) 5 xe cs/\All2 (EntX (Tag o 2 M)) cs r.log.ents)/\IntsX (Tag o 3 M) xa r.acks/\IntsX (Tag o 4 M) xs r.starts
theorem RestT.mono {o o':Nat->Nat} {M M':Fz} (h:∀t,1<=t->t<=4->Sub (Tag o t M) (Tag o' t M')) {r:Rep} {xe xa xs:SV} (g:RestT o M r xe xa xs):RestT o' M' r xe xa xs:=by
 obtain⟨⟨cs,h1,h2⟩,h3,h4⟩:=g;exact⟨⟨cs,h1.mono (h 1 (by omega) (by omega)),h2.imp λc a g=>EntX.mono (h 2 (by omega) (by omega)) g⟩,IntsX.mono (h 3 (by omega) (by omega)) h3,IntsX.mono (h 4 (by omega) (by omega)) h4⟩
def MixD (o:Nat->Nat) (M0 M:Fz) (l:List Dv) (i:Nat) (xd:SV):Prop:=∃cs,SlX (Tag o 5 M) 6 xd cs/\cs.length=l.length/\∀j (h1:j<cs.length) (h2:j<l.length),if j<i then DvX (Tag o 6 M) cs[j] l[j]else DvR M0 cs[j] l[j]
theorem MixD.mono {o o':Nat->Nat} {M0 M M':Fz} (h:∀t,5<=t->t<=6->Sub (Tag o t M) (Tag o' t M')) {l:List Dv} {i:Nat} {xd:SV} (g:MixD o M0 M l i xd):MixD o' M0 M' l i xd:=by
 obtain⟨cs,h1,h2,h3⟩:=g;refine⟨cs,h1.mono (h 5 (by omega) (by omega)),h2,λj g1 g2=>?_⟩;have:=h3 j g1 g2;split
 ·rename_i hj;rw[if_pos hj]at this;exact DvX.mono (h 6 (by omega) (by omega)) this
 ·rename_i hj;rw[if_neg hj]at this;exact this
section
variable {P:Program} (H:Fs P)
include H
theorem Qt2 (r:Rep) (hz:RepSz r) (xe xa xs xd:SV) {fz:Fz} {mu0:St} {n0:Nat} (hfr0:Free fz mu0 n0) (rb:Nat) (i:Nat) (hi:i<r.dos.length) {fu:Nat} {e:Env} {mu:St} {n:Nat} {K:LK} {o:Nat->Nat}
 (hfr:Free fz mu n) (g0:Gr n0 fz mu0 mu n0 n) (b1:Ev.look mu rb=some (repC r xe xa xs xd)) (hrb:n0<=rb/\o rb=0) (ho:∀j,j<n0->o j=0) (hD:MixD o (with' mu0 fz) (with' mu fz) r.dos i xd)
 (h1:e 0 1=.one (.optr rb 0)) (h6:e 1 6=.one (.int .i64 r.dos.length)) (h7:e 1 7=.one (.int .i64 i))
 (hK:∀e' mu' n' o',Gr n0 fz mu0 mu' n0 n'->(∀j,o j=0->j<n->Ev.look mu' j=Ev.look mu j/\o' j=0)->(∀t,1<=t->t<=4->Sub (Tag o t (with' mu fz)) (Tag o' t (with' mu' fz)))->MixD o' (with' mu0 fz) (with' mu' fz) r.dos (i+1) xd->e' 0 1=.one (.optr rb 0)->e' 0 2=e 0 2->e' 1 6=.one (.int .i64 r.dos.length)->e' 1 7=.one (.int .i64 ((i+1:Nat):Int))->K .normal (tmE 40 e') mu' n'):
 dcode pOrc False (CP P) fz fu l_Qc0_0 (tmE 40 e) mu n K:=by
 obtain⟨cs,hx,hl,hall⟩:=hD;have hw:=Qev hi (by have:=hz.dos;omega);have hci:=hall i (by omega) hi;rw[if_neg (by omega)]at hci;obtain⟨x,hc,s1⟩:=hci;have b2:=Qem (fz:=fz) b1;rcases hx with⟨_,rfl⟩|⟨id,rfl,hM,hmk,hes⟩
 ·simp at hl;omega
 obtain⟨hot,hM'⟩:=Tag.el hM;have hlen:∀e∈cs,e.length=6:=λe he=>(hes e he).1;have hfl:=Qfr hlen;have hld:=Qop (i:=i) (k:=3) (m:=3) hlen (by omega) (by omega);rw[hc]at hld;have hbd:i*6+3+3<=cs.flatten.length:=by rw[hfl];omega
 have hE:=Qfz H r.dos[i].log x (hz.dlog _ (List.getElem_mem hi)).ents (hz.dlog _ (List.getElem_mem hi)).bat;have hli:i<cs.length:=by omega
 unfold lgC at hE;unfold repC at b1 b2;unfold dvC at hld;rw[dX l_Qc0_0.eq_1];have hbd':i*6+3+3<=r.dos.length*6:=by omega
 simp only[↓E1,E2,seval, *,List.append_assoc];refine hE.d4 hfr (EntsR.mono (g0.sub hfr0 (Nat.le_refl _)) s1) ?_;rintro v new n2 g2 i2 ⟨x',rfl,hG⟩;have hidn:=hfr.lt hM';have hid:Ev.look (new++mu) id=some cs.flatten:=by
  rw[g2.own id hidn];have h0:n0<=id:=by
   rcases Nat.lt_or_ge id n0 with h|h
   ·have:=ho id h;omega
   ·exact h
  rw[<-hM',Qfp (hfr0.fz _ h0)]
 obtain⟨-,-,zk,zm⟩:=hG.len;have hov:=Qqf (es:=cs) (i:=i) (k:=3) (vs:=[I r.dos[i].log.base,r.dos[i].log.snap.sv,x']) hlen (by omega) (by simp);simp only[↓E1,E2,seval, *,List.append_assoc];have h0:n0<=id:=by
  rcases Nat.lt_or_ge id n0 with h|h
  ·have:=ho id h;omega
  ·exact h
 have hot':tagN o n (λ_=>6) id=5:=by rw[Qfm hidn];exact hot
 have hd:over (dvC r.dos[i] x) 3 [I r.dos[i].log.base,r.dos[i].log.snap.sv,x']=dvC r.dos[i] x':=rfl;rw[hd];have hcs':∀e∈cs.set i (dvC r.dos[i] x'),e.length=6/\Qeq e=true:=by
  intro e he;rcases List.mem_or_eq_of_mem_set he with he|rfl
  ·exact hes e he
  ·exact⟨rfl,by unfold dvC;simp only[↓E1,E2,seval,zk]⟩
 have hs:∀t,t≠5->Sub (Tag o t (with' mu fz)) (Tag (tagN o n (λ_=>6)) t (with' (putS (new++mu) id (cs.set i (dvC r.dos[i] x')).flatten) fz)):=λt ht=>
  (Tag.old hfr (g2.sub hfr (Nat.le_refl _))).trans (Tag.put (lookI hid) (by omega))
 refine hK _ _ _ (tagN o n λ_=>6) ((g0.trans (g2.weaken g0.le)).put h0 hid) (λj hj hjn=>⟨?_,by rw[Qfm hjn];exact hj⟩) (λt h1 h2=>hs t (by omega)) ⟨_,.inr ⟨id,?_,?_,Qfu (Qe3 hcs'),hcs'⟩,by simpa using hl,λj g1 g3=>?_⟩ ?_ ?_ ?_ ?_
 ·rw[Qen,if_neg (by rintro rfl;omega),g2.own j hjn]
 ·rw[List.length_set,hl]
 ·exact Tag.at hot' (by rw[Qet hid,if_pos rfl])
 ·rw[List.getElem_set];by_cases hij:i=j
  ·subst hij;rw[if_pos rfl,if_pos (by omega)];exact⟨x',rfl,EntsX.mono ((Tag.new (λ_ _=>rfl)).trans (Tag.put (lookI hid) (by omega))) (Ql0 hG)⟩
  ·rw[if_neg hij];have:=hall j (by simpa using g1) g3;by_cases hj:j<i
   ·rw[if_pos hj]at this;rw[if_pos (by omega)];exact DvX.mono (hs 6 (by omega)) this
   ·rw[if_neg hj]at this;rw[if_neg (by omega)];exact this
 all_goals simp[updN,updE, *]
theorem replica_Clone (r:Rep) (xe xa xs xd:SV) (hz:RepSz r):Ctr P n_Qc0 [.ag (repC r xe xa xs xd)] (λM=>RepS M r xe xa xs xd) (λn _ M v=>∃xe' xa' xs' xd' o,v=.ag (repC r xe' xa' xs' xd')/\(∀j,j<n->o j=0)/\RepT o M r xe' xa' xs' xd'):=Ctr.of H.mx H.Qc0 (λ_=>r.dos.length+1) λfz mu n k hfr s hk=>by
 obtain⟨s1,s2,s3,s4⟩:=s;obtain⟨xel,xes,xek,xem⟩:=s1.len;obtain⟨xal,xas,xak,xam⟩:=s2.len;obtain⟨xsl,xss,xsk,xsm⟩:=s3.len;obtain⟨xdl,xds,xdk,xdm⟩:=s4.len;have hE:=Qfz H r.log xe hz.log.ents hz.log.bat;unfold lgC at hE;rw[dY a_Qc0.eq_1 b_Qc0.eq_1];unfold repC;simp only[↓E1,E2,seval, *];refine hE.c1 (gr2 hfr).free (EntsR.mono (sub2 hfr) s1) ?_;rintro v mu1 n1 g1 ⟨xe',rfl,hG⟩;have ga:=(gr2 hfr).trans (g1.weaken (by omega));have b1:=(g1.own n (by omega)).trans (by rw[Qer,if_neg (by omega),Qer,if_pos rfl]);have b2:=(g1.own (n+1) (by omega)).trans (by rw[Qer,if_pos rfl]);obtain⟨-,-,zek,zem⟩:=hG.len;have gb:=ga.put (Nat.le_refl _) b1 (c:=repC r xe' xa xs xd);unfold repC at gb;simp only[↓E1,E2,seval, *,Qfk,Qen,Option.isSome_some,Option.map_some,List.append_assoc];refine(Qio H xa r.acks hz.acks).d4 gb.free (IntsR.mono (gb.sub hfr (Nat.le_refl _)) s2) ?_;rintro v newa na g2 ia ⟨xa',rfl,hxa⟩;have gc:=gb.trans (g2.weaken (gb.le));obtain⟨-,-,zak,zam⟩:=SlX.len hxa;simp only[↓E1,E2,seval, *,Qfk,Qen,Option.isSome_some,Option.map_some,List.append_assoc];refine(Qio H xs r.starts hz.starts).d4 gc.free (IntsR.mono (gc.sub hfr (Nat.le_refl _)) s3) ?_;rintro v newb nb g3 ib ⟨xs',rfl,hxs⟩;have gd:=gc.trans (g3.weaken (gc.le));obtain⟨-,-,zsk,zsm⟩:=SlX.len hxs;simp only[↓E1,E2,seval, *,Qfk,Qen,Option.isSome_some,Option.map_some,List.append_assoc];obtain⟨ds,s5,hds⟩:=s4;have hdl:=hds.length;refine(Qi2 H xd ds (by rw[hdl];exact hz.dos)).d4 gd.free (Sl.mono s5 (gd.sub hfr (Nat.le_refl _))) ?_;rintro v newc nc g4 ic ⟨xd',rfl,hxd⟩;have ge:=gd.trans (g4.weaken (gd.le));obtain⟨zdl,zds,zdk,zdm⟩:=SlX.len hxd;simp only[↓E1,E2,seval, *,Qfk,Qen,Option.isSome_some,Option.map_some,List.append_assoc];have hp:∀id,Ev.look (newa++(newc++(newb++putS mu1 n [I r.me,I r.nodes,I r.view,I r.normal,I r.status,I r.commit,.bool r.sent,I r.log.base,r.log.snap.sv,xe',xa,xs,xd]))) id=Ev.look (newc++(newb++(newa++putS mu1 n [I r.me,I r.nodes,I r.view,I r.normal,I r.status,I r.commit,.bool r.sent,I r.log.base,r.log.snap.sv,xe',xa,xs,xd]))) id:=λid=>
  (Qkr (λh=>ia.apart ic (by have:=g3.le;omega) h)).trans (Qur (Qkr (λh=>ia.apart ib (.inl (Nat.le_refl _)) h)))
 have gf:=ge.congr hp;have l1:=g1.le;have l2:=g2.le;have l3:=g3.le;have l4:=g4.le;have c1:Ev.look (newa++(newc++(newb++putS mu1 n [I r.me,I r.nodes,I r.view,I r.normal,I r.status,I r.commit,.bool r.sent,I r.log.base,r.log.snap.sv,xe',xa,xs,xd]))) n=some [I r.me,I r.nodes,I r.view,I r.normal,I r.status,I r.commit,.bool r.sent,I r.log.base,r.log.snap.sv,xe',xa,xs,xd]:=by
  rw[hp,g4.own n (by omega),g3.own n (by omega),g2.own n (by omega),Qen,if_pos rfl,b1];rfl
 have c2:Ev.look (newa++(newc++(newb++putS mu1 n [I r.me,I r.nodes,I r.view,I r.normal,I r.status,I r.commit,.bool r.sent,I r.log.base,r.log.snap.sv,xe',xa,xs,xd]))) (n+1)=some [I 0,I 0,I 0,I 0,I 0,I 0,.bool false,I 0,.str 0 0,.nsl,.nsl,.nsl,.nsl]:=by
  rw[hp,g4.own (n+1) (by omega),g3.own (n+1) (by omega),g2.own (n+1) (by omega),Qen,if_neg (by omega),b2]
 have hM:=Ql3 (fz:=fz) hp
 -- the tags
 obtain⟨o1,ho1⟩:∃o,o=tagN (λ_=>0) (n+2) (Qg4 xe' 1 2):=⟨_,rfl⟩
 have t1:∀j,j<n+2->o1 j=0:=λj hj=>by rw[ho1,Qfm hj]
 have f1:=Grow.tag (R:=EntX) (λh g=>EntX.mono h g) hG (o:=λ_=>0) (a:=1) (b:=2);rw[<-ho1]at f1;have u1:∀t,t≠0->Sub (Tag o1 t (with' mu1 fz)) (Tag o1 t (with' (putS mu1 n [I r.me,I r.nodes,I r.view,I r.normal,I r.status,I r.commit,.bool r.sent,I r.log.base,r.log.snap.sv,xe',xa,xs,xd]) fz)):=λt ht=>Tag.put (lookI b1) (by rw[t1 n (by omega)];omega);have u2:∀t,Sub (Tag o1 t _) (Tag (tagN o1 n1 λ_=>3) t _):=λt=>Tag.old (τ:=λ_=>3) gb.free (g2.sub gb.free (Nat.le_refl _));have u3:∀t,Sub (Tag (tagN o1 n1 λ_=>3) t _) (Tag (tagN (tagN o1 n1 λ_=>3) na λ_=>4) t _):=λt=>Tag.old (τ:=λ_=>4) gc.free (g3.sub gc.free (Nat.le_refl _));have u4:∀t,Sub (Tag (tagN (tagN o1 n1 λ_=>3) na λ_=>4) t _) (Tag (tagN (tagN (tagN o1 n1 λ_=>3) na λ_=>4) nb λ_=>5) t _):=λt=>Tag.old (τ:=λ_=>5) gd.free (g4.sub gd.free (Nat.le_refl _));have v2:=IntsX.mono (Tag.new (o:=o1) (τ:=λ_=>3) (λ_ _=>rfl)) hxa;have v3:=IntsX.mono (Tag.new (o:=tagN o1 n1 λ_=>3) (τ:=λ_=>4) (λ_ _=>rfl)) hxs;have v4:=SlX.mono hxd (Tag.new (o:=tagN (tagN o1 n1 λ_=>3) na λ_=>4) (τ:=λ_=>5) (λ_ _=>rfl));obtain⟨o4,ho4⟩:∃o,o=tagN (tagN (tagN o1 n1 λ_=>3) na λ_=>4) nb λ_=>5:=⟨_,rfl⟩
 have t4:∀j,j<n+2->o4 j=0:=λj hj=>by rw[ho4,Qfm (by omega),Qfm (by omega),Qfm (by omega)];exact t1 j hj
 rw[<-ho4,<-hM]at u4 v4;have w1:RestT o4 (with' (newa++(newc++(newb++putS mu1 n [I r.me,I r.nodes,I r.view,I r.normal,I r.status,I r.commit,.bool r.sent,I r.log.base,r.log.snap.sv,xe',xa,xs,xd]))) fz) r xe' xa' xs':=by
  obtain⟨cs,f2,f3⟩:=f1;refine⟨⟨cs,f2.mono ((((u1 1 (by omega)).trans (u2 1)).trans (u3 1)).trans (u4 1)),f3.imp λc a g=>EntX.mono ((((u1 2 (by omega)).trans (u2 2)).trans (u3 2)).trans (u4 2)) g⟩,IntsX.mono ((u3 3).trans (u4 3)) v2,IntsX.mono (u4 4) v3⟩
 have w2:MixD o4 (with' mu fz) (with' (newa++(newc++(newb++putS mu1 n [I r.me,I r.nodes,I r.view,I r.normal,I r.status,I r.commit,.bool r.sent,I r.log.base,r.log.snap.sv,xe',xa,xs,xd]))) fz) r.dos 0 xd':=
  ⟨ds,v4,hdl,λj h1 h2=>by rw[if_neg (by omega)];exact hds.at h1 h2⟩
 clear hp f1 u1 u2 u3 u4 v2 v3 v4 hxa hxs ia ib ic hM ga gb gc gd ge g1 g2 g3 g4 hG hE ho1 ho4;generalize newa++(newc++(newb++putS mu1 n [I r.me,I r.nodes,I r.view,I r.normal,I r.status,I r.commit,.bool r.sent,I r.log.base,r.log.snap.sv,xe',xa,xs,xd]))=mup at*
 have c3:=Qem (fz:=fz) c1;simp only[↓E1,E2,seval, *,E3,List.append_assoc];refine loopI (x:=0) (L:=r.dos.length) (p:=λ_=>true) (λi e mu' n'=>∃o,Gr n fz mu mu' n n'/\n+2<=n'/\(∀j,j<n+2->o j=0)/\Ev.look mu' n=some (repC r xe' xa' xs' xd')/\Ev.look mu' (n+1)=some [I 0,I 0,I 0,I 0,I 0,I 0,.bool false,I 0,.str 0 0,.nsl,.nsl,.nsl,.nsl]/\RestT o (with' mu' fz) r xe' xa' xs'/\MixD o (with' mu fz) (with' mu' fz) r.dos i xd'/\e 0 1=.one (.optr n 0)/\e 0 2=.one (.optr (n+1) 0)/\e 1 6=.one (.int .i64 r.dos.length)/\e 1 7=.one (.int .i64 i)) (λ_ _ _=>False) ?_ ?_ _ _ _ _ _ (by omega) ?_ ?_ ?_
 ·rintro i e mu1 n1 K hi ⟨o,g1,a0,a1,a2,a3,a4,a5,a6,a7,a8,a9⟩ hy hn;refine Qt2 H r hz xe' xa' xs' xd' hfr n i hi g1.free g1 a2 ⟨Nat.le_refl _,a1 n (by omega)⟩ (λj hj=>a1 j (by omega)) a5 a6 a8 a9 (λe' mu' n' o' g' k1 k2 k3 k4 k5 k6 k7=>hy rfl _ _ _ ⟨o',g',?_,λj hj=>(k1 j (a1 j hj) (by omega)).2,?_,?_,RestT.mono k2 a4,k3,k4,k5.trans a7,k6,k7⟩)
  ·have:=g'.free.lt (Qem (fz:=fz) ((k1 (n+1) (a1 _ (by omega)) (by omega)).1.trans a3));omega
  ·exact(k1 n (a1 _ (by omega)) (by omega)).1.trans a2
  ·exact(k1 (n+1) (a1 _ (by omega)) (by omega)).1.trans a3
 ·rintro e mu1 n1 K ⟨o,g1,a0,a1,a2,a3,a4,a5,a6,a7,a8,a9⟩ hx;rw[dX l_Qc0_0.eq_1];have hlt:(r.dos.length<r.dos.length)=False:=by simp
  simp only[↓E1,E2,seval, *];exact hx _ _ _ ⟨o,g1,a0,a1,a2,a3,a4,a5,by simp[updN,updE,a6],by simp[updN,updE,a7],by simp[updN,updE,a8],by simp[updN,updE,a9]⟩
 ·refine⟨o4,gf.put (Nat.le_refl _) c1,by omega,t4,by rw[Qen,if_pos rfl,c1];rfl,by rw[Qen,if_neg (by omega),c2],RestT.mono (λt h1 h2=>Tag.put (lookI c1) (by rw[t4 n (by omega)];omega)) w1,MixD.mono (λt h1 h2=>Tag.put (lookI c1) (by rw[t4 n (by omega)];omega)) w2,by simp[updN,updE],by simp[updN,updE],by simp[updN,updE],by simp[updN,updE]⟩
 ·rintro -e1 mu1 n1 ⟨o,g1,a0,a1,a2,a3,a4,a5,a6,a7,a8,a9⟩;have b3:=Qem (fz:=fz) a2;obtain⟨cs,p1,p2,p3⟩:=a5;obtain⟨-,-,ydk,ydm⟩:=p1.len;obtain⟨⟨es,q1,q2⟩,q3,q4⟩:=a4;obtain⟨-,-,yek,yem⟩:=q1.len;obtain⟨-,-,yak,yam⟩:=SlX.len q3;obtain⟨-,-,ysk,ysm⟩:=SlX.len q4;have u:∀t,t≠0->Sub (Tag o t (with' mu1 fz)) (Tag o t (with' (putS mu1 (n+1) (repC r xe' xa' xs' xd')) fz)):=λt ht=>Tag.put (lookI a3) (by rw[a1 _ (by omega)];omega);have gz:=g1.put (id:=n+1) (by omega) a3 (c:=repC r xe' xa' xs' xd');unfold repC at a2 b3;unfold repC at u gz;simp only[↓E1,E2,seval, *,E3,List.append_assoc];refine hk _ _ _ gz ⟨xe',xa',xs',xd',o,rfl,λj hj=>a1 j (by omega),⟨⟨es,q1.mono (u 1 (by omega)),q2.imp λc a g=>EntX.mono (u 2 (by omega)) g⟩,IntsX.mono (u 3 (by omega)) q3,IntsX.mono (u 4 (by omega)) q4,cs,p1.mono (u 5 (by omega)),?_⟩⟩;refine All2.Qlq p2 λi a b ha hb=>?_;obtain⟨h1,e1⟩:=List.getElem?_eq_some_iff.1 ha;obtain⟨h2,e2⟩:=List.getElem?_eq_some_iff.1 hb;have:=p3 i h1 h2;rw[if_pos h2,e1,e2]at this;exact DvX.mono (u 6 (by omega)) this
 ·rintro⟨_,_,_,h⟩;cases h
end
def Qgu (me k:Int) (l:List Int) (i:Nat):Bool:=decide (0<=l.getD i 0)&&decide (l.getD i 0<k)&&decide (l.getD i 0≠me)&&(decide (i=0)||decide (l.getD (i-1) 0<l.getD i 0))
theorem Qqg (me k:Int) (l:List Int):Qf8 me k (-1) l=(List.range l.length).all (Qgu me k l):=by
 rw[Qkj,Bool.eq_iff_iff,List.all_eq_true,List.all_eq_true];simp only[List.mem_range];constructor
 ·intro h;have pos:∀i,i<l.length->0<=l.getD i 0:=by
   intro i;induction i with
   |zero=>intro hi;have:=h 0 hi;simp only[Qim,prv,Bool.and_eq_true,decide_eq_true_eq]at this;have:=this.1.1;simp at this;simp;omega
   |succ i ih=>intro hi;have h1:=h (i+1) hi;have h2:=ih (by omega);simp only[Qim,prv,Bool.and_eq_true,decide_eq_true_eq]at h1;have:=h1.1.1;simp at this h2⊢;omega
  intro i hi;have h1:=h i hi;have h2:=pos i hi;cases i with
  |zero=>simp only[Qim,Qgu,prv,Bool.and_eq_true,decide_eq_true_eq]at h1⊢;exact⟨⟨⟨h2,h1.1.2⟩,h1.2⟩,by simp⟩
  |succ i=>simp only[Qim,Qgu,prv,Bool.and_eq_true,decide_eq_true_eq]at h1⊢;exact⟨⟨⟨h2,h1.1.2⟩,h1.2⟩,by have:=h1.1.1;simp at this⊢;exact this⟩
 ·intro h i hi;have h1:=h i hi;cases i with
  |zero=>simp only[Qim,Qgu,prv,Bool.and_eq_true,decide_eq_true_eq]at h1⊢;exact⟨⟨by have:=h1.1.1.1;simp at this⊢;omega,h1.1.1.2⟩,h1.1.2⟩
  |succ i=>simp only[Qim,Qgu,prv,Bool.and_eq_true,decide_eq_true_eq]at h1⊢;exact⟨⟨by have:=h1.2;simp at this⊢;exact this,h1.1.1.2⟩,h1.1.2⟩
def doAt' (r:Rep) (i:Nat):Bool:=Qgu r.me r.nodes (r.dos.map (·.frm)) i&&dosOk r i
theorem do_all' (r:Rep):(Qf8 r.me r.nodes (-1) (r.dos.map (·.frm))&&dosB r)=(List.range r.dos.length).all (doAt' r):=by
 rw[Qqg,Qv5,List.length_map];unfold doAt';rw[Bool.eq_iff_iff];simp only[Bool.and_eq_true,List.all_eq_true];exact⟨λh i hi=>⟨h.1 i hi,h.2 i hi⟩,λh=>⟨λi hi=>(h i hi).1,λi hi=>(h i hi).2⟩⟩
section
variable {P:Program} (H:Fs P)
include H
theorem Qr4 (r:Rep) (xe xa xs xd:SV) (hl3:r.acks.length<=1152921504606846976) {fz:Fz} {mu:St} {n fu:Nat} (hfr0:Free fz mu n) (s2:IntsR (with' mu fz) xa r.acks) (hfu:r.acks.length<fu):
 Hide (∀(e:Env) mu1 n1 (K:LK) w,Gr n fz mu mu1 n n1->with' mu1 fz n=some (repC r xe xa xs xd)->e 0 1=.one (.optr n 0)->e 0 3=.one (.int .i64 0)->
  (r.acks.all countB=true->∀e' mu' n',Gr n fz mu mu' n n'->with' mu' fz n=some (repC r xe xa xs xd)->e' 0 1=.one (.optr n 0)->K (.exit 0) (tmE 241 e') mu' n')->
  (r.acks.all countB=false->∀e' mu' n',Gr n fz mu mu' n n'->e' 0 2=.one (.bool false)->K .ret (tmE 241 e') mu' n')->
  Lp (dcode pOrc False (CP P) fz fu l_Qeb_0) fu (tmE 241 e) mu1 n1 K w):=⟨by
 intro e mu1 n1 K w g1 b1 h0 hc hd hr;obtain⟨xal,xas,xak,xam⟩:=s2.len;refine loopI (x:=0) (L:=r.acks.length) (p:=λi=>(r.acks[i]?.map countB).getD true) (λi e mu' n'=>Gr n fz mu mu' n n'/\with' mu' fz n=some (repC r xe xa xs xd)/\e 0 1=.one (.optr n 0)/\e 0 3=.one (.int .i64 i)) (λe mu' n'=>Gr n fz mu mu' n n'/\e 0 2=.one (.bool false)) ?_ ?_ e mu1 n1 K w (by omega) ⟨g1,b1,h0,hc⟩ (λha e' mu' n' hI=>hd (Ql7 ha) e' mu' n' hI.1 hI.2.1 hI.2.2.1) (λhx e' mu' n' hR=>hr (Qh9 hx) e' mu' n' hR.1 hR.2)
 ·rintro i e mu1 n1 K hi ⟨g1,b1,h0,hc⟩ hy hn;have b0:=b1;have t1:=IntsR.mono (λ_ _ hh=>g1.old hfr0 hh) s2;obtain⟨id,off,cap,B,rfl,hB,hmk,hbd,hsub⟩:=t1.elem hi;have hw:=Qev hi (by omega);unfold repC at b1;rw[dX l_Qeb_0.eq_1];simp only[↓E1,E2,seval,h0,hc,hi,hB,hmk,hbd,hsub,b1];refine(ref1_Count H r.acks[i]).c1 g1.free trivial ?_;rintro v mu' n' g rfl;have g2:=g1.trans (g.weaken g1.le);have b2:=g.old g1.free b0;cases hp:countB r.acks[i]with
  |true=>
   simp only[↓E1,E2,seval,hc,hw];exact hy (by simp[hi,hp]) _ _ _ ⟨g2,b2,by simp[updN,updE,h0],by simp[updN,updE]⟩
  |false=>
   simp only[↓E1,E2,seval];exact hn (by simp[hi,hp]) _ _ _ ⟨g2,by simp[updN,updE]⟩
 ·rintro e mu1 n1 K ⟨g1,b1,h0,hc⟩ hx;have b0:=b1;unfold repC at b1;rw[dX l_Qeb_0.eq_1];have hlt:(r.acks.length<r.acks.length)=False:=by simp
  simp only[↓E1,E2,seval,h0,hc,hlt,xal,xas,b1];exact hx _ _ _ ⟨g1,b0,by simp[updN,updE,h0],by simp[updN,updE,hc]⟩⟩
theorem Qrz (r:Rep) (xe xa xs xd:SV) (hl1:r.starts.length<=1152921504606846976) {fz:Fz} {mu:St} {n fu:Nat} (hfr0:Free fz mu n) (s3:IntsR (with' mu fz) xs r.starts) (hfu:r.starts.length<fu):
 Hide (∀(e:Env) mu1 n1 (K:LK) w,Gr n fz mu mu1 n n1->with' mu1 fz n=some (repC r xe xa xs xd)->e 0 1=.one (.optr n 0)->e 0 4=.one (.int .i64 0)->
  (Qf8 r.me r.nodes (-1) r.starts=true->∀e' mu' n',Gr n fz mu mu' n n'->with' mu' fz n=some (repC r xe xa xs xd)->e' 0 1=.one (.optr n 0)->K (.exit 2) (tmE 241 e') mu' n')->
  (Qf8 r.me r.nodes (-1) r.starts=false->∀e' mu' n',Gr n fz mu mu' n n'->e' 0 2=.one (.bool false)->K .ret (tmE 241 e') mu' n')->
  Lp (dcode pOrc False (CP P) fz fu l_Qeb_1) fu (tmE 241 e) mu1 n1 K w):=⟨by
 intro e mu1 n1 K w g1 b1 h0 hc hd hr;obtain⟨xsl,xss,xsk,xsm⟩:=s3.len;rw[Qqg]at hd hr;refine loopI (x:=2) (L:=r.starts.length) (p:=Qgu r.me r.nodes r.starts) (λi e mu' n'=>Gr n fz mu mu' n n'/\with' mu' fz n=some (repC r xe xa xs xd)/\e 0 1=.one (.optr n 0)/\e 0 4=.one (.int .i64 i)) (λe mu' n'=>Gr n fz mu mu' n n'/\e 0 2=.one (.bool false)) ?_ ?_ e mu1 n1 K w (by omega) ⟨g1,b1,h0,hc⟩ (λha e' mu' n' hI=>hd (Qh0 ha) e' mu' n' hI.1 hI.2.1 hI.2.2.1) (λhx e' mu' n' hR=>hr (Qf1 hx) e' mu' n' hR.1 hR.2)
 ·rintro i e mu1 n1 K hi ⟨g1,b1,h0,hc⟩ hy hn;have b0:=b1;have t1:=IntsR.mono (λ_ _ hh=>g1.old hfr0 hh) s3;obtain⟨id,off,cap,B,rfl,hB,hmk,hbd,hsub⟩:=t1.elem hi;have hw:=Qev hi (by omega);have hg:r.starts.getD i 0=r.starts[i]:=by simp[hi]
  clear hd hr;unfold repC at b1;rw[dX l_Qeb_1.eq_1];cases i with
  |zero=>
   have hA:True:=trivial;have hi0:((0:Int)<(r.starts.length:Int))=True:=by simp;exact hi
   simp only[Nat.zero_mul,Nat.add_zero]at hsub hbd;simp only[↓E1,E2,seval, *,Nat.add_zero];repeat' ((with_reducible refine Qeo (λhb=>?_) (λhb=>?_))<;>(replace hA:=And.intro hA hb;clear hb;simp only[↓E1,E2,seval, *,Nat.add_zero]))
   all_goals first
    |(refine hy (by clear hy hn hB hsub b1 b0;simp_all [Qgu]) _ _ _ ⟨g1,b0,?_,?_⟩<;>simp[updN,updE,h0];done)
    |(refine hn (by clear hy hn hB hsub b1 b0;simp_all [Qgu];try omega) _ _ _ ⟨g1,?_⟩;simp[updN,updE];done)
  |succ i=>
   have hi':i<r.starts.length:=by omega
   obtain⟨id',off',cap',B',he,hB',hmk',hbd',hsub'⟩:=t1.elem hi';cases he;rw[hB]at hB';cases hB';have hw1:IntKind.i64.wrap (((i+1:Nat):Int)-1)=(i:Int):=by rw[wrap64 (by omega) (by omega)];omega
   have hp0:((0:Int)<((i+1:Nat):Int))=True:=by simp;try omega
   have hg':r.starts.getD i 0=r.starts[i]:=by simp[hi']
   have hA:True:=trivial;simp only[↓E1,E2,seval, *];repeat' ((with_reducible refine Qeo (λhb=>?_) (λhb=>?_))<;>(replace hA:=And.intro hA hb;clear hb;simp only[↓E1,E2,seval, *]))
   all_goals first
    |(refine hy (by clear hy hn hB hsub hsub' b1 b0;simp_all [Qgu]) _ _ _ ⟨g1,b0,?_,?_⟩<;>simp[updN,updE,h0];done)
    |(refine hn (by clear hy hn hB hsub hsub' b1 b0;simp_all [Qgu];try omega) _ _ _ ⟨g1,?_⟩;simp[updN,updE];done)
 ·rintro e mu1 n1 K ⟨g1,b1,h0,hc⟩ hx;have b0:=b1;unfold repC at b1;rw[dX l_Qeb_1.eq_1];have hlt:(r.starts.length<r.starts.length)=False:=by simp
  simp only[↓E1,E2,seval,h0,hc,hlt,xsl,xss,b1];exact hx _ _ _ ⟨g1,b0,by simp[updN,updE,h0],by simp[updN,updE,hc]⟩⟩
theorem Qr1 (r:Rep) (xe xa xs xd:SV) (hl2:r.dos.length<=1152921504606846976) (hok:∀d∈r.dos,Ok d.log) {fz:Fz} {mu:St} {n fu:Nat} (hfr0:Free fz mu n) (s4:DvsR (with' mu fz) xd r.dos) (hfu:r.dos.length<fu):
 Hide (∀(e:Env) mu1 n1 (K:LK) w,Gr n fz mu mu1 n n1->with' mu1 fz n=some (repC r xe xa xs xd)->e 0 1=.one (.optr n 0)->e 0 6=.one (.int .i64 0)->
  ((Qf8 r.me r.nodes (-1) (r.dos.map (·.frm))&&dosB r)=true->∀e' mu' n',Gr n fz mu mu' n n'->with' mu' fz n=some (repC r xe xa xs xd)->e' 0 1=.one (.optr n 0)->K (.exit 4) (tmE 241 e') mu' n')->
  ((Qf8 r.me r.nodes (-1) (r.dos.map (·.frm))&&dosB r)=false->∀e' mu' n',Gr n fz mu mu' n n'->e' 0 2=.one (.bool false)->K .ret (tmE 241 e') mu' n')->
  Lp (dcode pOrc False (CP P) fz fu l_Qeb_2) fu (tmE 241 e) mu1 n1 K w):=⟨by
 intro e mu1 n1 K w g1 b1 h0 hc hd hr;obtain⟨xdl,xds,xdk,xdm⟩:=s4.len;rw[do_all']at hd hr;refine loopI (x:=4) (L:=r.dos.length) (p:=doAt' r) (λi e mu' n'=>Gr n fz mu mu' n n'/\with' mu' fz n=some (repC r xe xa xs xd)/\e 0 1=.one (.optr n 0)/\e 0 6=.one (.int .i64 i)) (λe mu' n'=>Gr n fz mu mu' n n'/\e 0 2=.one (.bool false)) ?_ ?_ e mu1 n1 K w (by omega) ⟨g1,b1,h0,hc⟩ (λha e' mu' n' hI=>hd (Qh0 ha) e' mu' n' hI.1 hI.2.1 hI.2.2.1) (λhx e' mu' n' hR=>hr (Qf1 hx) e' mu' n' hR.1 hR.2)
 ·rintro i e mu1 n1 K hi ⟨g1,b1,h0,hc⟩ hy hn;have b0:=b1;have t1:=DvsR.mono (λ_ _ hh=>g1.old hfr0 hh) s4;obtain⟨id,off,cap,B,bx,rfl,hB,hmk,hbd,hsub,t5⟩:=t1.elem hi;have hmm:=ref4_LogMay H r.dos[i].log bx (hok _ (List.getElem_mem hi));have hw:=Qev hi (by omega);have hle:=Nat.le_refl n1;have hfr:=g1.free;have gg:=Gr.refl (lo:=n1) hfr;have hg:(r.dos.map (·.frm)).getD i 0=r.dos[i].frm:=by simp[hi]
  have hgi:r.dos[i]?=some r.dos[i]:=List.getElem?_eq_getElem hi;have hn1:n<n1:=g1.free.lt b1;have hne:¬n1=n:=by omega
  have hid:=hfr.lt hB;have hne2:¬n1=id:=by omega
  obtain⟨ybl,ybs,ybk,ybm⟩:=t5.len;clear hd hr;unfold repC at b1;unfold dvC at hsub;unfold lgC at hmm;rw[dX l_Qeb_2.eq_1];cases i with
  |zero=>
   have hi0:((0:Int)<(r.dos.length:Int))=True:=by simp;exact hi
   simp only[Nat.zero_mul,Nat.add_zero]at hsub hbd;have hA:True:=trivial;simp only[↓E1,E2,seval, *,Nat.add_zero];repeat' (first|((with_reducible refine Qeo (λhb=>?_) (λhb=>?_))<;>simp only[↓E1,E2,seval, *,Nat.add_zero])|((with_reducible refine CPr_f (f:=n_Qdu) ?_);((first|(refine(hmm).d2 hfr (by first|trivial|exact t5|assumption) ?_;rintro v mu2 n2 g2 rfl)|(refine(hmm).d3 hfr (λhm=>by first|trivial|exact EntsR.mono hm t5) ?_;rintro v mu2 n2 g2 b7 rfl)|(refine(hmm).c1 hfr (by first|trivial|exact t5|assumption) ?_;rintro v mu2 n2 g2 rfl)|(refine(hmm).c2 hfr (λhm=>by first|trivial|exact EntsR.mono hm t5) ?_;rintro v mu2 n2 g2 b7 rfl)|(refine(hmm).c3 hfr (λhm=>by first|trivial|exact EntsR.mono hm t5) ?_;rintro v mu2 n2 g2 b7 b8 rfl));(try replace b1:=g2.old hfr b1);(try replace b7:=g2.old hfr b7);(try replace t5:=EntsR.mono (λ_ _ hh=>g2.old hfr hh) t5);replace gg:=gg.trans (g2.weaken hle);replace hle:=Nat.le_trans hle g2.le;replace hfr:=g2.free;clear g2;simp only[↓E1,E2,seval, *,Nat.add_zero])))
   all_goals first
    |(refine hy (by clear hy hn hB hsub b1 b0 hmm;simp_all [doAt',Qgu,dosOk]) _ _ _ ⟨g1.trans (gg.weaken g1.le),b1,?_,?_⟩<;>simp[updN,updE,h0];done)
    |(refine hn (by clear hy hn hB hsub b1 b0 hmm;simp_all [doAt',Qgu,dosOk];try omega) _ _ _ ⟨(by first|exact g1.trans (gg.weaken g1.le)|exact g1.cons g1.le _),?_⟩;simp[updN,updE];done)
  |succ i=>
   have hi':i<r.dos.length:=by omega
   obtain⟨id',off',cap',B',bx',he,hB',hmk',hbd',hsub',_⟩:=t1.elem hi';cases he;rw[hB]at hB';cases hB';have hw1:IntKind.i64.wrap (((i+1:Nat):Int)-1)=(i:Int):=by rw[wrap64 (by omega) (by omega)];omega
   have hp0:((0:Int)<((i+1:Nat):Int))=True:=by simp;try omega
   have hg':(r.dos.map (·.frm)).getD i 0=r.dos[i].frm:=by simp[hi']
   have hbx:(B.drop (off+i*6)).take 1=[I r.dos[i].frm]:=by
    have:=congrArg (List.take 1) hsub';rw[List.take_take]at this;simpa[dvC]using this
   have hbb:off+i*6+1<=B.length:=by omega
   clear hsub';have hA:True:=trivial;simp only[↓E1,E2,seval, *,Nat.add_zero];repeat' (first|((with_reducible refine Qeo (λhb=>?_) (λhb=>?_))<;>simp only[↓E1,E2,seval, *,Nat.add_zero])|((with_reducible refine CPr_f (f:=n_Qdu) ?_);((first|(refine(hmm).d2 hfr (by first|trivial|exact t5|assumption) ?_;rintro v mu2 n2 g2 rfl)|(refine(hmm).d3 hfr (λhm=>by first|trivial|exact EntsR.mono hm t5) ?_;rintro v mu2 n2 g2 b7 rfl)|(refine(hmm).c1 hfr (by first|trivial|exact t5|assumption) ?_;rintro v mu2 n2 g2 rfl)|(refine(hmm).c2 hfr (λhm=>by first|trivial|exact EntsR.mono hm t5) ?_;rintro v mu2 n2 g2 b7 rfl)|(refine(hmm).c3 hfr (λhm=>by first|trivial|exact EntsR.mono hm t5) ?_;rintro v mu2 n2 g2 b7 b8 rfl));(try replace b1:=g2.old hfr b1);(try replace b7:=g2.old hfr b7);(try replace t5:=EntsR.mono (λ_ _ hh=>g2.old hfr hh) t5);replace gg:=gg.trans (g2.weaken hle);replace hle:=Nat.le_trans hle g2.le;replace hfr:=g2.free;clear g2;simp only[↓E1,E2,seval, *,Nat.add_zero])))
   all_goals first
    |(refine hy (by clear hy hn hB hsub b1 b0 hmm;simp_all [doAt',Qgu,dosOk]) _ _ _ ⟨g1.trans (gg.weaken g1.le),b1,?_,?_⟩<;>simp[updN,updE,h0];done)
    |(refine hn (by clear hy hn hB hsub b1 b0 hmm;simp_all [doAt',Qgu,dosOk];try omega) _ _ _ ⟨(by first|exact g1.trans (gg.weaken g1.le)|exact g1.cons g1.le _),?_⟩;simp[updN,updE];done)
 ·rintro e mu1 n1 K ⟨g1,b1,h0,hc⟩ hx;have b0:=b1;unfold repC at b1;rw[dX l_Qeb_2.eq_1];have hlt:(r.dos.length<r.dos.length)=False:=by simp
  simp only[↓E1,E2,seval,h0,hc,hlt,xdl,xds,b1];exact hx _ _ _ ⟨g1,b0,by simp[updN,updE,h0],by simp[updN,updE,hc]⟩⟩
end
end Go.Proofs.YtnnjlnkoomeadaaGreat.Pv
