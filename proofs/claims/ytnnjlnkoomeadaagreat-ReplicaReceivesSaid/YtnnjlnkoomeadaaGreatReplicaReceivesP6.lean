/-
  ReplicaReceives: part 6 of what the proof is made of.
-/
import Derived.Test.YtnnjlnkoomeadaaGreatReplicaReceivesP5
import Derived.Shelf.Spec.SlicesInsertGrow
set_option linter.unusedVariables false
set_option linter.unusedSimpArgs false
set_option linter.unusedSectionVars false
noncomputable section
namespace Go.Proofs.YtnnjlnkoomeadaaGreat.Pv
open Go.Ev Go.Ev.Rp
set_option maxRecDepth 100000
set_option maxHeartbeats 4000000
theorem Qky (r:Rep):repB r=(Qj1 r.nodes&&decide (0<=r.me)&&decide (r.me<r.nodes)&&decide (0<=r.status)&&decide (r.status<=2)&&countB r.view&&countB r.normal&&countB r.commit&&
 decide (r.normal<=r.view)&&(decide (r.status≠0)||decide (r.normal=r.view))&&lgB r.log&&decide (r.log.base<=r.commit)&&decide (r.commit<=last r.log)&&
 decide ((r.acks.length:Int)=r.nodes)&&r.acks.all countB&&(decide (r.status=1)||decide (r.starts.length=0)&&decide (r.dos.length=0)&&!r.sent)&&
 Qf8 r.me r.nodes (-1) r.starts&&(Qf8 r.me r.nodes (-1) (r.dos.map (·.frm))&&dosB r)):=by
 unfold repB;rw[Bool.and_assoc (_&&Qf8 r.me r.nodes (-1) r.starts)]
theorem Qu4 {a b mu:St} {fz:Fz} {id:Nat} {c:List SV} (h1:with' (a++mu) fz id=some c) (h2:with' (b++(a++mu)) fz id=some c):with' (a++b++mu) fz id=some c:=by
 rw[Qe5,Qe1]at h1;rw[Qe5,Qe1,Qe1]at h2;rw[List.append_assoc,Qe5,Qe1,Qe1];cases ea:Ev.look a id with
 |some x=>rw[ea]at h1;exact h1
 |none=>
  rw[ea]at h1 h2;cases eb:Ev.look b id with
  |some x=>rw[eb]at h2;exact h2
  |none=>exact h1
section
variable {P:Program} (H:Fs P)
include H
theorem ref16_May (r:Rep) (xe xa xs xd:SV) (hl1:r.starts.length<=1152921504606846976) (hl2:r.dos.length<=1152921504606846976) (hl3:r.acks.length<=1152921504606846976) (hok1:Ok r.log) (hok2:∀d∈r.dos,Ok d.log):
 BoolC P n_Qeb [.ag (repC r xe xa xs xd)] (λM=>RepS M r xe xa xs xd) (repB r):=boolC H.mx H.Qeb (r.acks.length+r.starts.length+r.dos.length+1) λfz mu n k hfr gg s h=>by
 obtain⟨s1,s2,s3,s4⟩:=s;obtain⟨xel,xes,xek,xem⟩:=s1.len;obtain⟨xal,xas,xak,xam⟩:=s2.len;obtain⟨xsl,xss,xsk,xsm⟩:=s3.len;obtain⟨xdl,xds,xdk,xdm⟩:=s4.len;have hfr0:=hfr;have loop0:=Qr4 H r xe xa xs xd hl3 (fu:=r.acks.length+r.starts.length+r.dos.length+1) hfr0 s2 (by omega);have loop1:=Qrz H r xe xa xs xd hl1 (fu:=r.acks.length+r.starts.length+r.dos.length+1) hfr0 s3 (by omega);have loop2:=Qr1 H r xe xa xs xd hl2 hok2 (fu:=r.acks.length+r.starts.length+r.dos.length+1) hfr0 s4 (by omega);rw[dY a_Qeb.eq_1 b_Qeb.eq_1];unfold repC;have hA:True:=trivial;have hle:=Nat.le_refl n;simp only[↓E1,E2,seval, *];repeat' (first|((with_reducible refine Qeo (λhb=>?_) (λhb=>?_))<;>(replace hA:=And.intro hA hb;clear hb;simp only[↓E1,E2,seval, *]))|((with_reducible refine CPr_f (f:=n_Qdt) ?_);((first|(refine(ref16_Nodes H _).d2 hfr (by first|trivial|exact s1|assumption) ?_;rintro v mu2 n2 g2 rfl)|(refine(ref16_Nodes H _).d3 hfr (λhm=>by first|trivial|exact EntsR.mono hm s1) ?_;rintro v mu2 n2 g2 b1 rfl)|(refine(ref16_Nodes H _).c1 hfr (by first|trivial|exact s1|assumption) ?_;rintro v mu2 n2 g2 rfl)|(refine(ref16_Nodes H _).c2 hfr (λhm=>by first|trivial|exact EntsR.mono hm s1) ?_;rintro v mu2 n2 g2 b1 rfl)|(refine(ref16_Nodes H _).c3 hfr (λhm=>by first|trivial|exact EntsR.mono hm s1) ?_;rintro v mu2 n2 g2 b1 b2 rfl));(try replace b1:=g2.old hfr b1);(try replace s1:=EntsR.mono (λ_ _ hh=>g2.old hfr hh) s1);replace gg:=gg.trans (g2.weaken hle);replace hle:=Nat.le_trans hle g2.le;replace hfr:=g2.free;clear g2;simp only[↓E1,E2,seval, *]))|((with_reducible refine CPr_f (f:=n_Qd4) ?_);((first|(refine(ref1_Count H _).d2 hfr (by first|trivial|exact s1|assumption) ?_;rintro v mu2 n2 g2 rfl)|(refine(ref1_Count H _).d3 hfr (λhm=>by first|trivial|exact EntsR.mono hm s1) ?_;rintro v mu2 n2 g2 b1 rfl)|(refine(ref1_Count H _).c1 hfr (by first|trivial|exact s1|assumption) ?_;rintro v mu2 n2 g2 rfl)|(refine(ref1_Count H _).c2 hfr (λhm=>by first|trivial|exact EntsR.mono hm s1) ?_;rintro v mu2 n2 g2 b1 rfl)|(refine(ref1_Count H _).c3 hfr (λhm=>by first|trivial|exact EntsR.mono hm s1) ?_;rintro v mu2 n2 g2 b1 b2 rfl));(try replace b1:=g2.old hfr b1);(try replace s1:=EntsR.mono (λ_ _ hh=>g2.old hfr hh) s1);replace gg:=gg.trans (g2.weaken hle);replace hle:=Nat.le_trans hle g2.le;replace hfr:=g2.free;clear g2;simp only[↓E1,E2,seval, *]))|((with_reducible refine CPr_f (f:=n_Qdu) ?_);((first|(refine(ref4_LogMay H r.log xe hok1).d2 hfr (by first|trivial|exact s1|assumption) ?_;rintro v mu2 n2 g2 rfl)|(refine(ref4_LogMay H r.log xe hok1).d3 hfr (λhm=>by first|trivial|exact EntsR.mono hm s1) ?_;rintro v mu2 n2 g2 b1 rfl)|(refine(ref4_LogMay H r.log xe hok1).c1 hfr (by first|trivial|exact s1|assumption) ?_;rintro v mu2 n2 g2 rfl)|(refine(ref4_LogMay H r.log xe hok1).c2 hfr (λhm=>by first|trivial|exact EntsR.mono hm s1) ?_;rintro v mu2 n2 g2 b1 rfl)|(refine(ref4_LogMay H r.log xe hok1).c3 hfr (λhm=>by first|trivial|exact EntsR.mono hm s1) ?_;rintro v mu2 n2 g2 b1 b2 rfl));(try replace b1:=g2.old hfr b1);(try replace s1:=EntsR.mono (λ_ _ hh=>g2.old hfr hh) s1);replace gg:=gg.trans (g2.weaken hle);replace hle:=Nat.le_trans hle g2.le;replace hfr:=g2.free;clear g2;simp only[↓E1,E2,seval, *])))
 all_goals try ((with_reducible refine CPr_f (f:=n_Qd2) ?_);refine(ref16_Last H r.log xe).d2 hfr s1 ?_;rintro v w2 n2 g2 rfl;have b8:=b1;replace b1:=g2.old hfr b1;have b9:=Qu4 b8 b1;clear b8;replace s1:=EntsR.mono (λ_ _ hh=>g2.old hfr hh) s1;replace gg:=gg.trans (g2.weaken hle);replace hle:=Nat.le_trans hle g2.le;replace hfr:=g2.free;clear g2;simp only[↓E1,E2,seval, *])
 repeat' (first|((with_reducible refine Qeo (λhb=>?_) (λhb=>?_))<;>(replace hA:=And.intro hA hb;clear hb;simp only[↓E1,E2,seval, *])))
 all_goals (try clear b9)
 all_goals try (refine leafB h (by first|exact gg|exact gg.cons hle _|exact(gg.cons hle _).cons (Nat.le_succ_of_le hle) _) ?_;(clear h gg hle hfr);(try clear loop);(try clear loop0);(try clear loop1);(try clear s1);(try clear s2);(try clear s3);(try clear s4);(try clear b1);(try clear b2);clear loop2 xel xes xek xem xal xas xak xam xsl xss xsk xsm xdl xds xdk xdm hfr0;rw[Qky];(try generalize r.acks.all countB=qq at hA⊢);first|(simp_all [-List.length_eq_zero_iff];done)|(simp_all [-List.length_eq_zero_iff];omega))
 all_goals ((with_reducible refine Lp_at ?_);refine loop0.out _ _ _ _ _ gg b1 (by simp[updN,updE]) (by simp[updN,updE]) (λhr e1 mu1 n1 g1 b1 a2=>?_) (λhr e1 mu1 n1 g1 a1=>?_))
 all_goals (replace hA:=And.intro hA hr;clear hr gg s1 hfr hle)
 all_goals try (simp only[↓E1,E2,seval, *];refine leafB h g1 ?_;clear h g1 loop0 loop1 loop2 b1 xel xes xek xem xal xas xak xam xsl xss xsk xsm xdl xds xdk xdm hfr0;rw[Qky];(try generalize r.acks.all countB=qq at hA⊢);simp_all [-List.length_eq_zero_iff];done)
 all_goals simp only[↓E1,E2,seval, *]
 all_goals (refine loop1.out _ _ _ _ _ g1 b1 (by simp[updN,updE, *]) (by simp[updN,updE, *]) (λhr e2 mu2 n2 g2 b2 a3=>?_) (λhr e2 mu2 n2 g2 a1=>?_))
 all_goals (replace hA:=And.intro hA hr;clear hr)
 all_goals try (simp only[↓E1,E2,seval, *];refine leafB h g2 ?_;clear h g1 g2 loop0 loop1 loop2 b1 xel xes xek xem xal xas xak xam xsl xss xsk xsm xdl xds xdk xdm hfr0;rw[Qky];(try generalize r.acks.all countB=qq at hA⊢);simp_all [-List.length_eq_zero_iff];done)
 all_goals simp only[↓E1,E2,seval, *]
 all_goals (refine loop2.out _ _ _ _ _ g2 b2 (by simp[updN,updE, *]) (by simp[updN,updE, *]) (λhr e3 mu3 n3 g3 b3 a4=>?_) (λhr e3 mu3 n3 g3 a1=>?_))
 all_goals (replace hA:=And.intro hA hr;clear hr)
 all_goals try (simp only[↓E1,E2,seval, *];refine leafB h g3 ?_;clear h g1 g2 g3 loop0 loop1 loop2 b1 b2 xel xes xek xem xal xas xak xam xsl xss xsk xsm xdl xds xdk xdm hfr0;rw[Qky];(try generalize r.acks.all countB=qq at hA⊢);simp_all [-List.length_eq_zero_iff];done)
 all_goals (clear b1 b2 g1 g2;unfold repC at b3;simp only[↓E1,E2,seval, *])
 all_goals repeat' ((with_reducible refine Qeo (λhb=>?_) (λhb=>?_))<;>(replace hA:=And.intro hA hb;clear hb;simp only[↓E1,E2,seval, *]))
 all_goals (refine leafB h g3 ?_;clear h g3 loop0 loop1 loop2 b3 xel xes xek xem xal xas xak xam xsl xss xsk xsm xdl xds xdk xdm hfr0;rw[Qky];(try generalize r.acks.all countB=qq at hA⊢);first|(simp_all [-List.length_eq_zero_iff];done)|(simp_all [-List.length_eq_zero_iff];omega))
end
end Go.Proofs.YtnnjlnkoomeadaaGreat.Pv
namespace Go.Ev
def oth (me:Int):List Int->Nat->List Int
 |[],_=>[]
 |x::t,i=>if(i:Int)=me then oth me t (i+1)else x::oth me t (i+1)
theorem Qnq (me:Int):∀(a b:List Int) (i:Nat),oth me (a++b) i=oth me a i++oth me b (i+a.length)
 |[],b,i=>by simp[oth]
 |x::a,b,i=>by
  simp only[List.cons_append,oth,Qnq me a b (i+1),List.length_cons];rw[show i+1+a.length=i+(a.length+1) by omega];split<;>simp
theorem Qtk (me:Int) {l:List Int} {i:Nat} (h:i<l.length):oth me (l.take (i+1)) 0=if(i:Int)=me then oth me (l.take i) 0 else oth me (l.take i) 0++[l[i]]:=by
 rw[List.take_succ_eq_append_getElem h,Qnq];simp only[oth,List.length_take,Nat.zero_add,show min i l.length=i by omega];split<;>simp
theorem Qjy (me:Int):∀(l:List Int) (i:Nat),(oth me l i).length<=l.length
 |[],_=>by simp[oth]
 |x::t,i=>by
  have:=Qjy me t (i+1);simp only[oth];split<;>simp<;>omega
def manyL (me:Int) (l:List Int) (t:Int):Nat:=(oth me l 0).countP (λx=>decide (t<=x))
theorem Qvm (me:Int) (t:Int) {l:List Int} {i:Nat} (h:i<l.length):manyL me (l.take (i+1)) t=if(i:Int)≠me/\t<=l[i]then manyL me (l.take i) t+1 else manyL me (l.take i) t:=by
 unfold manyL;rw[Qtk me h];by_cases h1:(i:Int)=me
 ·simp[h1]
 ·by_cases h2:t<=l[i]<;>simp[h1,h2]
theorem many_le (me:Int) (l:List Int) (t:Int):manyL me l t<=l.length:=Nat.le_trans List.countP_le_length (Qjy me l 0)
theorem Qo0 {S:List Int} (hs:S.Pairwise (· <=·)) {f:Nat} (h0:0<f) (hf:f<=S.length) (t:Int):f<=S.countP (fun x=>decide (t<=x))↔t<=S[S.length-f]'(by omega):=by
 constructor
 ·intro h;rcases Int.lt_or_le (S[S.length-f]'(by omega)) t with h1|h1
  ·exfalso
   have h2:(S.take (S.length-f+1)).countP (λx=>decide (t<=x))=0:=by
    rw[List.countP_eq_zero];intro x hx;obtain⟨j,hj,rfl⟩:=List.getElem_of_mem hx;simp only[List.length_take]at hj;rw[List.getElem_take];simp only[decide_eq_true_eq];rcases Nat.lt_or_ge j (S.length-f)with h3|h3
    ·have:=List.pairwise_iff_getElem.1 hs j (S.length-f) (by omega) (by omega) h3;omega
    ·have:j=S.length-f:=by omega
     subst this;omega
   have h3:=@List.countP_le_length _ (λx=>decide (t<=x)) (S.drop (S.length-f+1));have h4:S.countP (λx=>decide (t<=x))=(S.take (S.length-f+1)++S.drop (S.length-f+1)).countP (λx=>decide (t<=x)):=by rw[List.take_append_drop]
   rw[List.countP_append,h2]at h4;simp only[List.length_drop]at h3;omega
  ·exact h1
 ·intro h;have h1:(S.drop (S.length-f)).countP (λx=>decide (t<=x))=(S.drop (S.length-f)).length:=by
   rw[List.countP_eq_length];intro x hx;obtain⟨j,hj,rfl⟩:=List.getElem_of_mem hx;simp only[List.length_drop]at hj;rw[List.getElem_drop];simp only[decide_eq_true_eq];rcases Nat.eq_zero_or_pos j with rfl|h3
   ·simpa using h
   ·have:=List.pairwise_iff_getElem.1 hs (S.length-f) (S.length-f+j) (by omega) (by omega) (by omega);omega
  have h4:S.countP (λx=>decide (t<=x))=(S.take (S.length-f)++S.drop (S.length-f)).countP (λx=>decide (t<=x)):=by rw[List.take_append_drop]
  rw[List.countP_append,h1]at h4;simp only[List.length_drop]at h4;omega
def srt (l:List Int):List Int:=l.mergeSort λx y=>decide (x<=y)
def commF (acks:List Int) (me last:Int):Int:=
 let f:=(acks.length-1)/2
 let S:=srt (oth me acks 0)
 if f=0 then max 0 last else if h:f<=S.length/\0<f then max 0 (min last (S[S.length-f]'(by omega)))else 0
theorem Qg2 (l:List Int):(srt l).length=l.length:=by unfold srt;exact List.length_mergeSort l
theorem Qk4 (l:List Int):(srt l).Pairwise (· <=·):=by
 have:=List.pairwise_mergeSort (le:=λx y:Int=>decide (x<=y)) (λa b c h1 h2=>by simp at*;omega) (λa b=>by simp;omega) l;exact this.imp λh=>by simpa using h
theorem Qni {acks:List Int} {me last:Int} (h:(acks.length-1)/2=0):commF acks me last=max 0 last:=by
 unfold commF;dsimp only;rw[if_pos h]
theorem Qws {acks:List Int} {me last:Int} (h:¬(acks.length-1)/2=0) (h2:(oth me acks 0).length<(acks.length-1)/2):commF acks me last=0:=by
 unfold commF;dsimp only;rw[if_neg h,dif_neg (by rw[Qg2];omega)]
theorem Qx8 {acks:List Int} {me last:Int} {f j:Nat} (hf:(acks.length-1)/2=f) (h:0<f) (h2:f<=(oth me acks 0).length) (hj:j=(oth me acks 0).length-f) (hj2:j<(srt (oth me acks 0)).length):commF acks me last=max 0 (min last (srt (oth me acks 0))[j]):=by
 subst hf;unfold commF;dsimp only;rw[if_neg (by omega),dif_pos ⟨by rw[Qg2];exact h2,h⟩];have:(srt (oth me acks 0)).length-(acks.length-1)/2=j:=by rw[Qg2];exact hj.symm
 simp only[this]
theorem Ql5 (me:Int) (l:List Int) (t:Int):manyL me l t=(srt (oth me l 0)).countP (λx=>decide (t<=x)):=
 ((List.mergeSort_perm _ _).countP_eq _).symm
theorem comm_at {acks:List Int} {me last t:Int} (h0:0<t) (hl:t<=last) (hn:∀u,t<u->u<=last->manyL me acks u<(acks.length-1)/2) (h:(acks.length-1)/2<=manyL me acks t):commF acks me last=t:=by
 unfold commF;dsimp only;by_cases hf:(acks.length-1)/2=0
 ·rw[if_pos hf];rcases Int.lt_or_le t last with h1|h1
  ·have:=hn last h1 (Int.le_refl _);omega
  ·omega
 ·rw[if_neg hf];have hlen:(acks.length-1)/2<=(srt (oth me acks 0)).length:=by rw[Ql5]at h;exact Nat.le_trans h List.countP_le_length
  rw[dif_pos ⟨hlen,by omega⟩];rw[Ql5,Qo0 (Qk4 _) (by omega) hlen]at h;rcases Int.lt_or_le t last with h1|h1
  ·have:=hn (t+1) (by omega) (by omega);rw[Ql5]at this;have h2:=mt (Qo0 (Qk4 (oth me acks 0)) (by omega) hlen (t+1)).2 (by omega);omega
  ·omega
theorem Qxt {acks:List Int} {me last:Int} (hn:∀u,0<u->u<=last->manyL me acks u<(acks.length-1)/2):commF acks me last=0:=by
 unfold commF;dsimp only;by_cases h1:0<last
 ·have h2:=hn last h1 (Int.le_refl _);have hf:¬(acks.length-1)/2=0:=by omega
  rw[if_neg hf];split
  ·rename_i h3;have h4:=hn 1 (by omega) (by omega);rw[Ql5]at h4;have h5:=mt (Qo0 (Qk4 (oth me acks 0)) h3.2 h3.1 1).2 (by omega);omega
  ·rfl
 ·split
  ·omega
  ·split<;>omega
end Go.Ev
namespace Go.Proofs.YtnnjlnkoomeadaaGreat.Pv
open Go.Ev Go.Ev.Rp
set_option maxRecDepth 100000
set_option maxHeartbeats 4000000
def IntR (_:Fz) (c:List SV) (a:Int):Prop:=c=intC a
theorem Qqe {M:Fz}:∀{cs:List (List SV)} {l:List Int},All2 (IntR M) cs l->cs=l.map intC
 |[],[],_=>rfl
 |c::cs,a::l,h=>by rw[show c=intC a from h.1,Qqe h.2];rfl
theorem Qmr {lo:Nat} {M:Fz} {x:SV} {l:List Int} (h:Grow lo M 1 IntR x l):IntsX (From lo M) x l:=by
 obtain⟨cs,h1,h2⟩:=h;rw[Qqe h2]at h1;exact h1
theorem Qj6 (l:List Int):(l.map intC).flatten=l.map (SV.int .i64):=by
 induction l with
 |nil=>rfl
 |cons a l ih=>rw[List.map_cons,List.flatten_cons,ih];rfl
theorem Qqz (l:List Int):mkd (l.map (SV.int .i64))=false:=by cases l<;>rfl
theorem Qu1 {l:List Int} {j:Nat} (h:j<l.length):List.take 1 (List.drop (j*1) (l.map (SV.int .i64)))=[I l[j]]:=by
 rw[Nat.mul_one,List.drop_eq_getElem_cons (by simpa using h)];simp
theorem Qel {tm:TM}:evs tm []=[]:=rfl
theorem Qek {tm:TM} {x:Od} {l:List Od}:evs tm (x::l)=ev tm x::evs tm l:=rfl
set_option linter.defProp false in
def E4:=And.intro E2 (And.intro @Qek (And.intro @Qel E3))
def SortC (P:Program):Prop:=∀(id cap:Nat) (l:List Int) (fz:Fz) (mu:St) (n:Nat) (k:AV->St->Nat->Prop),Ev.look mu id=some (l.map (SV.int .i64))->l.length<4611686018427387904->k (.tp []) (putS mu id ((srt l).map (SV.int .i64))) n->CP P n_Qaz [.one (.osl id 0 l.length cap 1)] fz mu n k
section
variable {P:Program} (H:Fs P)
include H
theorem replica_Committed (hS:SortC P) (x:SV) (acks:List Int) (me last:Int) (hl:acks.length<=17592186044415):Ctr P n_Qbd [.one x,.one (I me),.one (I last)] (fun M=>IntsR M x acks) (fun _ _ _ v=>v=.one (I (commF acks me last))):=Ctr.of H.mx H.Qbd (fun _=>acks.length+1) fun fz mu n k hfr s1 hk=>by
 obtain⟨xl,xs,xk,xm⟩:=s1.len;rw[dY a_Qbd.eq_1 b_Qbd.eq_1];simp only[↓E1,E2,seval, *];refine loopI (x:=0) (L:=acks.length) (p:=λ_=>true) (λi e mu' n'=>∃xo,Gr n fz mu mu' n n'/\Grow n (with' mu' fz) 1 IntR xo (oth me (acks.take i) 0)/\e 0 0=.one x/\e 0 1=.one (I me)/\e 0 2=.one (I last)/\e 0 7=.one xo/\e 0 11=.one x/\e 0 12=.one (.int .i64 acks.length)/\e 0 13=.one (.int .i64 i)) (λe mu' n'=>False) ?_ ?_ _ _ _ _ _ (by omega) ?_ ?_ ?_
 ·rintro i e mu1 n1 K hi ⟨xo,g1,c4,e0,e1,e2,e7,e11,e12,e13⟩ hy hn;rw[dX l_Qbd_0.eq_1];have hw:=Qev hi (by omega);obtain⟨id,off,cap,B,rfl,hB,hmk,hbd,hsub⟩:=(IntsR.mono (λ_ _ hh=>g1.old hfr hh) s1).elem hi;have hot:=Qtk me hi;obtain⟨xol,xos,xok,xom⟩:=c4.len;have hol:=Qjy me (acks.take i) 0;rw[List.length_take]at hol;simp only[↓E1,E2,seval, *];refine Qeo (λhb=>?_) (λhb=>?_)
  ·have hme:(i:Int)=me:=by simpa using hb
   rw[if_pos hme]at hot;clear hme;simp only[↓E1,E2,seval, *];refine hy rfl _ _ _ ⟨xo,g1,by rw[hot];exact c4,?_,?_,?_,?_,?_,?_,?_⟩;all_goals simp[updN,updE, *]
  ·have hme:¬(i:Int)=me:=by simpa using hb
   rw[if_neg hme]at hot;clear hme;simp only[↓E1,E2,seval, *];refine Grow.more (R:=IntR) (λ_ h=>h) (a:=acks[i]) c4 g1.free g1.le (λj hj=>hfr.fz j hj) ((Gr.refl g1.free).cons (Nat.le_refl _) _) rfl ⟨rfl,rfl⟩ (Qfc (by omega) (by decide) (by decide)) (λmu3 g3 G3=>?_);simp only[↓E1,E2,seval, *];refine hy rfl _ _ _ ⟨_,g1.trans g3,by rw[hot];exact G3,?_,?_,?_,?_,?_,?_,?_⟩;all_goals simp[updN,updE, *]
 ·rintro e mu1 n1 K ⟨xo,g1,c4,e0,e1,e2,e7,e11,e12,e13⟩ hx;rw[dX l_Qbd_0.eq_1];have hlt:((acks.length:Int)<acks.length)=False:=by simp
  simp only[↓E1,E2,seval, *];exact hx _ _ _ ⟨xo,g1,c4,by simp[updN,updE,e0],by simp[updN,updE,e1],by simp[updN,updE,e2],by simp[updN,updE,e7],by simp[updN,updE,e11],by simp[updN,updE,e12],by simp[updN,updE,e13]⟩
 ·exact⟨.nsl,Gr.refl hfr,Grow.nil,by simp[updN,updE,envI],by simp[updN,updE,envI],by simp[updN,updE,envI],by simp[updN,updE],by simp[updN,updE],by simp[updN,updE],by simp[updN,updE]⟩
 ·rintro -e1 mu1 n1 ⟨xo,g1,c4,e0,e1,e2,e7,e11,e12,e13⟩;rw[List.take_length]at c4;obtain⟨f,hf⟩:∃f,(acks.length-1)/2=f:=⟨_,rfl⟩
  have hw1:IntKind.i64.wrap ((acks.length:Int)-1)=(acks.length:Int)-1:=wrap64 (by omega) (by omega);have hq:((acks.length:Int)-1).tdiv 2=(f:Int):=by
   rcases Nat.eq_zero_or_pos acks.length with h0|h0
   ·rw[h0]at hf⊢;subst hf;rfl
   ·rw[Int.tdiv_eq_ediv_of_nonneg (by omega)];omega
  have hw2:IntKind.i64.wrap (f:Int)=(f:Int):=wrap64 (by omega) (by omega);obtain⟨xol,xos,xok,xom⟩:=c4.len;have hol:=Qjy me acks 0;simp only[↓E1,E2,seval, *];refine Qeo (λhb=>?_) (λhb=>?_)
  ·simp only[↓E1,E2,seval, *];simp only[Qek,Qel];simp only[↓E1,E2,seval];refine hk _ _ _ g1 ?_;have h0:acks.length=0:=by simpa using hb
   have h1:f=0:=by omega
   rw[Qni (hf.trans h1)]
  ·simp only[↓E1,E2,seval, *];refine Qeo (λhc=>?_) (λhc=>?_)
   ·simp only[↓E1,E2,seval, *];simp only[Qek,Qel];simp only[↓E1,E2,seval];refine hk _ _ _ g1 ?_;have h1:f=0:=by have:(f:Int)<=0:=(by simpa using hc);omega
    rw[Qni (hf.trans h1)]
   ·simp only[↓E1,E2,seval, *];have h1:0<f:=by have:¬(f:Int)<=0:=(by simpa using hc);omega
    refine Qeo (λhd=>?_) (λhd=>?_)
    ·simp only[↓E1,E2,seval, *];refine hk _ _ _ g1 ?_;have h2:(oth me acks 0).length<f:=by simpa using hd
     rw[Qws (by omega) (by omega)]
    ·have h2:f<=(oth me acks 0).length:=Nat.not_lt.1 (of_decide_eq_false hd);rcases Qmr c4 with⟨_,h3⟩|⟨id,rfl,h3,hmk,hes⟩
     ·have h9:(oth me acks 0).length=0:=by have:=congrArg List.length h3;rwa [List.length_map]at this
      omega
     have hlk:Ev.look mu1 id=some ((oth me acks 0).map (SV.int .i64)):=by
      obtain⟨h4,h5⟩:=From.el h3;rw[Qfp (hfr.fz id h4)]at h5;rw[h5,Qj6]
     have hid:n<=id:=From.lt h3;clear h3 hmk hes c4;simp only[List.length_map]at e7 xol xos xok xom;obtain⟨j,hj⟩:∃j,j=(oth me acks 0).length-f:=⟨_,rfl⟩
     have hj2:j<(srt (oth me acks 0)).length:=by rw[Qg2];omega
     have hco:=Qx8 (last:=last) hf h1 h2 hj hj2;have hw5:IntKind.i64.wrap (((oth me acks 0).length:Int)-f)=(j:Int):=by rw[wrap64 (by omega) (by omega)];omega
     have hcall:=hS id (oth me acks 0).length (oth me acks 0) fz mu1 n1;simp only[↓E1,E2,seval, *];refine hcall _ hlk (by omega) ?_;have hB:with' (putS mu1 id ((srt (oth me acks 0)).map (SV.int .i64))) fz id=some ((srt (oth me acks 0)).map (SV.int .i64)):=by rw[Qet hlk,if_pos rfl]
     have hmk:=Qqz (srt (oth me acks 0));have hbd:j*1+1<=((srt (oth me acks 0)).map (SV.int .i64)).length:=by rw[List.length_map];omega
     have hsub:=Qu1 hj2;have hjl:j<(oth me acks 0).length:=by omega
     have gp:=g1.put hid hlk (c:=(srt (oth me acks 0)).map (SV.int .i64));clear hj;simp only[↓E1,E2,seval, *];simp only[Qek,Qel];simp only[↓E1,E2,seval];try simp only[Qek,Qel]
     try simp only[↓E1,E2,seval]
     exact hk _ _ _ gp (by rw[hco])
 ·rintro⟨_,_,_,h⟩;cases h
end
theorem RepSz.s (r:Rep) (h:RepSz r):r.starts.length<=1152921504606846976/\r.dos.length<=1152921504606846976/\r.acks.length<=1152921504606846976:=⟨by have:=h.starts;omega,by have:=h.dos;omega,by have:=h.acks;omega⟩
section
variable {P:Program} (H:Fs P)
include H
end
def tx0:Tx:=⟨0,0,by decide⟩
theorem Qs6 (k:Nat):rep [I 0] k=((List.replicate k (0:Int)).map intC).flatten:=by
 induction k with
 |zero=>rfl
 |succ k ih=>rw[rep_s,ih];rfl
section
variable {P:Program} (H:Fs P)
include H
end
theorem Qsn {fz:Fz} {mu mu2:St} {n n2 s b:Nat} {x:SV} {es fs:List (List SV)} {k:KT Prop} (hfr:Free fz mu n) (g:Gr n fz mu mu2 n n2) (hx:SlX (From n (with' mu2 fz)) s x es)
 (hf:fits (es.length+fs.length) b=true) (hfs:fs≠[]) (he:∀e∈fs,e.length=s/\Qeq e=true)
 (h:∀mu3,Gr n fz mu mu3 n (n2+1)->Go.Ev.look mu3 n2=some (es++fs).flatten->k (.one (.osl n2 0 (es++fs).length (es++fs).length s)) mu3 (n2+1)):onApp mu2 n2 s b x fs.flatten fs.length k:=by
 have hfz:∀j,n<=j->fz j=none:=λj hj=>hfr.fz j hj;have hle:=g.le;refine Qhw (G:=From n (with' mu2 fz)) hx (λid B h=>?_) hf hfs he λmu3 ho hn=>h mu3 ?_ hn
 ·obtain⟨h2,h3⟩:=From.el h;rw[<-h3,Qfp (hfz id h2)]
 ·have hk:∀j,j≠n2->j<n->Go.Ev.look mu3 j=Go.Ev.look mu2 j:=by
   intro j hj hd;rcases ho j hj with h|⟨B,h2,h3,h4⟩
   ·exact h
   ·obtain⟨h5,h6⟩:=From.el h2;omega
  refine⟨by omega,λid hi=>?_,λid hi=>?_,λj=>?_⟩
  ·rw[Qeu (hk id (by omega) hi)];exact g.ext id hi
  ·rw[hk id (by omega) hi];exact g.own id hi
  ·have h5:=g.free.none (id:=n2+1+j) (by omega);rcases ho (n2+1+j) (by omega)with h|⟨B,h2,h3,h4⟩
   ·rw[Qeu h];exact h5
   ·rw[Qe5,h4];exact hfz _ (by omega)
theorem Qq1 (l:List Int):(l.map intC).flatten=l.map I:=by
 induction l with
 |nil=>rfl
 |cons h t ih=>simp[ih,intC]
theorem Qhx {s id off len cap h:Nat} (hc:h<=cap):Qgl s (.osl id off len cap s) none (some (.one (.int .i64 (h:Int)))) none=some (.osl id off h cap s):=by
 have h1:¬((h:Int)<0):=by omega
 have h2:h.ble cap=true:=Nat.ble_eq_true_of_le hc;have h3:Nat.ble 0 h=true:=Nat.ble_eq_true_of_le (Nat.zero_le _);simp[Qgl,bound,h1,h2,h3]
theorem mkd_I:∀(l:List Int),mkd (l.map I++[I (-7777),I (-8888)])=false
 |[]=>rfl
 |a::l=>rfl
theorem Qkp:∀(l:List Int) (i:Nat) (x:Int),i<l.length->over (l.map I) i [I x]=(l.set i x).map I
 |[],_,_,h=>absurd h (by simp)
 |a::l,0,x,_=>by simp[over]
 |a::l,i+1,x,h=>by rw[List.map_cons,over_s,Qkp l i x (by simpa using h)];rfl
def LentI (M:Fz) (id:Nat) (l:List Int):Prop:=M id=some (l.map I++[I (-7777),I (-8888)])
theorem LentI.sl {M:Fz} {id:Nat} {l:List Int} (h:LentI M id l):IntsR M (.osl id 0 l.length (l.length+2) 1) l:=
 .inr ⟨id,0,l.length+2,_,by simp,by simp,h,mkd_I l,by simp,by simp[Qq1],Qjg⟩
section
variable {P:Program} (H:Fs P)
include H
theorem law0_CopyInts (x:SV) (l:List Int) (hl:l.length<=17592186044415):Ctr P n_Qc2 [.one x] (λM=>IntsR M x l) (λn _ M v=>∃x',v=.one x'/\IntsX (From n M) x' l):=Ctr.of H.mx H.Qc2 (λ_=>0) λfz mu n k hfr s1 hk=>by
 obtain⟨xl,xs,xk,xm⟩:=s1.len;rw[dY a_Qc2.eq_1 b_Qc2.eq_1];simp only[↓E1,E2,seval, *];obtain⟨h1,h2⟩:=Qg9 (Sl.mono s1 (sub1 hfr (c:=[])));rw[h1];clear h1;refine⟨h2,Qha hfr (Qfc (by simp;omega) (by decide) (by decide)) Qjg (λx' mu' n' g hx=>?_)⟩;simp only[↓E1,E2,seval];exact hk _ _ _ g ⟨x',rfl,hx⟩
theorem law0_LendInts (x:SV) (l:List Int) (hl:l.length<=17592186044413):Ctr P n_Qcv [.one x] (λM=>IntsR M x l) (λn _ M v=>∃id,v=.one (.osl id 0 l.length (l.length+2) 1)/\n<=id/\M id=some (l.map I++[I (-7777),I (-8888)])):=Ctr.of H.mx H.Qcv (λ_=>0) λfz mu n k hfr s1 hk=>by
 obtain⟨xl,xs,xk,xm⟩:=s1.len;rw[dY a_Qcv.eq_1 b_Qcv.eq_1];simp only[↓E1,E2,seval, *];refine(law0_CopyInts H x l (by omega)).c1 hfr s1 ?_;rintro v mu' n' g ⟨x',rfl,hx⟩;simp only[↓E1,E2,seval, *];have hle:=g.le;have g2:=g.cons hle [I (-7777),I (-8888)];have hs:Sl (with' ((n',[I (-7777),I (-8888)])::mu') fz) 1 (.osl n' 0 2 2 1) [[I (-7777)],[I (-8888)]]:=.inr ⟨n',0,2,[I (-7777),I (-8888)],rfl,Nat.le_refl _,by rw[Qfl,if_pos rfl],rfl,by decide,rfl,by intro e he;simp at he;rcases he with rfl|rfl<;>exact⟨rfl,rfl⟩⟩;refine Qsn (fs:=[[I (-7777)],[I (-8888)]]) hfr g2 (hx.mono ?_) (Qfc (by simp;omega) (by decide) (by decide)) (by simp) (by intro e he;simp at he;rcases he with rfl|rfl<;>exact⟨rfl,rfl⟩) (λmu3 g3 hn=>?_)
 ·intro id B h;obtain⟨h5,h6⟩:=From.el h;exact From.at h5 (by rw[Qfl,if_neg (by have:=g.free.lt h6;omega)];exact h6)
 ·simp only[↓E1,E2,seval,Option.map, *];rw[Qhx (by simp)];simp only[↓E1,E2,seval, *];refine hk _ _ _ g3 ⟨n'+1,by simp,by omega,?_⟩;rw[Qem hn];simp[Qq1]
theorem law0_SameInts (x y:SV) (l:List Int) (hl:l.length<=4611686018427387904):BoolC P n_Qc5 [.one x,.one y] (λM=>IntsR M x l/\IntsR M y l) true:=boolC H.mx H.Qc5 (l.length+1) λfz mu n k hfr g0 hx h=>by
 obtain⟨hx,hy⟩:=hx;obtain⟨xl,xs,xk,xm⟩:=hx.len;obtain⟨yl,ys,yk,ym⟩:=hy.len;rw[dY a_Qc5.eq_1 b_Qc5.eq_1];simp only[↓E1,E2,seval,xl,xs,yl,ys];refine scan (x:=0) (L:=l.length) (q:=0) (r:=5) (p:=λi=>true) (λe mu n=>Free fz mu n/\IntsR (with' mu fz) x l/\IntsR (with' mu fz) y l/\e 0 0=.one x/\e 0 1=.one y) (λe=>True) (λ_ _ _ h=>h.1) ?_ ?_ l.length 0 (l.length+1) _ mu n _ _ (by omega) (by omega) (by omega) ⟨hfr,hx,hy,?_,?_⟩ ?_ ?_ ?_
 ·rintro i e mu n K hi ⟨hf,hx,hy,h0,h1⟩ hc hY hn;have hx':=hx;have hy':=hy;obtain⟨id,off,cap,B,rfl,hB,hmk,hbd,hsub⟩:=hx.elem hi;obtain⟨id2,off2,cap2,B2,rfl,hB2,hmk2,hbd2,hsub2⟩:=hy.elem hi;rw[dX l_Qc5_0.eq_1];have hw:=Qev hi hl;simp only[↓E1,E2,seval,h0,h1,hc,hi,hB,hmk,hbd,hsub,hB2,hmk2,hbd2,hsub2,hw];exact hY rfl _ _ _ (Gr.refl hf) ⟨hf,hx',hy',by simp[updN,updE,h0],by simp[updN,updE,h1]⟩ (by simp[updN,updE])
 ·rintro e mu n K ⟨hf,hx,hy,h0,h1⟩ hc hY;rw[dX l_Qc5_0.eq_1];have hlt:(l.length<l.length)=False:=by simp
  simp only[↓E1,E2,seval,h0,h1,hc,hlt,xl,xs];exact hY _ _ _ (Gr.refl hf) ⟨hf,hx,hy,by simp[updN,updE,h0],by simp[updN,updE,h1]⟩
 ·simp[updN,updE,envI]
 ·simp[updN,updE,envI]
 ·simp[updN,updE]
 ·intro ha e' mu' n' g hI;simp only[↓E1,E2,seval];exact h _ _ g
 ·rintro⟨j,j1,j2,j3⟩;cases j3
theorem law0_KeptInts (id:Nat) (y:SV) (l:List Int) (hl:l.length<=4611686018427387000):BoolC P n_Qcz [.one (.osl id 0 l.length (l.length+2) 1),.one y] (λM=>LentI M id l/\IntsR M y l) true:=boolC H.mx H.Qcz 0 λfz mu n k hfr g0 hx h=>by
 obtain⟨hx,hy⟩:=hx;obtain⟨yl,ys,yk,ym⟩:=hy.len;have hs:=hx.sl;rw[dY a_Qcz.eq_1 b_Qcz.eq_1];have hw:IntKind.i64.wrap ((l.length:Int)+2)=((l.length+2:Nat):Int):=by
  rw[wrap64 (by omega) (by omega)];omega
 have hw1:IntKind.i64.wrap ((l.length:Int)+1)=((l.length+1:Nat):Int):=by
  rw[wrap64 (by omega) (by omega)];omega
 simp only[↓E1,E2,seval,Option.map, *];rw[Qhx (Nat.le_refl _)];simp only[↓E1,E2,seval, *];refine(law0_SameInts H _ y l (by omega)).c1 hfr ⟨hs,hy⟩ ?_;rintro v mu2 n2 g rfl;have hB:with' mu2 fz id=some (l.map I++[I (-7777),I (-8888)]):=g.old hfr hx;have hm:=mkd_I l;have d1:List.take 1 (List.drop (l.length*1) (l.map I++[I (-7777),I (-8888)]))=[I (-7777)]:=by
  rw[List.drop_left' (by simp)];rfl
 have d2:List.take 1 (List.drop ((l.length+1)*1) (l.map I++[I (-7777),I (-8888)]))=[I (-8888)]:=by
  rw[show l.map I++[I (-7777),I (-8888)]=(l.map I++[I (-7777)])++[I (-8888)] by simp,List.drop_left' (by simp)];rfl
 have l1:(l.map I++[I (-7777),I (-8888)]).length=l.length+2:=by simp
 have n1:l.length<l.length+2:=by omega
 have n2:l.length+1<l.length+2:=by omega
 have n3:l.length*1+1<=l.length+2:=by omega
 have n4:(l.length+1)*1+1<=l.length+2:=by omega
 simp only[↓E1,E2,seval, *];exact⟨by omega,by omega,trivial⟩
theorem law0_SpoilInts (id:Nat) (l:List Int) (hl:l.length<=4611686018427387904) {fz:Fz} {mu:St} {n:Nat} {k:KT Prop} {w:WK k} (hfr:Free fz mu n) (hb:Ev.look mu id=some (l.map I))
 (hk:∀mu',(∀j,j≠id->Ev.look mu' j=Ev.look mu j)->Free fz mu' n->k noVal mu' n):CPh P n_Qch [.one (.osl id 0 l.length l.length 1)] fz mu n k w:=by
 refine CP_of H.Qch H.mx (l.length+1) ?_;rw[dY a_Qch.eq_1 b_Qch.eq_1];simp only[↓E1,E2,seval];refine loopI (x:=0) (L:=l.length) (p:=λ_=>true) (λi e mu1 n1=>n1=n/\Free fz mu1 n/\(∀j,j≠id->Ev.look mu1 j=Ev.look mu j)/\(∃l':List Int,l'.length=l.length/\Ev.look mu1 id=some (l'.map I))/\e 0 0=.one (.osl id 0 l.length l.length 1)/\e 0 2=.one (.int .i64 i)) (λ_ _ _=>True) ?_ ?_ _ mu n _ _ (by omega) ⟨rfl,hfr,λ_ _=>rfl,⟨l,rfl,hb⟩,?_,?_⟩ ?_ ?_
 ·rintro i e mu1 n1 K hi ⟨rfl,hf,hj,⟨l',hl',hB⟩,h0,h2⟩ hY hn;rw[dX l_Qch_0.eq_1];have hw:=Qev hi hl;have hB2:with' mu1 fz id=some (l'.map I):=Qem hB;have hm:mkd (l'.map I)=false:=by cases l'<;>rfl
  have d1:List.take 1 (List.drop (i*1) (l'.map I))=[I (l'[i]'(by omega))]:=by
   rw[Nat.mul_one,<-List.map_drop,List.drop_eq_getElem_cons (by omega)];rfl
  have d2:i*1+1<=l.length:=by omega
  have d3:(l'.map I).length=l.length:=by simp[hl']
  simp only[↓E1,E2,seval,h0,h2,hi,hB,hB2,hm,d1,d2,d3,hw];have hlt:=hf.lt hB2;refine hY rfl _ _ _ ⟨rfl,λj=>?_,λj hne=>?_,⟨l'.set i (IntKind.i64.wrap (-9-l'[i]'(by omega))),by simp[hl'],?_⟩,by simp[updN,updE,h0],by simp[updN,updE]⟩
  ·rw[Qfk (lookI hB),if_neg (by omega)];exact hf j
  ·rw[Qen,if_neg (Ne.symm hne)];exact hj j hne
  ·rw[Qen,if_pos rfl,hB,Nat.mul_one];exact congrArg some (Qkp l' i _ (by omega))
 ·rintro e mu1 n1 K ⟨rfl,hf,hj,hl',h0,h2⟩ hY;rw[dX l_Qch_0.eq_1];have hlt:(l.length<l.length)=False:=by simp
  simp only[↓E1,E2,seval,h0,h2,hlt];exact hY _ _ _ ⟨rfl,hf,hj,hl',by simp[updN,updE,h0],by simp[updN,updE,h2]⟩
 ·simp[updN,updE,envI]
 ·simp[updN,updE,envI]
 ·rintro ha e' mu' n' ⟨rfl,hf,hj,hl',h0,h2⟩;simp only[↓E1,E2,seval];exact hk _ hj hf
 ·rintro⟨j,j1,j2,j3⟩;cases j3
end
def mkP:Pt:=⟨⟨0,0,by decide⟩,77777,0⟩
theorem mkd_P:∀(l:List Pt),mkd ((l++[mkP,mkP]).map ptC).flatten=false
 |[]=>rfl
 |a::l=>rfl
theorem Qkg (l:List Pt):(l.map ptC).flatten.length=l.length*3:=by
 induction l with
 |nil=>rfl
 |cons h t ih=>simp[ih,ptC];omega
theorem eq_pt (p:Pt):Qgm [2,0,0] (ptC p) (ptC p)=some true:=by
 simp[Qgm,Qmt,ptC,Tx.sv,I,IntKind.eqb,Qit,strEq]
theorem eq_mk:Qgm [2,0,0] [SV.str 0 0,I 77777,I 0] [SV.str 0 0,SV.int IntKind.i64 77777,SV.int IntKind.i64 0]=some true:=eq_pt mkP
def LentP (M:Fz) (id:Nat) (l:List Pt):Prop:=M id=some ((l++[mkP,mkP]).map ptC).flatten
theorem LentP.sl {M:Fz} {id:Nat} {l:List Pt} (h:LentP M id l):PtsR M (.osl id 0 l.length (l.length+2) 3) l:=by
 refine .inr ⟨id,0,l.length+2,_,by simp,by simp,h,mkd_P l,?_,?_,pt_ok⟩
 ·rw[Qkg];simp;omega
 ·rw[List.map_append,List.flatten_append,List.drop_zero,List.take_left' (by rw[Qkg];simp)]
section
variable {P:Program} (H:Fs P)
include H
theorem law0_CopyPoints (x:SV) (l:List Pt) (hl:l.length<=4398046511104):Ctr P n_Qb8 [.one x] (λM=>PtsR M x l) (λn _ M v=>∃x',v=.one x'/\PtsX (From n M) x' l):=Ctr.of H.mx H.Qb8 (λ_=>0) λfz mu n k hfr s1 hk=>by
 obtain⟨xl,xs,xk,xm⟩:=s1.len;rw[dY a_Qb8.eq_1 b_Qb8.eq_1];simp only[↓E1,E2,seval, *];obtain⟨h1,h2⟩:=Qg9 (Sl.mono s1 (sub1 hfr (c:=[])));rw[h1];clear h1;refine⟨h2,Qha hfr (Qfc (by simp;omega) (by decide) (by decide)) pt_ok (λx' mu' n' g hx=>?_)⟩;simp only[↓E1,E2,seval];exact hk _ _ _ g ⟨x',rfl,hx⟩
theorem law0_LendPoints (x:SV) (l:List Pt) (hl:l.length<=4398046511102):Ctr P n_Qb3 [.one x] (λM=>PtsR M x l) (λn _ M v=>∃id,v=.one (.osl id 0 l.length (l.length+2) 3)/\n<=id/\LentP M id l):=Ctr.of H.mx H.Qb3 (λ_=>0) λfz mu n k hfr s1 hk=>by
 obtain⟨xl,xs,xk,xm⟩:=s1.len;rw[dY a_Qb3.eq_1 b_Qb3.eq_1];simp only[↓E1,E2,seval, *];refine(law0_CopyPoints H x l (by omega)).c1 hfr s1 ?_;rintro v mu' n' g ⟨x',rfl,hx⟩;simp only[↓E1,E2,seval, *];have hle:=g.le;have g2:=g.cons hle ([mkP,mkP].map ptC).flatten;refine Qsn (fs:=[mkP,mkP].map ptC) hfr g2 (hx.mono ?_) (Qfc (by simp;omega) (by decide) (by decide)) (by simp) pt_ok (λmu3 g3 hn=>?_)
 ·intro id B h;obtain⟨h5,h6⟩:=From.el h;exact From.at h5 (by rw[Qfl,if_neg (by have:=g.free.lt h6;omega)];exact h6)
 ·simp only[↓E1,E2,seval,Option.map, *];rw[Qhx (by simp)];simp only[↓E1,E2,seval, *];refine hk _ _ _ g3 ⟨n'+1,by simp,by omega,?_⟩;show _=_;rw[Qem hn,List.map_append]
theorem law0_SamePoints (x y:SV) (l:List Pt) (hl:l.length<=4611686018427387904):BoolC P n_Qca [.one x,.one y] (λM=>PtsR M x l/\PtsR M y l) true:=boolC H.mx H.Qca (l.length+1) λfz mu n k hfr g0 hx h=>by
 obtain⟨hx,hy⟩:=hx;obtain⟨xl,xs,xk,xm⟩:=hx.len;obtain⟨yl,ys,yk,ym⟩:=hy.len;rw[dY a_Qca.eq_1 b_Qca.eq_1];simp only[↓E1,E2,seval,xl,xs,yl,ys];refine scan (x:=0) (L:=l.length) (q:=0) (r:=5) (p:=λi=>true) (λe mu n=>Free fz mu n/\PtsR (with' mu fz) x l/\PtsR (with' mu fz) y l/\e 0 0=.one x/\e 0 1=.one y) (λe=>True) (λ_ _ _ h=>h.1) ?_ ?_ l.length 0 (l.length+1) _ mu n _ _ (by omega) (by omega) (by omega) ⟨hfr,hx,hy,?_,?_⟩ ?_ ?_ ?_
 ·rintro i e mu n K hi ⟨hf,hx,hy,h0,h1⟩ hc hY hn;have hx':=hx;have hy':=hy;obtain⟨id,off,cap,B,rfl,hB,hmk,hbd,hsub⟩:=hx.elem hi;obtain⟨id2,off2,cap2,B2,rfl,hB2,hmk2,hbd2,hsub2⟩:=hy.elem hi;rw[dX l_Qca_0.eq_1];have hw:=Qev hi hl;simp only[↓E1,E2,seval,h0,h1,hc,hi,hB,hmk,hbd,hsub,hB2,hmk2,hbd2,hsub2,hw,eq_pt];exact hY rfl _ _ _ (Gr.refl hf) ⟨hf,hx',hy',by simp[updN,updE,h0],by simp[updN,updE,h1]⟩ (by simp[updN,updE])
 ·rintro e mu n K ⟨hf,hx,hy,h0,h1⟩ hc hY;rw[dX l_Qca_0.eq_1];have hlt:(l.length<l.length)=False:=by simp
  simp only[↓E1,E2,seval,h0,h1,hc,hlt,xl,xs];exact hY _ _ _ (Gr.refl hf) ⟨hf,hx,hy,by simp[updN,updE,h0],by simp[updN,updE,h1]⟩
 ·simp[updN,updE,envI]
 ·simp[updN,updE,envI]
 ·simp[updN,updE]
 ·intro ha e' mu' n' g hI;simp only[↓E1,E2,seval];exact h _ _ g
 ·rintro⟨j,j1,j2,j3⟩;cases j3
theorem law0_KeptPoints (id:Nat) (y:SV) (l:List Pt) (hl:l.length<=4611686018427387000):BoolC P n_Qb4 [.one (.osl id 0 l.length (l.length+2) 3),.one y] (λM=>LentP M id l/\PtsR M y l) true:=boolC H.mx H.Qb4 0 λfz mu n k hfr g0 hx h=>by
 obtain⟨hx,hy⟩:=hx;obtain⟨yl,ys,yk,ym⟩:=hy.len;have hs:=hx.sl;rw[dY a_Qb4.eq_1 b_Qb4.eq_1];have hw:IntKind.i64.wrap ((l.length:Int)+2)=((l.length+2:Nat):Int):=by
  rw[wrap64 (by omega) (by omega)];omega
 have hw1:IntKind.i64.wrap ((l.length:Int)+1)=((l.length+1:Nat):Int):=by
  rw[wrap64 (by omega) (by omega)];omega
 simp only[↓E1,E2,seval,Option.map, *];rw[Qhx (Nat.le_refl _)];simp only[↓E1,E2,seval, *];refine(law0_SamePoints H _ y l (by omega)).c1 hfr ⟨hs,hy⟩ ?_;rintro v mu2 n2 g rfl;have hB:with' mu2 fz id=some ((l++[mkP,mkP]).map ptC).flatten:=g.old hfr hx;have hm:=mkd_P l;have l1:((l++[mkP,mkP]).map ptC).flatten.length=(l.length+2)*3:=by rw[Qkg];simp
 have d1:List.take 3 (List.drop (l.length*3) ((l++[mkP,mkP]).map ptC).flatten)=[.str 0 0,I 77777,I 0]:=by
  rw[List.map_append,List.flatten_append,List.drop_left' (Qkg l)];rfl
 have d2:List.take 3 (List.drop ((l.length+1)*3) ((l++[mkP,mkP]).map ptC).flatten)=[.str 0 0,I 77777,I 0]:=by
  rw[show l++[mkP,mkP]=(l++[mkP])++[mkP] by simp,List.map_append,List.flatten_append,List.drop_left' (by rw[Qkg];simp)];rfl
 have n1:l.length<l.length+2:=by omega
 have n2:l.length+1<l.length+2:=by omega
 have n3:l.length*3+3<=(l.length+2)*3:=by omega
 have n4:(l.length+1)*3+3<=(l.length+2)*3:=by omega
 have hq:=eq_mk;simp only[↓E1,E2,seval, *];done
end
def EntL (M:Fz) (c:List SV):Option Ent->Prop
 |some e=>∃id,c=entC e (.osl id 0 e.batch.length (e.batch.length+2) 3)/\LentP M id e.batch
 |none=>c=[I 77777,I 0,I 0,I 0,.nsl]
theorem EntL.mono {M M':Fz} {c:List SV} {e:Option Ent} (hs:Sub M M') (h:EntL M c e):EntL M' c e:=by
 cases e with
 |none=>exact h
 |some e=>obtain⟨id,h1,h2⟩:=h;exact⟨id,h1,hs _ _ h2⟩
def LentE (lo:Nat) (M:Fz) (id:Nat) (l:List Ent):Prop:=Grow lo M 5 EntL (.osl id 0 (l.length+1) (l.length+1) 5) (l.map some++[none])
section
variable {P:Program} (H:Fs P)
include H
theorem law0_LendEntries (x:SV) (l:List Ent) (hL:l.length<=2513169434910) (hb:∀e∈l,e.batch.length<=4398046511102):Ctr P n_Qbk [.one x] (λM=>EntsR M x l) (λn _ M v=>∃id,v=.one (.osl id 0 l.length (l.length+1) 5)/\LentE n M id l):=Ctr.of H.mx H.Qbk (λ_=>l.length+1) λfz mu n k hfr s1 hk=>by
 obtain⟨xl,xs,xk,xm⟩:=s1.len;have hw1:IntKind.i64.wrap ((l.length:Int)+1)=((l.length+1:Nat):Int):=by
  rw[wrap64 (by omega) (by omega)];omega
 have hf:fits (l.length+1) 56=true:=Qfc (by omega) (by decide) (by decide);rw[dY a_Qbk.eq_1 b_Qbk.eq_1];simp only[↓E1,E2,seval, *];refine loopI (x:=0) (L:=l.length) (p:=λ_=>true) (λi e mu' n'=>∃xe,Gr n fz mu mu' n n'/\Grow n (with' mu' fz) 5 EntL xe ((l.take i).map some)/\e 0 3=.one xe/\e 0 0=.one x/\e 0 4=.one (.int .i64 i)) (λ_ _ _=>False) ?_ ?_ _ _ _ _ _ (by omega) ?_ ?_ ?_
 ·rintro i e mu1 n1 K hi ⟨xe,g1,G,h3,h0,h4⟩ hy hn;have hw:=Qev hi (by omega);obtain⟨id,off,cap,B,b,rfl,hB,hmk,hbd,hsub,s2⟩:=(EntsR.mono (λ_ _ hh=>g1.old hfr hh) s1).elem hi;obtain⟨yl,ys,yk,ym⟩:=s2.len;obtain⟨-,-,zk,zm⟩:=G.len;have hno:∀c,with' ((n1,c)::mu1) fz id=some B:=λc=>by rw[Qfl,if_neg (by have:=g1.free.lt hB;omega)];exact hB
  unfold entC at hsub;rw[dX l_Qbk_0.eq_1];simp only[↓E1,E2,seval, *];have gA:Gr n1 fz mu1 ((n1,[I l[i].view,I l[i].client,I l[i].session,I l[i].number,b])::mu1) n1 (n1+1):=(Gr.refl g1.free).cons (Nat.le_refl _) _;refine(law0_LendPoints H b l[i].batch (hb _ (List.getElem_mem hi))).c1 gA.free (s2.mono (λ_ _ hh=>gA.old g1.free hh)) ?_;rintro v mu2 n2 g2 ⟨idp,rfl,hidp,hlp⟩;have b5:Ev.look mu2 n1=some [I l[i].view,I l[i].client,I l[i].session,I l[i].number,b]:=(g2.own n1 (by omega)).trans Qnj;have b6:=Qem (fz:=fz) b5;have hle:=g2.le;have b7:∀c,with' (putS mu2 n1 c) fz n1=some c:=λc=>by rw[Qet b5,if_pos rfl]
  simp only[↓E1,E2,seval, *];have hli:(l.take i).length=i:=by rw[List.length_take];omega
  have gC:=((gA.trans (g2.weaken (by omega))).put (id:=n1) (Nat.le_refl _) b5 (c:=[I l[i].view,I l[i].client,I l[i].session,I l[i].number,.osl idp 0 l[i].batch.length (l[i].batch.length+2) 3]))
  have hlt:=g2.free.lt hlp;refine Grow.more (R:=EntL) EntL.mono (a:=some l[i]) G g1.free g1.le (λj hj=>hfr.fz j hj) (gC.cons (by omega) _) ⟨idp,rfl,From.at (by omega) ?_⟩ ⟨rfl,rfl⟩ (by rw[List.length_map,hli];exact Qfc (by omega) (by decide) (by decide)) (λmu3 g3 G3=>?_)
  ·rw[Qfl,if_neg (by omega),Qet b5,if_neg (by omega)];exact hlp
  ·rw[List.length_map,hli]at G3⊢;simp only[↓E1,E2,seval, *];refine hy rfl _ _ _ ⟨.osl (n2+1) 0 (i+1) (i+1) 5,g1.trans (g3.weaken (by omega)),?_,by simp[updN,updE],by simp[updN,updE, *],by simp[updN,updE, *]⟩;rw[List.take_add_one,List.getElem?_eq_getElem hi,List.map_append];exact G3
 ·rintro e mu1 n1 K ⟨xe,g1,G,h3,h0,h4⟩ hx;rw[dX l_Qbk_0.eq_1];have hlt:(l.length<l.length)=False:=by simp
  simp only[↓E1,E2,seval, *];exact hx _ _ _ ⟨xe,g1,G,by simp[updN,updE,h3],by simp[updN,updE,h0],by simp[updN,updE,h4]⟩
 ·refine⟨.osl n 0 0 0 5,(Gr.refl hfr).cons (Nat.le_refl _) _,⟨[],.inr ⟨n,rfl,From.at (Nat.le_refl _) (by rw[Qfl,if_pos rfl];rfl),rfl,λe he=>by cases he⟩,trivial⟩,by simp[updN,updE],by simp[updN,updE,envI],by simp[updN,updE]⟩
 ·rintro -e1 mu1 n1 ⟨xe,g1,G,h3,h0,h4⟩;rw[List.take_length]at G;obtain⟨-,-,zk,zm⟩:=G.len;simp only[↓E1,E2,seval, *];refine Grow.more (R:=EntL) EntL.mono (a:=none) G g1.free g1.le (λj hj=>hfr.fz j hj) ((Gr.refl g1.free).cons (Nat.le_refl _) _) rfl ⟨rfl,rfl⟩ (by rw[List.length_map];exact hf) (λmu3 g3 G3=>?_);simp only[↓E1,E2,seval,Option.map,List.length_map, *];rw[Qhx (by omega)];simp only[↓E1,E2,seval, *];refine hk _ _ _ (g1.trans (g3.weaken (by omega))) ⟨n1+1,rfl,?_⟩;rw[List.length_map]at G3;exact G3
 ·rintro⟨_,_,_,h⟩;cases h
theorem law0_LendLog (l:Lg) (x:SV) (hL:l.ents.length<=2513169434910) (hb:∀e∈l.ents,e.batch.length<=4398046511102):Ctr P n_Qde [.ag (lgC l x)] (λM=>EntsR M x l.ents) (λn _ M v=>∃id,v=.ag (lgC l (.osl id 0 l.ents.length (l.ents.length+1) 5))/\LentE n M id l.ents):=Ctr.of H.mx H.Qde (λ_=>0) λfz mu n k hfr s1 hk=>by
 obtain⟨xl,xs,xk,xm⟩:=s1.len;rw[dY a_Qde.eq_1 b_Qde.eq_1];unfold lgC;have gA:Gr n fz mu ((n+1,[I 0,.str 0 0,.nsl])::(n,[I l.base,l.snap.sv,x])::mu) n (n+1+1):=((Gr.refl hfr).cons (Nat.le_refl _) _).cons (by omega) _;simp only[↓E1,E2,seval, *];refine(law0_LendEntries H x l.ents hL hb).c1 gA.free (EntsR.mono (λ_ _ hh=>gA.old hfr hh) s1) ?_;rintro v mu2 n2 g2 ⟨id,rfl,hid⟩;have b5:Ev.look mu2 n=some [I l.base,l.snap.sv,x]:=(g2.own n (by omega)).trans (by simp[Qer]);have b8:Ev.look mu2 (n+1)=some [I 0,.str 0 0,.nsl]:=(g2.own (n+1) (by omega)).trans (by simp[Qer]);have b7:∀c,with' (putS mu2 n c) fz n=some c:=λc=>by rw[Qet b5,if_pos rfl]
 have b9:∀c,Ev.look (putS mu2 n c) (n+1)=some [I 0,.str 0 0,.nsl]:=λc=>by rw[Qen,if_neg (by omega)];exact b8
 have b10:∀c,with' (putS mu2 n c) fz (n+1)=some [I 0,.str 0 0,.nsl]:=λc=>Qem (b9 c);have b11:∀c d,with' (putS (putS mu2 n c) (n+1) d) fz (n+1)=some d:=λc d=>by rw[Qet (b9 c),if_pos rfl]
 simp only[↓E1,E2,seval, *];have h1:=Grow.mono (R:=EntL) EntL.mono hid (From.put (d':=[I l.base,l.snap.sv,.osl id 0 l.ents.length (l.ents.length+1) 5]) (by omega) b5);have h2:=Grow.mono (R:=EntL) EntL.mono h1 (From.put (d':=[I l.base,l.snap.sv,.osl id 0 l.ents.length (l.ents.length+1) 5]) (by omega) (b9 _));exact hk _ _ _ (((gA.trans (g2.weaken (by omega))).put (Nat.le_refl _) b5).put (by omega) (b9 _)) ⟨id,rfl,Grow.weaken (R:=EntL) EntL.mono (by omega) h2⟩
end
theorem Gr.two {fz:Fz} {mu mu':St} {n n' lo:Nat} (h:Gr lo fz mu mu' n n') (hl:lo<=n') (a b:List SV):Gr lo fz mu ((n',a)::(n'+1,b)::mu') n (n'+1+1):=
 ((h.cons hl a).cons (Nat.le_succ_of_le hl) b).congr fun id=>by
   simp only[Qey];by_cases e:n'=id
   ·subst e;simp
   ·simp[e]
theorem LentE.raw {lo:Nat} {M:Fz} {id:Nat} {l:List Ent} (h:LentE lo M id l) {i:Nat} (hi:i<l.length+1):∃B c,M id=some B/\mkd B=false/\i*5+5<=B.length/\(B.drop (i*5)).take 5=c/\EntL M c ((l.map some++[none])[i]'(by simpa using hi)):=by
 obtain⟨cs,h1,h2⟩:=h;have hl:cs.length=(l.map some++[none]).length:=h2.length;have hl':cs.length=l.length+1:=by simpa using hl
 obtain⟨id',off,cap,B,g1,g2,g3,g4,g5⟩:=h1.to.elem (i:=i) (by omega);injection g1 with a b c d e
 subst a b;have h3:=h2.at (i:=i) (by omega) (by simpa using hi)
 exact⟨B,_,From.sub _ _ g2,g3,by omega,by rw[Nat.zero_add]at g5;exact g5,h3.mono (Ex.sub.trans From.sub)⟩
theorem LentE.elem {lo:Nat} {M:Fz} {id:Nat} {l:List Ent} (h:LentE lo M id l) {i:Nat} (hi:i<l.length):∃B idp,M id=some B/\mkd B=false/\i*5+5<=B.length/\(B.drop (i*5)).take 5=entC l[i] (.osl idp 0 l[i].batch.length (l[i].batch.length+2) 3)/\LentP M idp l[i].batch:=by
 obtain⟨B,c,g1,g2,g3,g4,g5⟩:=h.raw (i:=i) (by omega);have e:((l.map some++[none])[i]'(by simp;omega))=some l[i]:=by
  rw[List.getElem_append_left (by simpa using hi),List.getElem_map]
 rw[e]at g5;obtain⟨idp,h1,h2⟩:=g5;exact⟨B,idp,g1,g2,g3,g4.trans h1,h2⟩
theorem LentE.last {lo:Nat} {M:Fz} {id:Nat} {l:List Ent} (h:LentE lo M id l):∃B,M id=some B/\mkd B=false/\l.length*5+5<=B.length/\(B.drop (l.length*5)).take 5=[I 77777,I 0,I 0,I 0,.nsl]:=by
 obtain⟨B,c,g1,g2,g3,g4,g5⟩:=h.raw (i:=l.length) (by omega);have e:((l.map some++[none])[l.length]'(by simp))=none:=by
  rw[List.getElem_append_right (by simp)];simp
 rw[e]at g5;exact⟨B,g1,g2,g3,g4.trans g5⟩
section
variable {P:Program} (H:Fs P)
include H
theorem law0_KeptEntries (id lo:Nat) (y:SV) (l:List Ent) (hl:l.length<=4611686018427387000) (hb:∀e∈l,e.batch.length<=4611686018427387000):BoolC P n_Qbm [.one (.osl id 0 l.length (l.length+1) 5),.one y] (λM=>LentE lo M id l/\EntsR M y l) true:=boolC H.mx H.Qbm (l.length+1) λfz mu n k hfr g0 hx h=>by
 obtain⟨hx,hy⟩:=hx;obtain⟨yl,ys,yk,ym⟩:=hy.len;obtain⟨B,hB,hmk,hbd,hsub⟩:=hx.last;have hw:IntKind.i64.wrap ((l.length:Int)+1)=((l.length+1:Nat):Int):=by
  rw[wrap64 (by omega) (by omega)];omega
 have n1:l.length<l.length+1:=by omega
 have hsub1:List.take 1 (List.drop (l.length*5) B)=[I 77777]:=by
  have:List.take 1 (List.take 5 (List.drop (l.length*5) B))=[I 77777]:=by rw[hsub];rfl
  rwa [List.take_take]at this
 have hsub2:List.take 1 (List.drop (l.length*5+0) B)=[I 77777]:=hsub1;have n2:l.length*5+1<=B.length:=by omega
 have n3:l.length*5<B.length:=by omega
 rw[dY a_Qbm.eq_1 b_Qbm.eq_1];simp only[↓E1,E2,seval,Option.map, *];rw[Qhx (Nat.le_refl _)];simp only[↓E1,E2,seval, *];refine scan (x:=0) (L:=l.length) (q:=0) (r:=5) (p:=λi=>true) (λe mu n=>Free fz mu n/\LentE lo (with' mu fz) id l/\EntsR (with' mu fz) y l/\e 0 0=.one (.osl id 0 l.length (l.length+1) 5)/\e 0 1=.one y) (λe=>True) (λ_ _ _ h=>h.1) ?_ ?_ l.length 0 (l.length+1) _ mu n _ _ (by omega) (by omega) (by omega) ⟨hfr,hx,hy,?_,?_⟩ ?_ ?_ ?_
 ·rintro i e mu n K hi ⟨hf,hx,hy,h0,h1⟩ hc hY hn;have hx':=hx;have hy':=hy;obtain⟨B2,idp,p1,p2,p3,p4,p5⟩:=hx.elem hi;obtain⟨id2,off2,cap2,B3,b,rfl,q1,q2,q3,q4,q5⟩:=hy.elem hi;unfold entC at p4 q4;have hw2:=Qev hi (by omega);have hi2:i<l.length+1:=by omega
  obtain⟨zl,zs,zk,zm⟩:=q5.len;rw[dX l_Qbm_0.eq_1];simp only[↓E1,E2,seval,h0,h1,hc,hi,hi2,p1,p2,p3,p4,q1,q2,q3,q4,hw2,zl,zs,zk,zm,yl,ys];have gA:Gr n fz mu ((n,[I l[i].view,I l[i].client,I l[i].session,I l[i].number,.osl idp 0 l[i].batch.length (l[i].batch.length+2) 3])::(n+1,[I l[i].view,I l[i].client,I l[i].session,I l[i].number,b])::mu) n (n+1+1):=Gr.two (Gr.refl hf) (Nat.le_refl _) _ _;refine(law0_KeptPoints H idp b l[i].batch (hb _ (List.getElem_mem hi))).c1 gA.free ⟨gA.sub hf (Nat.le_refl _) _ _ p5,q5.mono (λ_ _ hh=>gA.old hf hh)⟩ ?_;rintro v mu2 n2 g2 rfl;have gB:=gA.trans (g2.weaken (by omega));simp only[↓E1,E2,seval,h0,h1,hc,hi,hi2,hw2,zl,zs,zk,zm,yl,ys];refine hY rfl _ _ _ gB ⟨gB.free,?_,?_,by simp[updN,updE, *],by simp[updN,updE, *]⟩ (by simp[updN,updE, *])
  ·exact Grow.mono (R:=EntL) EntL.mono hx (From.mono (gB.sub hf (Nat.le_refl _)))
  ·exact EntsR.mono (λ_ _ hh=>gB.old hf hh) hy
 ·rintro e mu n K ⟨hf,hx,hy,h0,h1⟩ hc hY;rw[dX l_Qbm_0.eq_1];have hlt:(l.length<l.length)=False:=by simp
  simp only[↓E1,E2,seval,h0,h1,hc,hlt,yl,ys];exact hY _ _ _ (Gr.refl hf) ⟨hf,hx,hy,by simp[updN,updE,h0],by simp[updN,updE,h1]⟩
 ·simp[updN,updE,envI]
 ·simp[updN,updE,envI]
 ·simp[updN,updE]
 ·intro ha e' mu' n' g hI;simp only[↓E1,E2,seval];exact h _ _ g
 ·rintro⟨j,j1,j2,j3⟩;cases j3
end
structure LndLg (l:Lg):Prop where
 ents:l.ents.length<=2513169434910
 bat:∀e∈l.ents,e.batch.length<=4398046511102
structure LndSz (r:Rep):Prop where
 log:LndLg r.log
 acks:r.acks.length<=17592186044413
 starts:r.starts.length<=17592186044413
 dos:r.dos.length<=1954687338267
 dlog:∀d∈r.dos,LndLg d.log
theorem LentE.up {lo:Nat} {M M':Fz} {id:Nat} {l:List Ent} (h:LentE lo M id l) (hs:∀j B,lo<=j->M j=some B->M' j=some B):LentE lo M' id l:=
 Grow.mono (R:=EntL) EntL.mono h λj B g=>From.at (From.lt g) (hs j B (From.lt g) (From.sub _ _ g))
theorem LentE.mono {lo:Nat} {M M':Fz} {id:Nat} {l:List Ent} (hs:Sub M M') (h:LentE lo M id l):LentE lo M' id l:=h.up λj B _ g=>hs j B g
def DvL (M:Fz) (c:List SV) (d:Dv):Prop:=∃id lo,c=dvC d (.osl id 0 d.log.ents.length (d.log.ents.length+1) 5)/\LentE lo M id d.log.ents
theorem DvL.mono {M M':Fz} {c:List SV} {d:Dv} (hs:Sub M M') (h:DvL M c d):DvL M' c d:=by
 obtain⟨id,lo,h1,h2⟩:=h;exact⟨id,lo,h1,h2.mono hs⟩
structure LentR (M:Fz) (r:Rep) (ide ida ids:Nat) (xd:SV):Prop where
 ents:∃lo,LentE lo M ide r.log.ents
 acks:LentI M ida r.acks
 starts:LentI M ids r.starts
 dos:∃lo,Grow lo M 6 DvL xd r.dos
theorem LentR.mono {M M':Fz} {r:Rep} {ide ida ids:Nat} {xd:SV} (hs:Sub M M') (h:LentR M r ide ida ids xd):LentR M' r ide ida ids xd:=by
 obtain⟨⟨lo,h1⟩,h2,h3,lo',h4⟩:=h;exact⟨⟨lo,h1.mono hs⟩,hs _ _ h2,hs _ _ h3,lo',Grow.mono (R:=DvL) DvL.mono h4 (From.mono hs)⟩
section
variable {P:Program} (H:Fs P)
include H
theorem law0_LendReplica (r:Rep) (xe xa xs xd:SV) (hz:LndSz r):Ctr P n_Qbj [.ag (repC r xe xa xs xd)] (fun M=>RepS M r xe xa xs xd) (fun n _ M v=>∃ide ida ids xd',v=.ag (repC r (.osl ide 0 r.log.ents.length (r.log.ents.length+1) 5) (.osl ida 0 r.acks.length (r.acks.length+2) 1) (.osl ids 0 r.starts.length (r.starts.length+2) 1) xd')/\LentR M r ide ida ids xd'):=Ctr.of H.mx H.Qbj (fun _=>r.dos.length+1) fun fz mu n k hfr s hk=>by
 obtain⟨s1,s2,s3,s4⟩:=s;obtain⟨xel,xes,xek,xem⟩:=s1.len;obtain⟨xal,xas,xak,xam⟩:=s2.len;obtain⟨xsl,xss,xsk,xsm⟩:=s3.len;obtain⟨xdl,xds,xdk,xdm⟩:=s4.len;have hE:=law0_LendLog H r.log xe hz.log.ents hz.log.bat;unfold lgC at hE;rw[dY a_Qbj.eq_1 b_Qbj.eq_1];unfold repC;simp only[↓E1,E2,seval, *];refine hE.c1 (gr2 hfr).free (EntsR.mono (sub2 hfr) s1) ?_;rintro v mu1 n1 g1 ⟨ide,rfl,hG⟩;have ga:=(gr2 hfr).trans (g1.weaken (by omega));have b1:=(g1.own n (by omega)).trans (by rw[Qer,if_neg (by omega),Qer,if_pos rfl]);have b2:=(g1.own (n+1) (by omega)).trans (by rw[Qer,if_pos rfl]);have l1:=g1.le;obtain⟨muA,hA⟩:∃m,m=putS mu1 n [I r.me,I r.nodes,I r.view,I r.normal,I r.status,I r.commit,.bool r.sent,I r.log.base,r.log.snap.sv,.osl ide 0 r.log.ents.length (r.log.ents.length+1) 5,xa,xs,xd]:=⟨_,rfl⟩
 have gb:Gr n fz mu muA n n1:=by rw[hA];exact ga.put (Nat.le_refl _) b1
 have c1:Ev.look muA n=some [I r.me,I r.nodes,I r.view,I r.normal,I r.status,I r.commit,.bool r.sent,I r.log.base,r.log.snap.sv,.osl ide 0 r.log.ents.length (r.log.ents.length+1) 5,xa,xs,xd]:=by rw[hA,Qen,if_pos rfl,b1];rfl
 have c2:Ev.look muA (n+1)=some [I 0,I 0,I 0,I 0,I 0,I 0,.bool false,I 0,.str 0 0,.nsl,.nsl,.nsl,.nsl]:=by rw[hA,Qen,if_neg (by omega),b2]
 have hGA:LentE (n+1+1) (with' muA fz) ide r.log.ents:=hG.up λj B hj g=>by rw[hA,Qet b1,if_neg (by omega)];exact g
 simp only[↓E1,E2,seval, *,Qfk,Qen,Option.isSome_some,Option.map_some,List.append_assoc];rw[<-hA];refine(law0_LendInts H xa r.acks hz.acks).c1 gb.free (IntsR.mono (gb.sub hfr (Nat.le_refl _)) s2) ?_;rintro v mu2 n2 g2 ⟨ida,rfl,hida,hGa⟩;have l2:=g2.le;have b3:=(g2.own n (by omega)).trans c1;have b4:=(g2.own (n+1) (by omega)).trans c2;have gc:=gb.trans (g2.weaken (by omega));obtain⟨muB,hB⟩:∃m,m=putS mu2 n [I r.me,I r.nodes,I r.view,I r.normal,I r.status,I r.commit,.bool r.sent,I r.log.base,r.log.snap.sv,.osl ide 0 r.log.ents.length (r.log.ents.length+1) 5,.osl ida 0 r.acks.length (r.acks.length+2) 1,xs,xd]:=⟨_,rfl⟩
 have gd:Gr n fz mu muB n n2:=by rw[hB];exact gc.put (Nat.le_refl _) b3
 have c3:Ev.look muB n=some [I r.me,I r.nodes,I r.view,I r.normal,I r.status,I r.commit,.bool r.sent,I r.log.base,r.log.snap.sv,.osl ide 0 r.log.ents.length (r.log.ents.length+1) 5,.osl ida 0 r.acks.length (r.acks.length+2) 1,xs,xd]:=by rw[hB,Qen,if_pos rfl,b3];rfl
 have c4:Ev.look muB (n+1)=some [I 0,I 0,I 0,I 0,I 0,I 0,.bool false,I 0,.str 0 0,.nsl,.nsl,.nsl,.nsl]:=by rw[hB,Qen,if_neg (by omega),b4]
 have hGB:LentE (n+1+1) (with' muB fz) ide r.log.ents:=hGA.up λj B hj g=>by rw[hB,Qet b3,if_neg (by omega)];exact g2.old gb.free g
 have hGa2:LentI (with' muB fz) ida r.acks:=by unfold LentI;rw[hB,Qet b3,if_neg (by omega)];exact hGa
 simp only[↓E1,E2,seval, *,Qfk,Qen,Option.isSome_some,Option.map_some,List.append_assoc];rw[<-hB];refine(law0_LendInts H xs r.starts hz.starts).c1 gd.free (IntsR.mono (gd.sub hfr (Nat.le_refl _)) s3) ?_;rintro v mu3 n3 g3 ⟨ids,rfl,hids,hGs⟩;have l3:=g3.le;have b5:=(g3.own n (by omega)).trans c3;have b6:=(g3.own (n+1) (by omega)).trans c4;have ge:=gd.trans (g3.weaken (by omega));obtain⟨muC,hC⟩:∃m,m=putS mu3 n [I r.me,I r.nodes,I r.view,I r.normal,I r.status,I r.commit,.bool r.sent,I r.log.base,r.log.snap.sv,.osl ide 0 r.log.ents.length (r.log.ents.length+1) 5,.osl ida 0 r.acks.length (r.acks.length+2) 1,.osl ids 0 r.starts.length (r.starts.length+2) 1,xd]:=⟨_,rfl⟩
 have gf:Gr n fz mu muC n n3:=by rw[hC];exact ge.put (Nat.le_refl _) b5
 have c5:Ev.look muC n=some [I r.me,I r.nodes,I r.view,I r.normal,I r.status,I r.commit,.bool r.sent,I r.log.base,r.log.snap.sv,.osl ide 0 r.log.ents.length (r.log.ents.length+1) 5,.osl ida 0 r.acks.length (r.acks.length+2) 1,.osl ids 0 r.starts.length (r.starts.length+2) 1,xd]:=by rw[hC,Qen,if_pos rfl,b5];rfl
 have c6:Ev.look muC (n+1)=some [I 0,I 0,I 0,I 0,I 0,I 0,.bool false,I 0,.str 0 0,.nsl,.nsl,.nsl,.nsl]:=by rw[hC,Qen,if_neg (by omega),b6]
 have hGC:LentE (n+1+1) (with' muC fz) ide r.log.ents:=hGB.up λj B hj g=>by rw[hC,Qet b5,if_neg (by omega)];exact g3.old gd.free g
 have hGa3:LentI (with' muC fz) ida r.acks:=by unfold LentI;rw[hC,Qet b5,if_neg (by omega)];exact g3.old gd.free hGa2
 have hGs3:LentI (with' muC fz) ids r.starts:=by unfold LentI;rw[hC,Qet b5,if_neg (by omega)];exact hGs
 simp only[↓E1,E2,seval, *,Qfk,Qen,Option.isSome_some,Option.map_some,List.append_assoc];rw[<-hC];obtain⟨muD,hD⟩:∃m,m=putS muC n [I r.me,I r.nodes,I r.view,I r.normal,I r.status,I r.commit,.bool r.sent,I r.log.base,r.log.snap.sv,.osl ide 0 r.log.ents.length (r.log.ents.length+1) 5,.osl ida 0 r.acks.length (r.acks.length+2) 1,.osl ids 0 r.starts.length (r.starts.length+2) 1,.nsl]:=⟨_,rfl⟩
 have gg:Gr n fz mu muD n n3:=by rw[hD];exact gf.put (Nat.le_refl _) c5
 have c7:Ev.look muD n=some [I r.me,I r.nodes,I r.view,I r.normal,I r.status,I r.commit,.bool r.sent,I r.log.base,r.log.snap.sv,.osl ide 0 r.log.ents.length (r.log.ents.length+1) 5,.osl ida 0 r.acks.length (r.acks.length+2) 1,.osl ids 0 r.starts.length (r.starts.length+2) 1,.nsl]:=by rw[hD,Qen,if_pos rfl,c5];rfl
 have c8:Ev.look muD (n+1)=some [I 0,I 0,I 0,I 0,I 0,I 0,.bool false,I 0,.str 0 0,.nsl,.nsl,.nsl,.nsl]:=by rw[hD,Qen,if_neg (by omega),c6]
 have hGD:LentE (n+1+1) (with' muD fz) ide r.log.ents:=hGC.up λj B hj g=>by rw[hD,Qet c5,if_neg (by omega)];exact g
 have hGa4:LentI (with' muD fz) ida r.acks:=by unfold LentI;rw[hD,Qet c5,if_neg (by omega)];exact hGa3
 have hGs4:LentI (with' muD fz) ids r.starts:=by unfold LentI;rw[hD,Qet c5,if_neg (by omega)];exact hGs3
 rw[<-hD];clear hGC hGa3 hGs3 hGB hGa2 hGA hGs hGa hG ga gb gc gd ge gf c1 c2 c3 c4 c5 c6 b1 b2 b3 b4 b5 b6 g1 g2 g3 hE hA hB hC hD;refine loopI (x:=0) (L:=r.dos.length) (p:=λ_=>true) (λi e mu' n'=>∃xq,Gr n fz mu mu' n n'/\n3<=n'/\Ev.look mu' n=some [I r.me,I r.nodes,I r.view,I r.normal,I r.status,I r.commit,.bool r.sent,I r.log.base,r.log.snap.sv,.osl ide 0 r.log.ents.length (r.log.ents.length+1) 5,.osl ida 0 r.acks.length (r.acks.length+2) 1,.osl ids 0 r.starts.length (r.starts.length+2) 1,xq]/\Ev.look mu' (n+1)=some [I 0,I 0,I 0,I 0,I 0,I 0,.bool false,I 0,.str 0 0,.nsl,.nsl,.nsl,.nsl]/\(∀j,j<n3->j≠n->with' mu' fz j=with' muD fz j)/\Grow n3 (with' mu' fz) 6 DvL xq (r.dos.take i)/\e 0 1=.one (.optr n 0)/\e 0 2=.one (.optr (n+1) 0)/\e 0 3=.one xd/\e 0 4=.one (.int .i64 i)) (λ_ _ _=>False) ?_ ?_ _ _ _ _ _ (by omega) ?_ ?_ ?_
 ·rintro i e mu1 n1 K hi ⟨xq,g1,a0,a1,a2,a3,G,h1,h2,h3,h4⟩ hy hn;have hw:=Qev hi (by have:=hz.dos;omega);obtain⟨id,off,cap,B,x,rfl,hB,hmk,hbd,hsub,s5⟩:=(DvsR.mono (λ_ _ hh=>g1.old hfr hh) s4).elem hi;obtain⟨yl,ys,yk,ym⟩:=s5.len;obtain⟨-,-,zk,zm⟩:=G.len;have hno:∀c,with' ((n1,c)::mu1) fz id=some B:=λc=>by rw[Qfl,if_neg (by have:=g1.free.lt hB;omega)];exact hB
  unfold dvC at hsub;have hL:=law0_LendLog H r.dos[i].log x (hz.dlog _ (List.getElem_mem hi)).ents (hz.dlog _ (List.getElem_mem hi)).bat;unfold lgC at hL;have b1:=Qem (fz:=fz) a1;have b2:=Qem (fz:=fz) a2;rw[dX l_Qbj_0.eq_1];simp only[↓E1,E2,seval, *];have gA:Gr n1 fz mu1 ((n1,[I r.dos[i].frm,I r.dos[i].normal,I r.dos[i].commit,I r.dos[i].log.base,r.dos[i].log.snap.sv,x])::mu1) n1 (n1+1):=(Gr.refl g1.free).cons (Nat.le_refl _) _;refine hL.c1 gA.free (EntsR.mono (λ_ _ hh=>gA.old g1.free hh) s5) ?_;rintro v mu2 n2 g2 ⟨idl,rfl,hl⟩;have hle:=g2.le;have d1:Ev.look mu2 n1=some [I r.dos[i].frm,I r.dos[i].normal,I r.dos[i].commit,I r.dos[i].log.base,r.dos[i].log.snap.sv,x]:=(g2.own n1 (by omega)).trans Qnj;have d2:Ev.look mu2 n=some [I r.me,I r.nodes,I r.view,I r.normal,I r.status,I r.commit,.bool r.sent,I r.log.base,r.log.snap.sv,.osl ide 0 r.log.ents.length (r.log.ents.length+1) 5,.osl ida 0 r.acks.length (r.acks.length+2) 1,.osl ids 0 r.starts.length (r.starts.length+2) 1,xq]:=(g2.own n (by omega)).trans (by rw[Qer,if_neg (by omega)];exact a1);obtain⟨muE,hE⟩:∃m,putS mu2 n1 [I r.dos[i].frm,I r.dos[i].normal,I r.dos[i].commit,I r.dos[i].log.base,r.dos[i].log.snap.sv,.osl idl 0 r.dos[i].log.ents.length (r.dos[i].log.ents.length+1) 5]=m:=⟨_,rfl⟩
  have gC:Gr n1 fz mu1 muE n1 n2:=by rw[<-hE];exact(gA.trans (g2.weaken (by omega))).put (Nat.le_refl _) d1
  have e1:Ev.look muE n1=some [I r.dos[i].frm,I r.dos[i].normal,I r.dos[i].commit,I r.dos[i].log.base,r.dos[i].log.snap.sv,.osl idl 0 r.dos[i].log.ents.length (r.dos[i].log.ents.length+1) 5]:=by rw[<-hE,Qen,if_pos rfl,d1];rfl
  have e2:Ev.look muE n=some [I r.me,I r.nodes,I r.view,I r.normal,I r.status,I r.commit,.bool r.sent,I r.log.base,r.log.snap.sv,.osl ide 0 r.log.ents.length (r.log.ents.length+1) 5,.osl ida 0 r.acks.length (r.acks.length+2) 1,.osl ids 0 r.starts.length (r.starts.length+2) 1,xq]:=by rw[<-hE,Qen,if_neg (by omega)];exact d2
  have e3:=Qem (fz:=fz) e1;have e4:=Qem (fz:=fz) e2;have hl2:LentE (n1+1) (with' muE fz) idl r.dos[i].log.ents:=hl.up λj B hj g=>by rw[<-hE,Qet d1,if_neg (by omega)];exact g
  simp only[↓E1,E2,seval, *,Option.isSome_some,Option.map_some,List.append_assoc];have hli:(r.dos.take i).length=i:=by rw[List.length_take];omega
  refine Grow.more (R:=DvL) DvL.mono (a:=r.dos[i]) G g1.free a0 (λj hj=>hfr.fz j (by omega)) (gC.cons (by omega) _) ⟨idl,n1+1,rfl,?_⟩ ⟨rfl,rfl⟩ (by rw[hli];have h9:=hz.dos;exact Qfc (by omega) (by decide) (by decide)) (λmu3 g3 G3=>?_)
  ·exact hl2.up λj B hj g=>From.at (by omega) (by rw[Qfl,if_neg (by have:=gC.free.lt g;omega)];exact g)
  ·rw[hli]at G3⊢;have f1:=(g3.own n (by omega)).trans a1;have f2:=(g3.own (n+1) (by omega)).trans a2;have f3:=Qem (fz:=fz) f1;simp only[↓E1,E2,seval, *,Qfk,Qen,Option.isSome_some,Option.map_some,List.append_assoc];refine hy rfl _ _ _ ⟨.osl (n2+1) 0 (i+1) (i+1) 6,(g1.trans (g3.weaken (by omega))).put (Nat.le_refl _) f1,by omega,by rw[Qen,if_pos rfl,f1];rfl,by rw[Qen,if_neg (by omega),f2],λj hj hn=>?_,?_,by simp[updN,updE, *],by simp[updN,updE, *],by simp[updN,updE, *],by simp[updN,updE, *]⟩
   ·rw[Qet f1,if_neg (λh=>hn h.symm),g3.ext j hj];exact a3 j hj hn
   ·rw[List.take_add_one,List.getElem?_eq_getElem hi];exact Grow.mono (R:=DvL) DvL.mono G3 (From.put (by omega) f1)
 ·rintro e mu1 n1 K ⟨xq,g1,a0,a1,a2,a3,G,h1,h2,h3,h4⟩ hx;rw[dX l_Qbj_0.eq_1];have hlt:(r.dos.length<r.dos.length)=False:=by simp
  simp only[↓E1,E2,seval, *];exact hx _ _ _ ⟨xq,g1,a0,a1,a2,a3,G,by simp[updN,updE,h1],by simp[updN,updE,h2],by simp[updN,updE,h3],by simp[updN,updE,h4]⟩
 ·refine⟨.nsl,gg,Nat.le_refl _,c7,c8,λ_ _ _=>rfl,Grow.nil,by simp[updN,updE],by simp[updN,updE],by simp[updN,updE],by simp[updN,updE]⟩
 ·rintro -e1 mu1 n1 ⟨xq,g1,a0,a1,a2,a3,G,h1,h2,h3,h4⟩;rw[List.take_length]at G;obtain⟨-,-,zk,zm⟩:=G.len;have b1:=Qem (fz:=fz) a1;have b2:=Qem (fz:=fz) a2;simp only[↓E1,E2,seval, *,Qfk,Qen,Option.isSome_some,Option.map_some,List.append_assoc];refine hk _ _ _ (g1.put (id:=n+1) (by omega) a2) ⟨ide,ida,ids,xq,rfl,⟨⟨n+1+1,hGD.up λj B hj g=>?_⟩,?_,?_,n3,Grow.mono (R:=DvL) DvL.mono G (From.put (by omega) a2)⟩⟩
  ·rw[Qet a2,if_neg (by omega),a3 j (gg.free.lt g) (by omega)];exact g
  ·unfold LentI;rw[Qet a2,if_neg (by omega),a3 ida (gg.free.lt hGa4) (by omega)];exact hGa4
  ·unfold LentI;rw[Qet a2,if_neg (by omega),a3 ids (gg.free.lt hGs4) (by omega)];exact hGs4
 ·rintro⟨_,_,_,h⟩;cases h
end
theorem Qsx {B c:List SV} {a s j m:Nat} (h:(B.drop a).take s=c) (hm:j+m<=s):(B.drop (a+j)).take m=(c.drop j).take m:=by
 subst h;rw[<-List.drop_drop,List.drop_take,List.take_take,Nat.min_eq_left (by omega)]
theorem LentD.elem {lo:Nat} {M:Fz} {x:SV} {l:List Dv} (h:Grow lo M 6 DvL x l) {i:Nat} (hi:i<l.length):∃id off cap B idl lo',x=.osl id off l.length cap 6/\M id=some B/\mkd B=false/\off+i*6+6<=B.length/\(B.drop (off+i*6)).take 6=dvC l[i] (.osl idl 0 l[i].log.ents.length (l[i].log.ents.length+1) 5)/\LentE lo' M idl l[i].log.ents:=by
 obtain⟨cs,h1,h2⟩:=h;have hl:cs.length=l.length:=h2.length;obtain⟨id',off,cap,B,g1,g2,g3,g4,g5⟩:=h1.to.elem (i:=i) (by omega);obtain⟨idl,lo',e1,e2⟩:=h2.at (i:=i) (by omega) hi;rw[hl]at g1;exact⟨id',off,cap,B,idl,lo',g1,From.sub _ _ g2,g3,g4,g5.trans e1,e2.mono (Ex.sub.trans From.sub)⟩
section
variable {P:Program} (H:Fs P)
include H
theorem law0_KeptLog (l:Lg) (id lo:Nat) (y:SV) (hz:LndLg l):BoolC P n_Qdg [.ag (lgC l (.osl id 0 l.ents.length (l.ents.length+1) 5)),.ag (lgC l y)] (λM=>LentE lo M id l.ents/\EntsR M y l.ents) true:=boolC H.mx H.Qdg 0 λfz mu n k hfr g0 hx h=>by
 obtain⟨hx,hy⟩:=hx;obtain⟨yl,ys,yk,ym⟩:=hy.len;obtain⟨s1,s2⟩:=hz;have hse:strEq l.snap.l l.snap.n l.snap.l l.snap.n=true:=(Qjb ..).2 ⟨rfl,rfl⟩;have gA:Gr n fz mu ((n+1,lgC l y)::(n,lgC l (.osl id 0 l.ents.length (l.ents.length+1) 5))::mu) n (n+1+1):=gr2 hfr;rw[dY a_Qdg.eq_1 b_Qdg.eq_1];unfold lgC at*
 simp only[↓E1,E2,seval, *];refine(law0_KeptEntries H id lo y l.ents (by omega) (λe he=>by have:=s2 e he;omega)).c1 gA.free ⟨hx.mono (gA.sub hfr (Nat.le_refl _)),EntsR.mono (λ_ _ hh=>gA.old hfr hh) hy⟩ ?_;rintro v mu2 n2 g2 rfl;simp only[↓E1,E2,seval, *];exact h _ _ (gA.trans (g2.weaken (by omega)))
theorem law0_KeptReplica (r:Rep) (ide ida ids:Nat) (xd' xe xa xs xd:SV) (hz:LndSz r):BoolC P n_Qbl [.ag (repC r (.osl ide 0 r.log.ents.length (r.log.ents.length+1) 5) (.osl ida 0 r.acks.length (r.acks.length+2) 1) (.osl ids 0 r.starts.length (r.starts.length+2) 1) xd'),.ag (repC r xe xa xs xd)] (λM=>LentR M r ide ida ids xd'/\RepS M r xe xa xs xd) true:=boolC H.mx H.Qbl (r.dos.length+1) λfz mu n k hfr g0 hx h=>by
 obtain⟨⟨⟨lo,t1⟩,t2,t3,lo',t4⟩,s1,s2,s3,s4⟩:=hx;obtain⟨xel,xes,xek,xem⟩:=s1.len;obtain⟨xal,xas,xak,xam⟩:=s2.len;obtain⟨xsl,xss,xsk,xsm⟩:=s3.len;obtain⟨xdl,xds,xdk,xdm⟩:=s4.len;obtain⟨zdl,zds,zdk,zdm⟩:=t4.len;obtain⟨z1,z2,z3,z4,z5⟩:=hz;have hE:=law0_KeptLog H r.log ide lo xe z1;unfold lgC at hE;rw[dY a_Qbl.eq_1 b_Qbl.eq_1];have gA:Gr n fz mu ((n+1,repC r xe xa xs xd)::(n,repC r (.osl ide 0 r.log.ents.length (r.log.ents.length+1) 5) (.osl ida 0 r.acks.length (r.acks.length+2) 1) (.osl ids 0 r.starts.length (r.starts.length+2) 1) xd')::mu) n (n+1+1):=gr2 hfr;have u:=gA.sub hfr (Nat.le_refl _);unfold repC at*
 simp only[↓E1,E2,seval, *];refine hE.c1 gA.free ⟨t1.mono u,EntsR.mono u s1⟩ ?_;rintro v mu1 n1 g1 rfl;have b1:=(g1.own n (by omega)).trans (by rw[Qer,if_neg (by omega),Qer,if_pos rfl]);have b2:=(g1.own (n+1) (by omega)).trans (by rw[Qer,if_pos rfl]);have w1:=Qem (fz:=fz) b1;have w2:=Qem (fz:=fz) b2;have gB:=gA.trans (g1.weaken (by omega));have u:=gB.sub hfr (Nat.le_refl _);simp only[↓E1,E2,seval, *];refine(law0_KeptInts H ida xa r.acks (by omega)).c1 gB.free ⟨u _ _ t2,IntsR.mono u s2⟩ ?_;rintro v mu2 n2 g2 rfl;have l1:=g1.le;replace b1:=(g2.own n (by omega)).trans b1;replace b2:=(g2.own (n+1) (by omega)).trans b2;replace w1:=Qem (fz:=fz) b1;replace w2:=Qem (fz:=fz) b2;replace gB:=gB.trans (g2.weaken (by omega));replace u:=gB.sub hfr (Nat.le_refl _);simp only[↓E1,E2,seval, *];refine(law0_KeptInts H ids xs r.starts (by omega)).c1 gB.free ⟨u _ _ t3,IntsR.mono u s3⟩ ?_;rintro v mu3 n3 g3 rfl;have l2:=g2.le;replace b1:=(g3.own n (by omega)).trans b1;replace b2:=(g3.own (n+1) (by omega)).trans b2;replace w1:=Qem (fz:=fz) b1;replace w2:=Qem (fz:=fz) b2;replace gB:=gB.trans (g3.weaken (by omega));have l3:=g3.le;simp only[↓E1,E2,seval, *];refine scan (x:=0) (L:=r.dos.length) (q:=0) (r:=5) (p:=λ_=>true) (λe mu' n'=>Gr n fz mu mu' n n'/\n+1+1<=n'/\Ev.look mu' n=some [I r.me,I r.nodes,I r.view,I r.normal,I r.status,I r.commit,.bool r.sent,I r.log.base,r.log.snap.sv,.osl ide 0 r.log.ents.length (r.log.ents.length+1) 5,.osl ida 0 r.acks.length (r.acks.length+2) 1,.osl ids 0 r.starts.length (r.starts.length+2) 1,xd']/\Ev.look mu' (n+1)=some [I r.me,I r.nodes,I r.view,I r.normal,I r.status,I r.commit,.bool r.sent,I r.log.base,r.log.snap.sv,xe,xa,xs,xd]/\e 0 2=.one (.optr n 0)/\e 0 3=.one (.optr (n+1) 0)) (λe=>True) (λ_ _ _ h=>h.1.free) ?_ ?_ r.dos.length 0 (r.dos.length+1) _ _ _ _ _ (by omega) (by omega) (by omega) ⟨gB,by omega,b1,b2,?_,?_⟩ ?_ ?_ ?_
 ·rintro i e mu4 n4 K hi ⟨g4,a0,a1,a2,e2,e3⟩ hc hY hn;have u4:=g4.sub hfr (Nat.le_refl _);have hw:=Qev hi (by omega);obtain⟨id,off,cap,B,idl,lo2,rfl,p1,p2,p3,p4,p5⟩:=LentD.elem (Grow.mono (R:=DvL) DvL.mono t4 (From.mono u4)) hi;obtain⟨id2,off2,cap2,B3,b,rfl,q1,q2,q3,q4,q5⟩:=(DvsR.mono u4 s4).elem hi;obtain⟨yl,ys,yk,ym⟩:=q5.len;have w1:=Qem (fz:=fz) a1;have w2:=Qem (fz:=fz) a2;have hL:=law0_KeptLog H r.dos[i].log idl lo2 b (z5 _ (List.getElem_mem hi));unfold lgC at hL;unfold dvC at p4 q4;have p6:off+i*6+0+1<=B.length:=by omega
  have q6:off2+i*6+0+1<=B3.length:=by omega
  have p7:off+i*6+3+3<=B.length:=by omega
  have q7:off2+i*6+3+3<=B3.length:=by omega
  have p8:=Qsx (j:=0) (m:=1) p4 (by omega);have q8:=Qsx (j:=0) (m:=1) q4 (by omega);have p9:=Qsx (j:=3) (m:=3) p4 (by omega);have q9:=Qsx (j:=3) (m:=3) q4 (by omega);simp only[List.drop_zero,List.drop_succ_cons,List.take_succ_cons,List.take_zero]at p8 q8 p9 q9;rw[dX l_Qbl_0.eq_1];simp only[↓E1,E2,seval, *];refine hL.d2 g4.free ⟨p5,q5⟩ ?_;rintro v new n5 g5 rfl;have b1:=(g5.own n (by omega)).trans a1;have b2:=(g5.own (n+1) (by omega)).trans a2;have l5:=g5.le;simp only[↓E1,E2,seval, *];exact hY rfl _ _ _ g5 ⟨g4.trans (g5.weaken (by omega)),by omega,b1,b2,by simp[updN,updE, *],by simp[updN,updE, *]⟩ (by simp[updN,updE, *])
 ·rintro e mu4 n4 K ⟨g4,a0,a1,a2,e2,e3⟩ hc hY;rw[dX l_Qbl_0.eq_1];have hlt:(r.dos.length<r.dos.length)=False:=by simp
  have w1:=Qem (fz:=fz) a1;have w2:=Qem (fz:=fz) a2;simp only[↓E1,E2,seval, *];exact hY _ _ _ (Gr.refl g4.free) ⟨g4,a0,a1,a2,by simp[updN,updE,e2],by simp[updN,updE,e3]⟩
 ·simp[updN,updE,envI]
 ·simp[updN,updE,envI]
 ·simp[updN,updE]
 ·rintro ha e' mu' n' g ⟨g4,a0,a1,a2,e2,e3⟩;have w1:=Qem (fz:=fz) a1;have w2:=Qem (fz:=fz) a2;simp only[↓E1,E2,seval, *];try exact h _ _ g4
 ·rintro⟨j,j1,j2,j3⟩;cases j3
theorem ref1_SamePoints (x y:SV) (l:List Pt) (hl:l.length<=4611686018427387904):BoolC P n_Qb9 [.one x,.one y] (λM=>PtsR M x l/\PtsR M y l) true:=boolC H.mx H.Qb9 (l.length+1) λfz mu n k hfr g0 hx h=>by
 obtain⟨hx,hy⟩:=hx;obtain⟨xl,xs,xk,xm⟩:=hx.len;obtain⟨yl,ys,yk,ym⟩:=hy.len;rw[dY a_Qb9.eq_1 b_Qb9.eq_1];simp only[↓E1,E2,seval,xl,xs,yl,ys];refine scan (x:=0) (L:=l.length) (q:=0) (r:=5) (p:=λi=>true) (λe mu n=>Free fz mu n/\PtsR (with' mu fz) x l/\PtsR (with' mu fz) y l/\e 0 0=.one x/\e 0 1=.one y) (λe=>True) (λ_ _ _ h=>h.1) ?_ ?_ l.length 0 (l.length+1) _ mu n _ _ (by omega) (by omega) (by omega) ⟨hfr,hx,hy,?_,?_⟩ ?_ ?_ ?_
 ·rintro i e mu n K hi ⟨hf,hx,hy,h0,h1⟩ hc hY hn;have hx':=hx;have hy':=hy;obtain⟨id,off,cap,B,rfl,hB,hmk,hbd,hsub⟩:=hx.elem hi;obtain⟨id2,off2,cap2,B2,rfl,hB2,hmk2,hbd2,hsub2⟩:=hy.elem hi;rw[dX l_Qb9_0.eq_1];have hw:=Qev hi hl;simp only[↓E1,E2,seval,h0,h1,hc,hi,hB,hmk,hbd,hsub,hB2,hmk2,hbd2,hsub2,hw,eq_pt];exact hY rfl _ _ _ (Gr.refl hf) ⟨hf,hx',hy',by simp[updN,updE,h0],by simp[updN,updE,h1]⟩ (by simp[updN,updE])
 ·rintro e mu n K ⟨hf,hx,hy,h0,h1⟩ hc hY;rw[dX l_Qb9_0.eq_1];have hlt:(l.length<l.length)=False:=by simp
  simp only[↓E1,E2,seval,h0,h1,hc,hlt,xl,xs];exact hY _ _ _ (Gr.refl hf) ⟨hf,hx,hy,by simp[updN,updE,h0],by simp[updN,updE,h1]⟩
 ·simp[updN,updE,envI]
 ·simp[updN,updE,envI]
 ·simp[updN,updE]
 ·intro ha e' mu' n' g hI;simp only[↓E1,E2,seval];exact h _ _ g
 ·rintro⟨j,j1,j2,j3⟩;cases j3
theorem ref4_SameEntry (e:Ent) (x y:SV) (hb:e.batch.length<=4398046511104):BoolC P n_Qcn [.ag (entC e x),.ag (entC e y)] (λM=>PtsR M x e.batch/\PtsR M y e.batch) true:=boolC H.mx H.Qcn 0 λfz mu n k hfr g0 hx h=>by
 obtain⟨hx,hy⟩:=hx;obtain⟨xl,xs,xk,xm⟩:=hx.len;obtain⟨yl,ys,yk,ym⟩:=hy.len;have gA:Gr n fz mu ((n+1,entC e y)::(n,entC e x)::mu) n (n+1+1):=gr2 hfr;have u:=gA.sub hfr (Nat.le_refl _);rw[dY a_Qcn.eq_1 b_Qcn.eq_1];unfold entC at*
 simp only[↓E1,E2,seval, *];refine(ref1_SamePoints H x y e.batch (by omega)).c1 gA.free ⟨PtsR.mono u hx,PtsR.mono u hy⟩ ?_;rintro v mu2 n2 g2 rfl;simp only[↓E1,E2,seval, *];exact h _ _ (gA.trans (g2.weaken (by omega)))
theorem ref4_SameLog (l:Lg) (x y:SV) (hz:LgSz l):BoolC P n_Qdf [.ag (lgC l x),.ag (lgC l y)] (λM=>EntsR M x l.ents/\EntsR M y l.ents) true:=boolC H.mx H.Qdf (l.ents.length+1) λfz mu n k hfr g0 hx h=>by
 obtain⟨s1,s2⟩:=hx;obtain⟨z1,z2⟩:=hz;obtain⟨xl,xs,xk,xm⟩:=s1.len;obtain⟨yl,ys,yk,ym⟩:=s2.len;have hse:strEq l.snap.l l.snap.n l.snap.l l.snap.n=true:=(Qjb ..).2 ⟨rfl,rfl⟩;have gB:Gr n fz mu ((n+1,lgC l y)::(n,lgC l x)::mu) n (n+1+1):=gr2 hfr;have b1:Ev.look ((n+1,lgC l y)::(n,lgC l x)::mu) n=some (lgC l x):=by rw[Qer,if_neg (by omega),Qer,if_pos rfl]
 have b2:Ev.look ((n+1,lgC l y)::(n,lgC l x)::mu) (n+1)=some (lgC l y):=by rw[Qer,if_pos rfl]
 rw[dY a_Qdf.eq_1 b_Qdf.eq_1];unfold lgC at*
 simp only[↓E1,E2,seval, *];refine scan (x:=0) (L:=l.ents.length) (q:=0) (r:=5) (p:=λ_=>true) (λe mu' n'=>Gr n fz mu mu' n n'/\n+1+1<=n'/\Ev.look mu' n=some [I l.base,l.snap.sv,x]/\Ev.look mu' (n+1)=some [I l.base,l.snap.sv,y]/\e 0 2=.one (.optr n 0)/\e 0 3=.one (.optr (n+1) 0)) (λe=>True) (λ_ _ _ h=>h.1.free) ?_ ?_ l.ents.length 0 (l.ents.length+1) _ _ _ _ _ (by omega) (by omega) (by omega) ⟨gB,by omega,b1,b2,?_,?_⟩ ?_ ?_ ?_
 ·rintro i e mu4 n4 K hi ⟨g4,a0,a1,a2,e2,e3⟩ hc hY hn;have u4:=g4.sub hfr (Nat.le_refl _);have hw:=Qev hi (by omega);obtain⟨id,off,cap,B,a,rfl,p1,p2,p3,p4,p5⟩:=(EntsR.mono u4 s1).elem hi;obtain⟨id2,off2,cap2,B3,b,rfl,q1,q2,q3,q4,q5⟩:=(EntsR.mono u4 s2).elem hi;have w1:=Qem (fz:=fz) a1;have w2:=Qem (fz:=fz) a2;have hL:=ref4_SameEntry H l.ents[i] a b (z2 _ (List.getElem_mem hi));unfold entC at p4 q4 hL;rw[dX l_Qdf_0.eq_1];simp only[↓E1,E2,seval, *];refine hL.d2 g4.free ⟨p5,q5⟩ ?_;rintro v new n5 g5 rfl;have b1:=(g5.own n (by omega)).trans a1;have b2:=(g5.own (n+1) (by omega)).trans a2;have l5:=g5.le;simp only[↓E1,E2,seval, *];exact hY rfl _ _ _ g5 ⟨g4.trans (g5.weaken (by omega)),by omega,b1,b2,by simp[updN,updE, *],by simp[updN,updE, *]⟩ (by simp[updN,updE, *])
 ·rintro e mu4 n4 K ⟨g4,a0,a1,a2,e2,e3⟩ hc hY;rw[dX l_Qdf_0.eq_1];have hlt:(l.ents.length<l.ents.length)=False:=by simp
  have w1:=Qem (fz:=fz) a1;have w2:=Qem (fz:=fz) a2;simp only[↓E1,E2,seval, *];exact hY _ _ _ (Gr.refl g4.free) ⟨g4,a0,a1,a2,by simp[updN,updE,e2],by simp[updN,updE,e3]⟩
 ·simp[updN,updE,envI]
 ·simp[updN,updE,envI]
 ·simp[updN,updE]
 ·rintro ha e' mu' n' g ⟨g4,a0,a1,a2,e2,e3⟩;simp only[↓E1,E2,seval, *];try exact h _ _ g4
 ·rintro⟨j,j1,j2,j3⟩;cases j3
theorem ref4_Same (m:Msg) (xb xe yb ye:SV) (hb:m.batch.length<=4398046511104) (hz:LgSz m.log):BoolC P n_Qec [.ag (msgC m xb xe),.ag (msgC m yb ye)] (λM=>PtsR M xb m.batch/\EntsR M xe m.log.ents/\PtsR M yb m.batch/\EntsR M ye m.log.ents) true:=boolC H.mx H.Qec 0 λfz mu n k hfr g0 hx h=>by
 obtain⟨t1,t2,t3,t4⟩:=hx;obtain⟨xl,xs,xk,xm⟩:=t1.len;obtain⟨yl,ys,yk,ym⟩:=t2.len;obtain⟨zl,zs,zk,zm⟩:=t3.len;obtain⟨vl,vs,vk,vm⟩:=t4.len;have hse:∀t:Tx,strEq t.l t.n t.l t.n=true:=λt=>(Qjb ..).2 ⟨rfl,rfl⟩;have gA:Gr n fz mu ((n+1,msgC m yb ye)::(n,msgC m xb xe)::mu) n (n+1+1):=gr2 hfr;have u:=gA.sub hfr (Nat.le_refl _);have hL:=ref4_SameLog H m.log xe ye hz;rw[dY a_Qec.eq_1 b_Qec.eq_1];unfold msgC at*
 unfold lgC at hL;simp only[↓E1,E2,seval, *];refine(ref1_SamePoints H xb yb m.batch (by omega)).c1 gA.free ⟨PtsR.mono u t1,PtsR.mono u t3⟩ ?_;rintro v mu2 n2 g2 rfl;have b1:=(g2.own n (by omega)).trans (by rw[Qer,if_neg (by omega),Qer,if_pos rfl]);have b2:=(g2.own (n+1) (by omega)).trans (by rw[Qer,if_pos rfl]);have w1:=Qem (fz:=fz) b1;have w2:=Qem (fz:=fz) b2;have gB:=gA.trans (g2.weaken (by omega));have u:=gB.sub hfr (Nat.le_refl _);simp only[↓E1,E2,seval, *];refine hL.c1 gB.free ⟨EntsR.mono u t2,EntsR.mono u t4⟩ ?_;rintro v mu3 n3 g3 rfl;have l2:=g2.le;replace b1:=(g3.own n (by omega)).trans b1;replace b2:=(g3.own (n+1) (by omega)).trans b2;replace w1:=Qem (fz:=fz) b1;replace w2:=Qem (fz:=fz) b2;replace gB:=gB.trans (g3.weaken (by omega));simp only[↓E1,E2,seval, *];try exact h _ _ gB
end
end Go.Proofs.YtnnjlnkoomeadaaGreat.Pv
namespace Go.Ev.Rp
def Qfa (x:Int) (s:Bool×List Int) (y:Int):Bool×List Int:=
 let t:=if s.1=false/\x<=y then(true,s.2++[x])else s
 (t.1,if y=x then t.2 else t.2++[y])
def putF (xs:List Int) (x:Int):Bool×List Int:=xs.foldl (Qfa x) (false,[])
def putL (xs:List Int) (x:Int):List Int:=if(putF xs x).1 then(putF xs x).2 else(putF xs x).2++[x]
theorem Qse {x:Int}:∀(l o:List Int),(∀y∈l,y≠x)->l.foldl (Qfa x) (true,o)=(true,o++l)
 |[],o,_=>by simp
 |y::l,o,h=>by
  have hy:=h y (by simp);rw[List.foldl_cons];have:Qfa x (true,o) y=(true,o++[y]):=by simp[Qfa,hy]
  rw[this,Qse l _ (λz hz=>h z (by simp[hz]))];simp
theorem put_lt {x:Int}:∀(l o:List Int),(∀y∈l,y<x)->l.foldl (Qfa x) (false,o)=(false,o++l)
 |[],o,_=>by simp
 |y::l,o,h=>by
  have hy:=h y (by simp);rw[List.foldl_cons];have:Qfa x (false,o) y=(false,o++[y]):=by
   simp[Qfa,show¬x<=y by omega,show¬y=x by omega]
  rw[this,put_lt l _ (λz hz=>h z (by simp[hz]))];simp
theorem put_at {xs:List Int} {x:Int} {i:Nat} (hr:xs.Pairwise (· <·)) (hi:i<=xs.length) (h1:∀j (h:j<xs.length),j<i->xs[j]<x) (h2:∀j (h:j<xs.length),i<=j->x<=xs[j]):
 putL xs x=if h:i<xs.length then(if xs[i]=x then xs else xs.take i++x::xs.drop i)else xs++[x]:=by
 have a1:∀y∈xs.take i,y<x:=λy hy=>by
  obtain⟨j,hj,rfl⟩:=List.getElem_of_mem hy;simp at hj;rw[List.getElem_take];exact h1 j (by omega) (by omega)
 have e1:putF xs x=(xs.drop i).foldl (Qfa x) (false,xs.take i):=by
  unfold putF;conv=>lhs;rw[<-List.take_append_drop i xs,List.foldl_append]
  rw[put_lt _ _ a1];simp
 by_cases hlt:i<xs.length
 ·rw[dif_pos hlt];have hd:xs.drop i=xs[i]::xs.drop (i+1):=List.drop_eq_getElem_cons hlt;have hx:=h2 i hlt (Nat.le_refl _);have hgt:∀y∈xs.drop (i+1),xs[i]<y:=λy hy=>by
   obtain⟨j,hj,rfl⟩:=List.getElem_of_mem hy;simp at hj;rw[List.getElem_drop];exact List.pairwise_iff_getElem.1 hr i (i+1+j) hlt (by omega) (by omega)
  have hne:∀y∈xs.drop (i+1),y≠x:=λy hy=>by have:=hgt y hy;omega
  rw[hd,List.foldl_cons]at e1;have hst:Qfa x (false,xs.take i) xs[i]=(true,if xs[i]=x then xs.take i++[x]else xs.take i++[x]++[xs[i]]):=by
   simp[Qfa,hx]
  rw[hst,Qse _ _ hne]at e1;unfold putL;rw[e1];simp only[if_true];by_cases he:xs[i]=x
  ·rw[if_pos he,if_pos he];conv=>rhs;rw[<-List.take_append_drop i xs,hd,he]
   simp
  ·rw[if_neg he,if_neg he,hd];simp
 ·rw[dif_neg hlt];have:xs.drop i=[]:=List.drop_eq_nil_of_le (by omega);rw[this]at e1;unfold putL;rw[e1];simp[List.take_of_length_le (show xs.length<=i by omega)]
theorem Qm2 {xs:List Int} {x:Int}:(putL xs x).length<=2*xs.length+2:=by
 have h:∀(l:List Int) (s:Bool×List Int),(l.foldl (Qfa x) s).2.length<=s.2.length+2*l.length:=by
  intro l;induction l with
  |nil=>intro s;simp
  |cons y l ih=>
   intro s;rw[List.foldl_cons];have:=ih (Qfa x s y);have h2:(Qfa x s y).2.length<=s.2.length+2:=by
    unfold Qfa;dsimp only;split<;>split<;>simp
   simp only[List.length_cons];omega
 have:=h xs (false,[]);unfold putL putF;split<;>simp at*<;>omega
end Go.Ev.Rp
namespace Go.Proofs.YtnnjlnkoomeadaaGreat.Pv
open Go.Ev Go.Ev.Rp
set_option maxRecDepth 100000
set_option maxHeartbeats 4000000
theorem Qsu {a:Int}:a.fdiv (2^min 1 IntKind.u64.bits)=a/2:=by
 have:min 1 IntKind.u64.bits=1:=by decide
 rw[this,Int.fdiv_eq_ediv_of_nonneg _ (by decide)];rfl
theorem wrapU {x:Int} (h1:0<=x) (h2:x<18446744073709551616):IntKind.u64.wrap x=x:=by
 simp[IntKind.wrap,IntKind.bits,IntKind.signed];omega
structure At (l:List Int) (t:Int) (i:Nat) (b:Bool):Prop where
 le:i<=l.length
 lt:∀j (h:j<l.length),j<i->l[j]<t
 ge:∀j (h:j<l.length),i<=j->t<=l[j]
 is:b=decide (∃h:i<l.length,l[i]=t)
section
variable {P:Program} (H:Fs P)
include H
theorem cmp_isNaN_int (a:Int):BoolC P n_Qdb [.one (I a)] (λ_=>True) false:=boolC H.mx H.Qdb 0 λfz mu n k hfr g0 hx h=>by
 rw[dY a_Qdb.eq_1 b_Qdb.eq_1];simp only[↓E1,E2,seval, *];try exact h _ _ g0
theorem slices_isNaN_int (a:Int):BoolC P n_Qb1 [.one (I a)] (λ_=>True) false:=boolC H.mx H.Qb1 0 λfz mu n k hfr g0 hx h=>by
 rw[dY a_Qb1.eq_1 b_Qb1.eq_1];simp only[↓E1,E2,seval, *];try exact h _ _ g0
theorem cmp_Less_int (a b:Int):BoolC P n_Qdm [.one (I a),.one (I b)] (λ_=>True) (decide (a<b)):=boolC H.mx H.Qdm 0 λfz mu n k hfr g0 hx h=>by
 rw[dY a_Qdm.eq_1 b_Qdm.eq_1];simp only[↓E1,E2,seval, *];refine(cmp_isNaN_int H a).c1 hfr trivial ?_;rintro v mu2 n2 g2 rfl;simp only[↓E1,E2,seval, *];try exact h _ _ g2
theorem slices_BinarySearch_int_int (x:SV) (l:List Int) (t:Int) (hr:l.Pairwise (· <·)) (hl:l.length<=4611686018427387904):Ctr P n_Qak [.one x,.one (I t)] (fun M=>IntsR M x l) (fun n _ M v=>∃i b,v=.tp [.one (.int .i64 (i:Nat)),.one (.bool b)]/\At l t i b):=Ctr.of H.mx H.Qak (fun _=>l.length+1) fun fz mu n k hfr s1 hk=>by
 obtain⟨xl,xs,xk,xm⟩:=s1.len;rw[dY a_Qak.eq_1 b_Qak.eq_1];have loop:∀m i j fu (e:Env) mu1 n1 (K:LK) w,m=j-i->m<fu->i<=j->j<=l.length->(∀k (h:k<l.length),k<i->l[k]<t)->(∀k (h:k<l.length),j<=k->t<=l[k])->Gr n fz mu mu1 n n1->e 0 0=.one x->e 0 1=.one (I t)->e 0 6=.one (.int .i64 l.length)->e 0 7=.one (.int .i64 i)->e 0 8=.one (.int .i64 j)->
  (∀i (e':Env) mu' n',i<=l.length->(∀k (h:k<l.length),k<i->l[k]<t)->(∀k (h:k<l.length),i<=k->t<=l[k])->Gr n fz mu mu' n n'->e' 0 0=.one x->e' 0 1=.one (I t)->e' 0 6=.one (.int .i64 l.length)->e' 0 7=.one (.int .i64 i)->K (.exit 0) (tmE 54 e') mu' n')->
  Lp (dcode pOrc False (CP P) fz (l.length+1) l_Qak_0) fu (tmE 54 e) mu1 n1 K w:=by
  intro m;induction m using Nat.strongRecOn with
  |ind m ih=>
  intro i j fu e mu1 n1 K w hm hfu hij hjl hlt hge g1 h0 h1 h6 h7 h8 hK;obtain⟨fu,rfl⟩:∃f,fu=f+1:=⟨fu-1,by omega⟩
  rw[Qiy,dX l_Qak_0.eq_1];by_cases hlj:i<j
  ·have hw1:IntKind.i64.wrap ((i:Int)+j)=(i:Int)+j:=wrap64 (by omega) (by omega);have hw2:IntKind.u64.wrap ((i:Int)+j)=(i:Int)+j:=wrapU (by omega) (by omega);obtain⟨h,hh⟩:∃h,(i+j)/2=h:=⟨_,rfl⟩
   have hw3:IntKind.i64.wrap (((i:Int)+j)/2)=(h:Int):=by rw[wrap64 (by omega) (by omega)];omega
   have hhl:h<l.length:=by omega
   have hw4:=Qev hhl hl;have hij':((i:Int)<j)=True:=by simp;omega
   have hpw:∀k (hk:k<l.length),k<h->l[k]<l[h]:=λk hk h3=>List.pairwise_iff_getElem.1 hr k h hk hhl h3;have hpw2:∀k (hk:k<l.length),h<k->l[h]<l[k]:=λk hk h3=>List.pairwise_iff_getElem.1 hr h k hhl hk h3;obtain⟨id,off,cap,B,rfl,hB,hmk,hbd,hsub⟩:=(IntsR.mono (λ_ _ hh=>g1.old hfr hh) s1).elem hhl;simp only[↓E1,E2,seval,Qsu,h0,h1,h6,h7,h8,hw1,hw2,hw3,hij',hB,hmk,hbd,hsub,hhl];have hnb:(decide ((h:Int)<0))=false:=by simp
   simp only[↓E1,E2,seval,Int.toNat_natCast,hnb,hB,hmk,hbd,hsub,hhl];refine(cmp_Less_int H l[h] t).c1 g1.free trivial ?_;rintro v mu2 n2 g2 rfl;have g3:=g1.trans (g2.weaken g1.le);simp only[↓E1,E2,seval,updN,updE,h0,h1,h6,h7,h8];refine Qeo (λhb=>?_) (λhb=>?_)
   ·simp only[↓E1,E2,seval,updN,updE,h0,h1,h6,h7,h8,hw4];simp only[decide_eq_true_eq]at hb;refine ih (j-(h+1)) (by omega) (h+1) j fu _ _ _ _ _ rfl (by omega) (by omega) hjl (λk hk hkh=>?_) hge g3 (by simp[updN,updE,h0,h1,h6,h7,h8]) (by simp[updN,updE,h0,h1,h6,h7,h8]) (by simp[updN,updE,h0,h1,h6,h7,h8]) (by simp[updN,updE,h0,h1,h6,h7,h8]) (by simp[updN,updE,h0,h1,h6,h7,h8]) hK;rcases Nat.lt_or_ge k h with h3|h3
    ·have:=hpw k hk h3;omega
    ·have:k=h:=by omega
     subst this;exact hb
   ·simp only[↓E1,E2,seval,updN,updE,h0,h1,h6,h7,h8];simp only[decide_eq_false_iff_not]at hb;refine ih (h-i) (by omega) i h fu _ _ _ _ _ rfl (by omega) (by omega) (by omega) hlt (λk hk hkh=>?_) g3 (by simp[updN,updE,h0,h1,h6,h7,h8]) (by simp[updN,updE,h0,h1,h6,h7,h8]) (by simp[updN,updE,h0,h1,h6,h7,h8]) (by simp[updN,updE,h0,h1,h6,h7,h8]) (by simp[updN,updE,h0,h1,h6,h7,h8]) hK;rcases Nat.lt_or_ge h k with h3|h3
    ·have:=hpw2 k hk h3;omega
    ·have:k=h:=by omega
     subst this;omega
  ·have:i=j:=by omega
   subst this;have hij':((i:Int)<i)=False:=by simp
   simp only[↓E1,E2,seval,h0,h1,h6,h7,h8,hij'];exact hK i _ _ _ hjl hlt hge g1 (by simp[updN,updE, *]) (by simp[updN,updE, *]) (by simp[updN,updE, *]) (by simp[updN,updE, *])
 simp only[↓E1,E2,seval, *];refine loop l.length 0 l.length (l.length+1) _ _ _ _ _ (by omega) (by omega) (by omega) (Nat.le_refl _) (λk hk h=>by omega) (λk hk h=>by omega) (Gr.refl hfr) (by simp[updN,updE,envI]) (by simp[updN,updE,envI]) (by simp[updN,updE,envI]) (by simp[updN,updE,envI]) (by simp[updN,updE,envI]) ?_;clear loop;intro i e' mu' n' hi hlt hge g h0 h1 h6 h7;simp only[↓E1,E2,seval,h0,h1,h6,h7];by_cases hil:i<l.length
 ·obtain⟨id,off,cap,B,rfl,hB,hmk,hbd,hsub⟩:=(IntsR.mono (λ_ _ hh=>g.old hfr hh) s1).elem hil;simp only[↓E1,E2,seval, *];refine Qeo (λhb=>?_) (λhb=>?_)
  ·have hb':l[i]=t:=of_decide_eq_true hb;clear hb;have hd:decide (l[i]=t)=true:=by simp[hb']
   simp only[↓E1,E2,seval,h0,h1,h6,h7,hB,hmk,hbd,hsub,hil,hd,updN,updE];exact hk _ _ _ g ⟨i,true,rfl,⟨hi,hlt,hge,by simp;exact⟨hil,hb'⟩⟩⟩
  ·have hb':¬l[i]=t:=of_decide_eq_false hb;clear hb;have hd:decide (l[i]=t)=false:=by simp[hb']
   simp only[↓E1,E2,seval,h0,h1,h6,h7,hB,hmk,hbd,hsub,hil,hd,updN,updE];refine(slices_isNaN_int H l[i]).c1 g.free trivial ?_;rintro v mu2 n2 g2 rfl;simp only[↓E1,E2,seval,h0,h1,h6,h7,hB,hmk,hbd,hsub,hil,hd,updN,updE];exact hk _ _ _ (g.trans (g2.weaken g.le)) ⟨i,false,rfl,⟨hi,hlt,hge,by simp;exactλ_=>hb'⟩⟩
 ·simp only[↓E1,E2,seval, *];exact hk _ _ _ g ⟨i,false,rfl,⟨hi,hlt,hge,by simp;exactλh=>absurd h hil⟩⟩
end
end Go.Proofs.YtnnjlnkoomeadaaGreat.Pv
namespace Go.Ev
open Go.Shelf Go.Proofs
section
variable {val:Nat->Int} {fz:Fz} {mu:St} {n:Nat}
theorem Qfi {b:Nat} {ty:TypeId} {fr:Nat×Nat}:∀(vs:List Value) (o:Nat) (w:World) (C:Array Value),w.heap[b]?=some (.cells C ty fr)->o+vs.length<=C.size->
 ∃D:Array Value,(w.setCells b o vs).heap[b]?=some (.cells D ty fr)/\D.size=C.size/\∀j:Nat,D[j]?=if o<=j/\j<o+vs.length then vs[j-o]? else C[j]?
 |[],o,w,C,h,_=>⟨C,h,rfl,λj=>by simp;omega⟩
 |v::r,o,w,C,h,hl=>by
  have h1:(w.setCell ⟨b,o,none⟩ v).heap[b]?=some (.cells (C.setIfInBounds o v) ty fr):=by
   simp only[World.setCell,Array.getElem?_modify,if_true,h];simp
  obtain⟨D,d1,d2,d3⟩:=Qfi r (o+1) _ _ h1 (by simp at hl⊢;omega);refine⟨D,d1,by rw[d2];simp,λj=>?_⟩;rw[d3];simp at hl;by_cases e:j=o
  ·subst e;simp[show¬(j+1<=j/\j<j+1+r.length) by omega,Array.getElem?_setIfInBounds,show j<C.size by omega]
  ·have e':¬o=j:=λx=>e x.symm;by_cases a1:o+1<=j/\j<o+1+r.length
   ·simp only[a1,and_self,if_true,List.length_cons,show o<=j/\j<o+(r.length+1) by omega];rw[show j-o=(j-(o+1))+1 by omega,List.getElem?_cons_succ]
   ·simp only[a1,if_false,List.length_cons,show¬(o<=j/\j<o+(r.length+1)) by omega,Array.getElem?_setIfInBounds,e']
theorem Qfb {b b':Nat} (h:b'≠b):∀(vs:List Value) (o:Nat) (w:World),(w.setCells b o vs).heap[b']?=w.heap[b']?
 |[],_,_=>rfl
 |v::r,o,w=>by
  have:=Qfb h r (o+1) (w.setCell ⟨b,o,none⟩ v);show((w.setCell ⟨b,o,none⟩ v).setCells b (o+1) r).heap[b']?=_;rw[this];simp only[World.setCell,Array.getElem?_modify];rw[if_neg (λe=>h e.symm)]
theorem Qfh {b:Nat}:∀(vs:List Value) (o:Nat) (w:World),(w.setCells b o vs).os=w.os/\(w.setCells b o vs).tape=w.tape/\(w.setCells b o vs).output=w.output/\(w.setCells b o vs).heap.size=w.heap.size
 |[],_,_=>⟨rfl,rfl,rfl,rfl⟩
 |v::r,o,w=>by
  obtain⟨a,b',c,d⟩:=Qfh r (o+1) (w.setCell ⟨b,o,none⟩ v);exact⟨a,b',c,d.trans (by simp[World.setCell])⟩
theorem Qnh {ρ:Rho} {w w':World} (hr:Rel val ρ fz mu w) {id:Nat} {known cs:List SV} {off:Nat} {p:Nat×Nat} {C D:Array Value} {ty:TypeId} {fr:Nat×Nat} (hfo:FrOk fr C.size) (hl:look mu id=some known) (hn:ρ n=none) (hp:ρ id=some p)
 (hC:w.heap[p.1]?=some (.cells C ty fr)) (hD:w'.heap[p.1]?=some (.cells D ty fr)) (hs:D.size=C.size) (hother:∀b,b≠p.1->w'.heap[b]?=w.heap[b]?) (ho:w'.os=w.os) (ht:w'.tape=w.tape) (hou:w'.output=w.output) (hhs:w'.heap.size=w.heap.size)
 (hfit:p.2+off+cs.length<=D.size) (hv:∀(i:Nat) s,cs[i]?=some s->∃v,D[p.2+off+i]?=some v/\VR val ρ w s v):
 Ext ρ (upd ρ n (p.1,p.2+off)) n (n+1)/\Rel val (upd ρ n (p.1,p.2+off)) fz ((n,cs)::killS mu id) w'/\Fr ρ mu w w'/\
  NewB ρ (upd ρ n (p.1,p.2+off)) mu ((n,cs)::killS mu id) w/\NewI mu ((n,cs)::killS mu id) n (n+1)/\(∀b,bsize w' b=bsize w b):=by
 have hbs:∀b,bsize w' b=bsize w b:=λb=>by
  unfold bsize;by_cases e:b=p.1
  ·subst e;rw[hC,hD];exact hs
  ·rw[hother b e]
 have hbs':∀b,bsize w b<=bsize w' b:=λb=>Nat.le_of_eq (hbs b).symm;have hup:=λid q hq=>Qk7 (p:=(p.1,p.2+off)) hn id q hq;have hfn:fz n=none:=by
  cases e:fz n with
  |none=>rfl
  |some c=>obtain⟨p,o,h1,_⟩:=(hr.rf n c e).at;rw[hn]at h1;cases h1
 have keepOwn:∀id' c,id'≠id->((look mu id').isSome\/(fz id').isSome)->OwnG val ρ w id' c->OwnG val (upd ρ n (p.1,p.2+off)) w' id' c:=by
  intro id' c hne hlv hown;refine hown.mono hup hbs' λq hq=>hother _ λe=>hne ?_;exact(hr.dj id id' p q (by simp[hl]) hlv hp hq e.symm).symm
 have keepF:∀id' c,id'≠id->((look mu id').isSome\/(fz id').isSome)->OwnF val ρ w id' c->OwnF val (upd ρ n (p.1,p.2+off)) w' id' c:=by
  intro id' c hne hlv hown;refine hown.mono hup hbs' λq hq=>hother _ λe=>hne ?_;exact(hr.dj id id' p q (by simp[hl]) hlv hp hq e.symm).symm
 have hlk:∀id' c,look ((n,cs)::killS mu id) id'=some c->id'=n/\c=cs\/id'≠n/\id'≠id/\look mu id'=some c:=by
  intro id' c h;rw[Qey]at h;by_cases e:n=id'
  ·simp only[e,if_true,Option.some.injEq]at h;exact .inl ⟨e.symm,h.symm⟩
  ·simp only[e,if_false,Qfe]at h;split at h
   ·cases h
   ·rename_i e2;exact .inr ⟨λx=>e x.symm,λx=>e2 x.symm,h⟩
 refine⟨Qpa hn,⟨λid' c h=>?_,λid' c h=>?_,λid' c h=>?_,λa b q q' ha hb hq hq' he=>?_⟩,
  ⟨ho,ht,hou,Nat.le_of_eq hhs.symm,λb _ hb=>hother b λe=>hb id p (by simp[hl]) hp e.symm,hbs'⟩,λa q ha hq=>?_,λa ha=>?_,hbs⟩
 ·refine keepF id' c (λe=>?_) (.inr (by simp[h])) (hr.rf id' c h);subst e;have:=hr.dm id' known hl;rw[this]at h;cases h
 ·rcases hlk id' c h with⟨rfl,rfl⟩|⟨e1,e2,e3⟩
  ·refine .inl ⟨(p.1,p.2+off),D,ty,fr,upd_same _ _ _,hD,by rw[hs];exact hfo,hfit,λi s hi=>?_⟩;obtain⟨v,e,r⟩:=hv i s hi;exact⟨v,e,r.mono hup hbs'⟩
  ·exact keepOwn id' c e2 (.inl (by simp[e3])) (hr.rm id' c e3)
 ·rcases hlk id' c h with⟨rfl,rfl⟩|⟨e1,e2,e3⟩
  ·exact hfn
  ·exact hr.dm id' c e3
 ·have key:∀a q,((look ((n,cs)::killS mu id) a).isSome\/(fz a).isSome)->upd ρ n (p.1,p.2+off) a=some q->a=n/\q.1=p.1\/a≠n/\a≠id/\ρ a=some q/\((look mu a).isSome\/(fz a).isSome):=by
   intro a q h hq;by_cases e:a=n
   ·left;subst e;rw[upd_same]at hq;cases hq;exact⟨rfl,rfl⟩
   ·right
    have hq2:ρ a=some q:=by simpa[upd,e]using hq
    rcases h with h|h
    ·obtain⟨c,hc⟩:=Option.isSome_iff_exists.1 h;rcases hlk a c hc with⟨x,_⟩|⟨_,x2,x3⟩
     ·exact(e x).elim
     ·exact⟨e,x2,hq2,.inl (by simp[x3])⟩
    ·refine⟨e,λx=>?_,hq2,.inr h⟩;subst x;have:=hr.dm a known hl;rw[this]at h;cases h
  rcases key a q (.inl ha) hq with⟨x1,x2⟩|⟨x1,x2,x3,x4⟩
  ·rcases key b q' hb hq' with⟨y1,y2⟩|⟨y1,y2,y3,y4⟩
   ·rw[x1,y1]
   ·exact(y2 (hr.dj id b p q' (by simp[hl]) y4 hp y3 (by omega)).symm).elim
  ·rcases key b q' hb hq' with⟨y1,y2⟩|⟨y1,y2,y3,y4⟩
   ·have x4':(look mu a).isSome:=by
     obtain⟨c,hc⟩:=Option.isSome_iff_exists.1 ha;rcases hlk a c hc with⟨z1,_⟩|⟨_,_,z3⟩
     ·exact(x1 z1).elim
     ·simp[z3]
    exact(x2 (hr.dj id a p q (by simp[hl]) (.inl x4') hp x3 (by omega)).symm).elim
   ·have x4':(look mu a).isSome:=by
     obtain⟨c,hc⟩:=Option.isSome_iff_exists.1 ha;rcases hlk a c hc with⟨z1,_⟩|⟨_,_,z3⟩
     ·exact(x1 z1).elim
     ·simp[z3]
    exact hr.dj a b q q' x4' y4 x3 y3 he
 ·obtain⟨c,hc⟩:=Option.isSome_iff_exists.1 ha;rcases hlk a c hc with⟨z1,_⟩|⟨z1,_,z3⟩
  ·subst z1;rw[upd_same]at hq;cases hq;exact .inr ⟨id,p,by simp[hl],hp,rfl⟩
  ·exact .inr ⟨a,q,by simp[z3],by simpa[upd,z1]using hq,rfl⟩
 ·obtain⟨c,hc⟩:=Option.isSome_iff_exists.1 ha;rcases hlk a c hc with⟨z1,_⟩|⟨z1,_,z3⟩
  ·subst z1;exact .inr ⟨Nat.le_refl _,Nat.lt_succ_self _⟩
  ·exact .inl (by simp[z3])
end
end Go.Ev
namespace Go.Ev
open Go.Shelf Go.Proofs
section
variable {R:Type} {T:R->Prop} {z:R} {P:Program} {val:Nat->Int}
def insAt (z:R) (src:List SV) (m vid:Nat) (x:SV) (i:Int) (mu:St) (n:Nat) (k:AV->St->Nat->R):R:=
 match x with
 |.nsl=>cond (eqI i 0&&Nat.ble m 17592186044416) (fN (Nat.succ n) λn'=>k (.one (.osl n 0 m m 1)) ((n,src)::mu) n') z
 |.esl=>cond (eqI i 0&&Nat.ble m 17592186044416) (fN (Nat.succ n) λn'=>k (.one (.osl n 0 m m 1)) ((n,src)::mu) n') z
 |.osl id off len _ s=>cond (Nat.beq s 1&&not (ltI i 0)&&Nat.ble i.toNat len&&not (Nat.beq id vid)&&Nat.ble (Nat.add len m) 17592186044416)
  (Qh7 mu id z λknown=>cond (Nat.beq known.length (Nat.add off len)&&Qeq known)
   (copyK ((known.drop off).take i.toNat++src++(known.drop off).drop i.toNat) λcs=>killK mu id λmu=>fN (Nat.add len m) λl=>fN (Nat.succ n) λn'=>k (.one (.osl n 0 l l 1)) ((n,cs)::mu) n') z) z
 |_=>z
def insK (z:R):Contract R:=λargs fz mu n k=>
 match args with
 |[.one x,.one (.int .i64 i),.one (.osl vid voff m _ vs)]=>cond (Nat.blt 0 m&&Nat.beq vs 1) (Qh7 mu vid z λvc=>subK vc voff m z λsrc=>cond (Qeq src) (insAt z src m vid x i mu n k) z) z
 |_=>z
theorem Qqj {l:List SV} (h:Qeq l=true) (a b:Nat):Qeq ((l.drop a).take b)=true:=by
 rw[Qif]at*
 intro s hs;exact h s (List.mem_of_mem_drop (List.mem_of_mem_take hs))
theorem Qhn (hs:s2bOk=false) {w:World} {b:Nat} {C:Array Value} {ty:TypeId} {fr:Nat×Nat} (hf:FrOk fr C.size) (h:w.heap[b]?=some (.cells C ty fr)) (o:Nat):w.frozen? ⟨b,o,none⟩=false:=by
 simp only[World.frozen?,h];exact hf.all hs o
theorem Ql6 {w:World} {b:Nat} {C:Array Value} {ty:TypeId} {fr:Nat×Nat} (h:w.heap[b]?=some (.cells C ty fr)):w.shape? b=some (ty,C.size):=by
 simp[World.shape?,h]
theorem Qo8 {w:World} {b:Nat} {C:Array Value} {ty:TypeId} {fr:Nat×Nat} (h:w.heap[b]?=some (.cells C ty fr)) (o:Nat):w.cell? ⟨b,o,none⟩=C[o]?:=by
 simp[World.cell?,h]
theorem Qil {f:Nat} {xs:Array Value} {w:World} {S S':Ending->World->Prop} (h:Calls P f xs w S) (hs:∀e w',S e w'->S' e w'):Calls P f xs w S':=h.mono hs
theorem insK_ok (hs2b:s2bOk=false) (hz:¬T z) {ren:Ren} (L:Lays2.n21 P ren) (hb:Qgw P (ren.f 21)=true):Qjw T P val (ren.f 21) (insK z):=by
 intro args fz mu n k h;unfold insK at h;split at h
 case h_2=>exact(hz h).elim
 case h_1 x i vid voff m vcap vs=>
 obtain⟨h1,h2⟩:=Qew hz h;simp only[Bool.and_eq_true,Nat.blt_eq]at h1;obtain⟨hm,hvs⟩:=h1;have hvs':=Qgv hvs;subst hvs';obtain⟨vc,h3,hvm,h4⟩:=Qh4 hz h2;obtain⟨h5,h6⟩:=Qin hz h4;obtain⟨hks,h7⟩:=Qew hz h6;generalize hsrc:(vc.drop voff).take m=src at h7 hks;have hsl:src.length=m:=by rw[<-hsrc];simp;omega
 have hfzV:(look mu vid).isSome\/(fz vid).isSome:=.inl (by simp[h3])
 -- the values to be laid in
 have V:∀ρ w (xs:Value),Rel val ρ fz mu w->VR val ρ w (.osl vid voff m vcap 1) xs->∃q c C ty fr,∃news:List Value,ρ vid=some q/\xs=.slice (some ⟨q.1,q.2+voff,none⟩) m c/\(w.heap[q.1]?=some (.cells C ty fr)/\FrOk fr C.size)/\news.length=m/\All2 (VR val ρ w) src news/\(∀j v,news[j]?=some v->w.cell? ⟨q.1,q.2+voff+j,none⟩=some v):=by
  intro ρ w xs hr hv;obtain⟨q,c,hq,hx,_⟩:=hv;have ho:=(hr.rm _ _ h3).plain hvm;obtain⟨q',C,ty,fr,e1,e2,e3,_⟩:=ho;rw[hq]at e1;cases e1;obtain⟨news,g1,g2,g3,_⟩:=((hr.rm _ _ h3).plain hvm).r.read (P:=P) hq h5;rw[hsrc]at g2;exact⟨q,c,C,ty,fr,news,hq,hx,⟨e2,e3⟩,g1,g2,g3⟩
 unfold insAt at h7
 -- a new row
 have newRow0:∀(base:Option Addr),T (k (.one (.osl n 0 m m 1)) ((n,src)::mu) (n+1))->i=0->m<=17592186044416->(∀ρ w v,VR val ρ w x v->∃base:Option Addr,v=.slice base 0 0)->
  ∃v mu' n',T (k v mu' n')/\Qgw P (ren.f 21)=true/\n<=n'/\∀ρ w (xs:List Value),Rel val ρ fz mu w->All2 (AVR val ρ w) [.one x,.one (.int .i64 i),.one (.osl vid voff m vcap 1)] xs->Qgi ρ n n'->
   Calls P (ren.f 21) xs.toArray w λe w'=>∃x,e=.returned x/\Post val ρ fz mu n w v mu' n' x w':=by
  intro _ hT hi hmb hx0;refine⟨_,_,_,hT,hb,Nat.le_succ _,λρ w xs hr hxs hf=>?_⟩;obtain⟨x1,x2,x3,rfl⟩:∃x1 x2 x3,xs=[x1,x2,x3]:=by
   match xs,hxs with
   |[a,b,c],_=>exact⟨a,b,c,rfl⟩
   |[],h=>exact h.elim
   |[_],h=>exact h.2.elim
   |[_,_],h=>exact h.2.2.elim
   |_::_::_::_::_,h=>exact h.2.2.2.elim
  obtain⟨hx1,hx2,hx3,_⟩:=hxs;obtain⟨base,rfl⟩:=hx0 ρ w x1 hx1;have hx2':x2=.int .i64 i:=hx2;subst hx2' hi;obtain⟨q,c,C,ty,frq,news,hq,rfl,⟨hC,hCf⟩,hnl,hnv,hnc⟩:=V ρ w x3 hr hx3;have hn:=hf n (Nat.le_refl _) (Nat.lt_succ_self _);have:=Any2.slices_Insert_int_end_grow L base 0 0 q.1 (q.2+voff) m c [] news w hm (Nat.le_refl _) (by omega) (by omega) rfl hnl (λ_=>rfl) (λ_ _ j v hj=>by simp at hj) hnc (Qgq hnv hks);refine Qil this λe w' ⟨he,hw⟩=>⟨_,he,?_⟩
  subst hw;simp only[Nat.zero_add]at*
  have hge:=grownCap_ge w m 0 (ren.t 3);have hle:=grownCap_le_maxLen w m 0 (ren.t 3) (by unfold maxLen;omega);unfold maxLen at hle;obtain⟨b1,b2,b3,b4,b5,b6⟩:=Qhd (ty:=ren.t 3) (Like.drew w) hr hn (cs:=src) (C:=(([]++news:List Value).toArray++Builtin.zeroCells (Value.int .i64 0).cells (grownCap w m 0 (ren.t 3)-m))) (by simp[hnl,hsl])
   (λj s' hj=>by
    obtain⟨v,ev',rv⟩:=hnv.get hj;refine⟨v,?_,rv⟩;have hlt:=(List.getElem?_eq_some_iff.1 ev').1;rw[Array.getElem?_append_left (by simpa using hlt)];simpa using ev')
  refine⟨_,b1,b2,⟨(w.heap.size,0),_,upd_same _ _ _,rfl,Nat.le_refl _,hge,?_,by omega⟩,b3,b4,b5⟩;rw[b6];simp[Builtin.zeroCells,Value.cells,hnl];omega
 split at h7
 ·obtain⟨g1,g2⟩:=Qew hz h7;simp only[Bool.and_eq_true,Qit,decide_eq_true_eq]at g1;rw[fN_eq]at g2;exact newRow0 none g2 g1.1 (Nat.le_of_ble_eq_true g1.2) λρ w v hv=>⟨none,hv⟩
 ·obtain⟨g1,g2⟩:=Qew hz h7;simp only[Bool.and_eq_true,Qit,decide_eq_true_eq]at g1;rw[fN_eq]at g2;exact newRow0 none g2 g1.1 (Nat.le_of_ble_eq_true g1.2) λρ w v ⟨a,hv⟩=>⟨some a,hv⟩
 ·rename_i id off len cap s;obtain⟨g1,g2⟩:=Qew hz h7;simp only[Bool.and_eq_true,Qhe,Bool.not_eq_true',decide_eq_false_iff_not]at g1;obtain⟨⟨⟨⟨c1,c2⟩,c3⟩,c4⟩,c5⟩:=g1;have hs1:=Qgv c1;subst hs1;have hil:=Nat.le_of_ble_eq_true c3;have hlm:len+m<=17592186044416:=Nat.le_of_ble_eq_true c5;have hne:id≠vid:=Nat.ne_of_beq_eq_false c4;obtain⟨known,hl,hkm,g3⟩:=Qh4 hz g2;obtain⟨g4,g5⟩:=Qew hz g3;simp only[Bool.and_eq_true]at g4;have hkl:known.length=off+len:=Qgv g4.1;rw[Qjx,Qjs,fN_eq,fN_eq]at g5;have hiz:i=(i.toNat:Int):=by omega
  generalize i.toNat=i0 at*
  subst hiz;refine⟨_,_,_,g5,hb,Nat.le_succ _,λρ w xs hr hxs hf=>?_⟩;obtain⟨x1,x2,x3,rfl⟩:∃x1 x2 x3,xs=[x1,x2,x3]:=by
   match xs,hxs with
   |[a,b,c],_=>exact⟨a,b,c,rfl⟩
   |[],h=>exact h.elim
   |[_],h=>exact h.2.elim
   |[_,_],h=>exact h.2.2.elim
   |_::_::_::_::_,h=>exact h.2.2.2.elim
  obtain⟨hx1,hx2,hx3,_⟩:=hxs;have hx2':x2=.int .i64 (i0:Int):=hx2;subst hx2';obtain⟨q,c,CV,tyV,frq,news,hq,rfl,⟨hCV,hCVf⟩,hnl,hnv,hnc⟩:=V ρ w x3 hr hx3;obtain⟨p,cc,hp,rfl,q1,q2,q3,q4⟩:=hx1;have hn:=hf n (Nat.le_refl _) (Nat.lt_succ_self _);have hOwn:=(hr.rm id known hl).plain hkm;have hOwn2:=hOwn;obtain⟨p',C,ty,fr,e1,hC,hCf,_,_⟩:=hOwn2;rw[hp]at e1;cases e1;obtain⟨old,o1,o2,o3,_⟩:=hOwn.r.read (P:=P) hp (off:=off) (n:=len) (by omega);have hkd:(known.drop off).take len=known.drop off:=List.take_of_length_le (by simp;omega);rw[hkd]at o2;have hbs:bsize w p.1=C.size:=by unfold bsize;rw[hC]
  rw[hbs]at q3;have hpq:q.1≠p.1:=λe=>hne (hr.dj id vid p q (by simp[hl]) hfzV hp hq e.symm);have hkn:∀v∈old,v.oneCell'=true:=Qgq o2 (by have:=Qqj g4.2 off len;rwa [hkd]at this);have hnn:=Qgq hnv hks;have hall:All2 (VR val ρ w) ((known.drop off).take i0++src++(known.drop off).drop i0) (old.take i0++news++old.drop i0):=((o2.take i0).append hnv).append (o2.drop i0);have hcl:((known.drop off).take i0++src++(known.drop off).drop i0).length=len+m:=by simp;omega
  -- a world in which the block,or a new one,holds the new row
  have place:∀(w':World) (D:Array Value),w'.heap[p.1]?=some (.cells D ty fr)->D.size=C.size->(∀b,b≠p.1->w'.heap[b]?=w.heap[b]?)->w'.os=w.os->w'.tape=w.tape->w'.output=w.output->w'.heap.size=w.heap.size->
   (∀j,j<len+m->D[p.2+off+j]?=(old.take i0++news++old.drop i0)[j]?)->len+m<=cc->
   Post val ρ fz mu n w (.one (.osl n 0 (Nat.add len m) (Nat.add len m) 1)) ((n,(known.drop off).take i0++src++(known.drop off).drop i0)::killS mu id) (n+1) (.slice (some ⟨p.1,p.2+off,none⟩) (len+m) cc) w':=by
   intro w' D hD hDs hoth ho ht hou hhs hDv hroom;obtain⟨b1,b2,b3,b4,b5,b6⟩:=Qnh (n:=n) (off:=off) hr hCf hl hn hp hC hD hDs hoth ho ht hou hhs (cs:=(known.drop off).take i0++src++(known.drop off).drop i0) (by rw[hcl,hDs];omega) (λj s hj=>by
    obtain⟨v,ev',rv⟩:=hall.get hj;have hlt:=(List.getElem?_eq_some_iff.1 hj).1;rw[hcl]at hlt;exact⟨v,by rw[hDv j hlt];exact ev',rv⟩)
   refine⟨_,b1,b2,⟨(p.1,p.2+off),cc,upd_same _ _ _,rfl,Nat.le_refl _,hroom,?_,q4⟩,b3,b4,b5⟩;rw[b6,hbs];simpa using q3
  have fresh:∀(w':World) (D:Array Value) (G:Nat),w'.heap=w.heap.push (.cells D (ren.t 3) (0,0))->w'.os=w.os->w'.tape=w.tape->w'.output=w.output->D.size=G->len+m<=G->G<=9223372036854775807->
   (∀j,j<len+m->D[j]?=(old.take i0++news++old.drop i0)[j]?)->
   Post val ρ fz mu n w (.one (.osl n 0 (Nat.add len m) (Nat.add len m) 1)) ((n,(known.drop off).take i0++src++(known.drop off).drop i0)::killS mu id) (n+1) (.slice (some ⟨w.heap.size,0,none⟩) (len+m) G) w':=by
   intro w' D G hh ho ht hou hDs hG hG2 hDv;have hkmono:∀a,(look (killS mu id) a).isSome->(look mu a).isSome:=λa ha=>by
    rw[Qfe]at ha;split at ha
    ·cases ha
    ·exact ha
   obtain⟨b1,b2,b3,b4,b5,b6⟩:=Qhd (ty:=ren.t 3) (Like.refl w) (hr.kill id) hn (cs:=(known.drop off).take i0++src++(known.drop off).drop i0) (C:=D) (by rw[hcl,hDs];exact hG)
    (λj s' hj=>by
     obtain⟨v,ev',rv⟩:=hall.get hj;have hlt:=(List.getElem?_eq_some_iff.1 hj).1;rw[hcl]at hlt;exact⟨v,by rw[hDv j hlt];exact ev',rv⟩)
   have hlike:Like (w.alloc (.cells D (ren.t 3))) w':=⟨hh,ho,ht,hou⟩
   refine⟨_,b1,b2.like hlike,⟨(w.heap.size,0),G,upd_same _ _ _,rfl,Nat.le_refl _,hG,?_,hG2⟩,(b3.trans NewB.refl hlike.fr).wider hkmono,b4.wider hkmono,b5.wider hkmono⟩;rw[hlike.bsize,b6,hDs];simp
  have hold:∀j,j<len->old[j]?=C[p.2+off+j]?:=λj hj=>by
   have h1:old[j]?=some old[j]:=List.getElem?_eq_getElem (by omega);have:=o3 j _ h1;rw[Qo8 hC]at this;rw[h1,this]
  have hsp:∀j,j<cc->(w.cell? ⟨p.1,p.2+off+j,none⟩).isSome=true:=λj hj=>by
   rw[Qo8 hC,Array.getElem?_eq_getElem (by omega)];rfl
  by_cases hi:i0<len
  ·by_cases hroom:len+m<=cc
   ·have:=Any2.slices_Insert_int_shift L p.1 (p.2+off) len cc i0 q.1 (q.2+voff) m c old news w hi hm hroom q4 hpq o1 hnl o3 (λj hj=>hsp j (by omega)) (λj _=>Qhn hs2b hCf hC _) hnc hkn hnn tyV ty CV.size C.size (Ql6 hCV) (Ql6 hC) (by omega) (Qhn hs2b hCVf hCV _) (Qhn hs2b hCVf hCV _);refine Qil this λe w' ⟨he,hw⟩=>⟨_,he,?_⟩
    subst hw;obtain⟨D1,d1,d2,d3⟩:=Qfi (old.drop i0) (p.2+off+(i0+m)) w.drew C hC (by simp;omega);obtain⟨D2,f1,f2,f3⟩:=Qfi news (p.2+off+i0) _ D1 d1 (by omega);obtain⟨r1,r2,r3,r4⟩:=Qfh (b:=p.1) (old.drop i0) (p.2+off+(i0+m)) w.drew;obtain⟨s1,s2,s3,s4⟩:=Qfh (b:=p.1) news (p.2+off+i0) (w.drew.setCells p.1 (p.2+off+(i0+m)) (old.drop i0));refine place _ D2 f1 (f2.trans d2) (λb hb=>by rw[Qfb hb,Qfb hb];rfl) (s1.trans r1) (s2.trans r2) (s3.trans r3) (s4.trans r4) (λj hj=>?_) hroom;rw[f3,d3];by_cases a1:j<i0
    ·rw[if_neg (by omega),if_neg (by omega),<-hold j (by omega),List.append_assoc,List.getElem?_append_left (by simp;omega),List.getElem?_take_of_lt a1]
    ·by_cases a2:j<i0+m
     ·rw[if_pos (by omega),List.append_assoc,List.getElem?_append_right (by simp;omega),List.getElem?_append_left (by simp;omega)];congr 1;simp;omega
     ·rw[if_neg (by omega),if_pos (by simp;omega),List.getElem?_append_right (by simp;omega)];congr 1;simp;omega
   ·have:=Any2.slices_Insert_int_grow L p.1 (p.2+off) len cc i0 q.1 (q.2+voff) m c old news w hi hm (by omega) (by omega) (by omega) o1 hnl o3 hnc hkn hnn;refine Qil this λe w' ⟨he,hw⟩=>⟨_,he,?_⟩
    subst hw;have hge:=grownCap_ge w (len+m) cc (ren.t 3);have hle:=grownCap_le_maxLen w (len+m) cc (ren.t 3) (by unfold maxLen;omega);unfold maxLen at hle;generalize grownCap w (len+m) cc (ren.t 3)=G at*
    generalize hROW:(old.take i0).toArray++Builtin.zeroCells (Value.int .i64 0).cells (len+m-i0)++Builtin.zeroCells (Value.int .i64 0).cells (G-(len+m))=ROW;have hRs:ROW.size=G:=by rw[<-hROW];simp[Builtin.zeroCells,Value.cells];omega
    have hRg:∀j,j<i0->ROW[j]?=old[j]?:=λj hj=>by
     rw[<-hROW,Array.append_assoc,Array.getElem?_append_left (by simp;omega)];simp[List.getElem?_take_of_lt hj]
    have hA:(w.alloc (.cells ROW (ren.t 3))).drew.heap[w.heap.size]?=some (.cells ROW (ren.t 3) (0,0)):=Qkl (.cells ROW (ren.t 3));obtain⟨D1,d1,d2,d3⟩:=Qfi news i0 _ ROW hA (by omega);obtain⟨D2,f1,f2,f3⟩:=Qfi (old.drop i0) (i0+m) ((w.alloc (.cells ROW (ren.t 3))).drew.setCells w.heap.size i0 news).drew D1 d1 (by simp;omega);obtain⟨r1,r2,r3,r4⟩:=Qfh (b:=w.heap.size) news i0 (w.alloc (.cells ROW (ren.t 3))).drew;obtain⟨s1,s2,s3,s4⟩:=Qfh (b:=w.heap.size) (old.drop i0) (i0+m) ((w.alloc (.cells ROW (ren.t 3))).drew.setCells w.heap.size i0 news).drew;refine fresh _ D2 G ?_ (s1.trans r1) (s2.trans r2) (s3.trans r3) (by rw[f2,d2,hRs]) hge hle (λj hj=>?_)
    ·refine Array.ext_getElem? λb=>?_;by_cases e:b=w.heap.size
     ·subst e;rw[f1];simp
     ·rw[Qfb e];show((w.alloc (.cells ROW (ren.t 3))).drew.setCells w.heap.size i0 news).heap[b]?=_;rw[Qfb e];show(w.heap.push (.cells ROW (ren.t 3)))[b]?=_;rw[Array.getElem?_push,Array.getElem?_push];simp[e]
    ·rw[f3,d3];by_cases a1:j<i0
     ·rw[if_neg (by omega),if_neg (by omega),hRg j a1,List.append_assoc,List.getElem?_append_left (by simp;omega),List.getElem?_take_of_lt a1]
     ·by_cases a2:j<i0+m
      ·rw[if_neg (by omega),if_pos (by omega),List.append_assoc,List.getElem?_append_right (by simp;omega),List.getElem?_append_left (by simp;omega)];congr 1;simp;omega
      ·rw[if_pos (by simp;omega),List.getElem?_append_right (by simp;omega)];congr 1;simp;omega
  ·have hie:i0=len:=by omega
   subst hie;have htk:old.take i0=old:=List.take_of_length_le (by omega);have hdr:old.drop i0=[]:=List.drop_eq_nil_of_le (by omega);by_cases hroom:i0+m<=cc
   ·have:=Any2.slices_Insert_int_end_room L p.1 (p.2+off) i0 cc q.1 (q.2+voff) m c news w hm hroom q4 hnl (λj hj=>by rw[Nat.add_assoc];exact hsp _ (by omega)) (λj _=>Qhn hs2b hCf hC _) hnc hnn;refine Qil this λe w' ⟨he,hw⟩=>⟨_,he,?_⟩
    subst hw;obtain⟨D1,d1,d2,d3⟩:=Qfi news (p.2+off+i0) w C hC (by omega);obtain⟨r1,r2,r3,r4⟩:=Qfh (b:=p.1) news (p.2+off+i0) w;refine place _ D1 d1 d2 (λb hb=>Qfb hb _ _ _) r1 r2 r3 r4 (λj hj=>?_) hroom;rw[d3,htk,hdr,List.append_nil];by_cases a1:j<i0
    ·rw[if_neg (by omega),<-hold j a1,List.getElem?_append_left (by omega)]
    ·rw[if_pos (by omega),List.getElem?_append_right (by omega)];congr 1;omega
   ·have:=Any2.slices_Insert_int_end_grow L (some ⟨p.1,p.2+off,none⟩) i0 cc q.1 (q.2+voff) m c old news w hm (by omega) (by omega) (by omega) o1 hnl (λh=>by cases h) (λa ha j v hj=>by cases ha;rw[addr_add];exact o3 j v hj) hnc hnn;refine Qil this λe w' ⟨he,hw⟩=>⟨_,he,?_⟩
    subst hw;have hge:=grownCap_ge w (i0+m) cc (ren.t 3);have hle:=grownCap_le_maxLen w (i0+m) cc (ren.t 3) (by unfold maxLen;omega);unfold maxLen at hle;generalize grownCap w (i0+m) cc (ren.t 3)=G at*
    refine fresh _ _ G rfl rfl rfl rfl (by simp[Builtin.zeroCells,Value.cells];omega) hge hle (λj hj=>?_);rw[htk,hdr,List.append_nil,Array.getElem?_append_left (by simp;omega)];simp
 ·exact(hz h7).elim
end
end Go.Ev
namespace Go.Proofs.YtnnjlnkoomeadaaGreat.Pv
open Go.Ev Go.Ev.Rp
theorem Qqs {mu:St} {id:Nat} {cs:List SV} {k:List SV->Prop} (h:Ev.look mu id=some cs) (hm:mkd cs=false):Qh7 mu id False k=k cs:=by
 unfold Qh7;rw[h];show Qms False k cs=_;unfold Qms;rw[hm];rfl
theorem Quf (l:List Int):(l.map intC).flatten=l.map (SV.int .i64):=by
 induction l with
 |nil=>rfl
 |cons a l ih=>rw[List.map_cons,List.flatten_cons,ih];rfl
theorem ins_at {x:SV} {l:List Int} {t:Int} {i vid n:Nat} {fz:Fz} {mu:St} {k:AV->St->Nat->Prop} (hx:SlX (with' mu fz) 1 x (l.map intC)) (hfz:∀id,blk x=some id->fz id=none) (hi:i<=l.length)
 (hv:Ev.look mu vid=some [.int .i64 t]) (hne:blk x≠some vid) (hb:l.length+1<=17592186044416)
 (h:∀mu',(∀j,j≠n->blk x≠some j->Ev.look mu' j=Ev.look mu j)->(∀j,j≠n->blk x=some j->Ev.look mu' j=none)->Ev.look mu' n=some ((l.take i++t::l.drop i).map (SV.int .i64))->k (.one (.osl n 0 (l.length+1) (l.length+1) 1)) mu' (n+1)):
 insK False [.one x,.one (.int .i64 (i:Nat)),.one (.osl vid 0 1 1 1)] fz mu n k:=by
 show cond (Nat.blt 0 1&&Nat.beq 1 1) (Qh7 mu vid False λvc=>subK vc 0 1 False λsrc=>cond (Qeq src) (insAt False src 1 vid x (i:Nat) mu n k) False) False;show Qh7 mu vid False λvc=>subK vc 0 1 False λsrc=>cond (Qeq src) (insAt False src 1 vid x (i:Nat) mu n k) False;rw[Qqs hv rfl,Qnr];refine⟨by simp,?_⟩;show insAt False [.int .i64 t] 1 vid x (i:Nat) mu n k;rcases hx with⟨hn,hl⟩|⟨id,rfl,h2,h3,h4⟩
 ·have hl:l=[]:=by simpa using hl
  subst hl;have hi0:i=0:=by simpa using hi
  subst hi0;have key:k (.one (.osl n 0 1 1 1)) ((n,[.int .i64 t])::mu) (n+1):=by
   refine h ((n,[.int .i64 t])::mu) (λj hj _=>?_) (λj hj hbj=>?_) ?_
   ·rw[Qey,if_neg (λe=>hj e.symm)]
   ·rcases hn with rfl|rfl<;>cases hbj
   ·rw[Qey,if_pos rfl];rfl
  rcases hn with rfl|rfl
  ·show fN (Nat.succ n) λn'=>k (.one (.osl n 0 1 1 1)) ((n,[.int .i64 t])::mu) n';rw[fN_eq];exact key
  ·show fN (Nat.succ n) λn'=>k (.one (.osl n 0 1 1 1)) ((n,[.int .i64 t])::mu) n';rw[fN_eq];exact key
 ·have hid:=hfz id rfl;rw[Quf]at h2 h3;rw[Qfp hid]at h2;have hne':Nat.beq id vid=false:=by
   cases e:Nat.beq id vid with
   |false=>rfl
   |true=>exact(hne (by rw[Nat.eq_of_beq_eq_true e];rfl)).elim
  have e1:ltI (i:Nat) 0=false:=show Nat.blt i 0=false from rfl;have e2:Nat.ble ((i:Nat):Int).toNat (l.map intC).length=true:=by rw[Nat.ble_eq];simpa using hi
  have e3:Nat.ble (Nat.add (l.map intC).length 1) 17592186044416=true:=by rw[Nat.ble_eq];simpa using hb
  have e4:Qeq (l.map (SV.int .i64))=true:=by rw[Qif];intro s hs;obtain⟨a,_,rfl⟩:=List.mem_map.1 hs;rfl
  show cond (Nat.beq 1 1&&not (ltI (i:Nat) 0)&&Nat.ble ((i:Nat):Int).toNat (l.map intC).length&&not (Nat.beq id vid)&&Nat.ble (Nat.add (l.map intC).length 1) 17592186044416)
   (Qh7 mu id False λknown=>cond (Nat.beq known.length (Nat.add 0 (l.map intC).length)&&Qeq known)
    (copyK ((known.drop 0).take ((i:Nat):Int).toNat++[.int .i64 t]++(known.drop 0).drop ((i:Nat):Int).toNat) λcs=>killK mu id λmu=>fN (Nat.add (l.map intC).length 1) λl=>fN (Nat.succ n) λn'=>k (.one (.osl n 0 l l 1)) ((n,cs)::mu) n') False) False
  rw[e1,e2,e3,hne'];show Qh7 mu id False λknown=>cond (Nat.beq known.length (Nat.add 0 (l.map intC).length)&&Qeq known)
   (copyK ((known.drop 0).take ((i:Nat):Int).toNat++[.int .i64 t]++(known.drop 0).drop ((i:Nat):Int).toNat) λcs=>killK mu id λmu=>fN (Nat.add (l.map intC).length 1) λl=>fN (Nat.succ n) λn'=>k (.one (.osl n 0 l l 1)) ((n,cs)::mu) n') False
  rw[Qqs h2 h3];have e5:Nat.beq (l.map (SV.int .i64)).length (Nat.add 0 (l.map intC).length)=true:=by
   have:(l.map (SV.int .i64)).length=Nat.add 0 (l.map intC).length:=by show _=0+_;simp
   rw[this];exact Nat.beq_refl _
  rw[e5,e4];show copyK _ _;rw[Qjx,Qjs,fN_eq,fN_eq];have e6:Nat.add (l.map intC).length 1=l.length+1:=by show _+1=_;simp
  rw[e6];refine h _ (λj hj hbj=>?_) (λj hj hbj=>?_) ?_
  ·rw[Qey,if_neg (λe=>hj e.symm),Qfe,if_neg (λe=>hbj (by rw[<-e];rfl))]
  ·cases hbj;rw[Qey,if_neg (λe=>hj e.symm),Qfe,if_pos rfl]
  ·rw[Qey,if_pos rfl];simp
set_option maxRecDepth 100000
set_option maxHeartbeats 4000000
def gotB (r:Rep) (x:Rd) (m:Msg):Bool:=decide (m.kind=13)&&repB r&&msgB m&&leadB r&&decide (m.to=r.me)&&!decide (m.frm=r.me)&&decide (m.frm<r.nodes)&&decide (m.view=r.view)&&decide (m.round=x.round)
def got (r:Rep) (x:Rd) (m:Msg):Rd:=if gotB r x m then{x with agreed:=putL x.agreed m.frm}else x
def InsC (P:Program):Prop:=∀(args:List AV) (fz:Fz) (mu:St) (n:Nat) (k:AV->St->Nat->Prop),insK False args fz mu n k->CP P n_Qas args fz mu n k
theorem put_no {l:List Int} {t:Int} {i:Nat} (hr:l.Pairwise (· <·)) (h:At l t i false):putL l t=l.take i++t::l.drop i:=by
 rw[put_at hr h.le h.lt h.ge];have:=h.is;by_cases hi:i<l.length
 ·rw[dif_pos hi,if_neg];intro he;have:decide (∃h:i<l.length,l[i]=t)=true:=decide_eq_true ⟨hi,he⟩;rw[<-h.is]at this;cases this
 ·rw[dif_neg hi,List.take_of_length_le (by omega),List.drop_eq_nil_of_le (by omega)]
theorem put_yes {l:List Int} {t:Int} {i:Nat} (hr:l.Pairwise (· <·)) (h:At l t i true):putL l t=l:=by
 rw[put_at hr h.le h.lt h.ge];obtain⟨h1,h2⟩:=of_decide_eq_true h.is.symm;rw[dif_pos h1,if_pos h2]
section
variable {P:Program} (H:Fs P)
include H
end
def bitsOf (k:Int):Int:=
 if k=0 then 4288 else if k=1 then 452 else if k=2 then 3716 else if k=3 then 404 else if k=4 then 4333 else if k=5\/k=10 then 5 else if k=6 then 13 else if k=7 then 1 else if k=8 then 8203 else
 if k=9\/k=11 then 8201 else if k=12\/k=13 then 17 else if k=14\/k=15 then 4 else if k=16 then 16388 else 0
def andI (a b:Int):Int:=IntKind.i64.wrap (BitVec.ofInt IntKind.i64.bits a&&&BitVec.ofInt IntKind.i64.bits b).toNat
theorem b_andI {a b:Int} {k:SV->Prop}:binI .and .i64 a b False k=k (.int .i64 (andI a b)):=b_and
theorem Qe9 (k:Int) (hk:0<=k/\k<17) (f:Nat) (hf:f<15):decide (0<andI (bitsOf k) (2^f:Nat))=hasF k f/\decide (andI (bitsOf k) (2^f:Nat)=0)=!hasF k f:=by
 have key:((List.range 17).all λk=>(List.range 15).all λf=>(decide (0<andI (bitsOf (k:Int)) (2^f:Nat))==hasF k f)&&(decide (andI (bitsOf k) (2^f:Nat)=0)==!hasF k f))=true:=by decide+kernel
 have h1:=List.all_eq_true.1 key k.toNat (by simp;omega);have h2:=List.all_eq_true.1 h1 f (by simpa using hf);rw[show((k.toNat:Nat):Int)=k by omega]at h2;simp only[Bool.and_eq_true,beq_iff_eq]at h2;exact h2
def Qhb (b:Bool) (x:Int):Bool:=if b then countB x else decide (x=0)
def Qn6 (l:Lg):Bool:=decide (l.base=0)&&decide (l.snap.l=0)&&decide (l.ents.length=0)
def Qle (m:Msg):Bool:=
 if m.kind=2 then Qi4 m.at'&&Qi4 m.until' else if m.kind=3 then Qi4 m.at'&&decide (m.until'=0)else if m.kind=1 then decide (-1<=m.at')&&decide (m.at'<=2147483647)&&decide (m.until'=0)else Qhb (hasF m.kind 2) m.at'&&decide (m.until'=0)
section
variable {P:Program} (H:Fs P)
include H
theorem ref4_clean (b:Bool) (x:Int):BoolC P n_Qd8 [.one (.bool b),.one (I x)] (λ_=>True) (Qhb b x):=boolC H.mx H.Qd8 0 λfz mu n k hfr gg _ h=>by
 rw[dY a_Qd8.eq_1 b_Qd8.eq_1];have hA:True:=trivial;have hle:=Nat.le_refl n;cases b;all_goals simp only[↓E1,E2,seval]
 all_goals try (refine leafB h gg ?_;simp[Qhb];done)
 repeat' (first|((with_reducible refine Qeo (λhb=>?_) (λhb=>?_))<;>(replace hA:=And.intro hA hb;clear hb;simp only[↓E1,E2,seval, *]))|((with_reducible refine CPr_f (f:=n_Qd4) ?_);((first|(refine(ref1_Count H _).d2 hfr (by first|trivial|assumption) ?_;rintro v mu2 n2 g2 rfl)|(refine(ref1_Count H _).d3 hfr (λhm=>by first|trivial) ?_;rintro v mu2 n2 g2 b1 rfl)|(refine(ref1_Count H _).c1 hfr (by first|trivial|assumption) ?_;rintro v mu2 n2 g2 rfl)|(refine(ref1_Count H _).c2 hfr (λhm=>by first|trivial) ?_;rintro v mu2 n2 g2 b1 rfl)|(refine(ref1_Count H _).c3 hfr (λhm=>by first|trivial) ?_;rintro v mu2 n2 g2 b1 b2 rfl));replace gg:=gg.trans (g2.weaken hle);replace hle:=Nat.le_trans hle g2.le;replace hfr:=g2.free;clear g2;simp only[↓E1,E2,seval, *])))
 all_goals try (refine leafB h gg ?_;simp_all [Qhb];done)
theorem ref4_empty (l:Lg) (x:SV):BoolC P n_Qd9 [.ag (lgC l x)] (λM=>EntsR M x l.ents) (Qn6 l):=boolC H.mx H.Qd9 0 λfz mu n k hfr gg s1 h=>by
 obtain⟨xl,xs,xk,xm⟩:=s1.len;rw[dY a_Qd9.eq_1 b_Qd9.eq_1];unfold lgC;have hA:True:=trivial;have hle:=Nat.le_refl n;simp only[↓E1,E2,seval,xl,xs,xk,xm,Qe7];repeat' (first|((with_reducible refine Qeo (λhb=>?_) (λhb=>?_))<;>(replace hA:=And.intro hA hb;clear hb;simp only[↓E1,E2,seval, *,Qe7])))
 all_goals try (refine leafB h (by first|exact gg|exact gg.cons hle _|exact(gg.cons hle _).cons (Nat.le_succ_of_le hle) _) ?_;(clear h gg hle hfr);(try clear loop);(try clear loop0);(try clear loop1);(try clear s1);(try clear s2);(try clear s3);(try clear s4);(try clear b1);(try clear b2);clear xl xs xk xm;first|(simp_all [Qn6,-List.length_eq_zero_iff];done)|(simp_all [Qn6,-List.length_eq_zero_iff];omega))
theorem ref4_fields (k0:Int):Ctr P n_Qdx [.one (I k0)] (λ_=>True) (λ_ _ _ v=>v=.one (I (bitsOf k0))):=Ctr.of H.mx H.Qdx (λ_=>0) λfz mu n k hfr _ h=>by
 rw[dY a_Qdx.eq_1 b_Qdx.eq_1];have gg:=Gr.refl (lo:=n) hfr;have hA:True:=trivial;have hle:=Nat.le_refl n;simp only[↓E1,E2,seval];repeat' (first|((with_reducible refine Qeo (λhb=>?_) (λhb=>?_))<;>(replace hA:=And.intro hA hb;clear hb;simp only[↓E1,E2,seval, *])))
 all_goals (refine h _ _ _ gg ?_;clear h;simp_all [bitsOf])
theorem ref4_places (m:Msg) (xb xe:SV) (hk:0<=m.kind/\m.kind<17):BoolC P n_Qdz [.ag (msgC m xb xe),.one (I (bitsOf m.kind))] (λM=>MsgS M m xb xe) (Qle m):=boolC H.mx H.Qdz 0 λfz mu n k hfr gg s1 h=>by
 obtain⟨-,-,xk,xm⟩:=s1.1.len;obtain⟨-,-,yk,ym⟩:=s1.2.len;have q2:decide (0<andI (bitsOf m.kind) 4)=hasF m.kind 2:=(Qe9 m.kind hk 2 (by decide)).1;rw[dY a_Qdz.eq_1 b_Qdz.eq_1];unfold msgC;have hA:True:=trivial;have hle:=Nat.le_refl n;simp only[↓E1,E2,seval, *,↓b_andI];repeat' (first|((with_reducible refine Qeo (λhb=>?_) (λhb=>?_))<;>(replace hA:=And.intro hA hb;clear hb;simp only[↓E1,E2,seval, *,↓b_andI]))|((with_reducible refine CPr_f (f:=n_Qea) ?_);((first|(refine(ref1_Small H _).d2 hfr (by first|trivial|assumption) ?_;rintro v mu2 n2 g2 rfl)|(refine(ref1_Small H _).d3 hfr (λhm=>by first|trivial) ?_;rintro v mu2 n2 g2 b1 rfl)|(refine(ref1_Small H _).c1 hfr (by first|trivial|assumption) ?_;rintro v mu2 n2 g2 rfl)|(refine(ref1_Small H _).c2 hfr (λhm=>by first|trivial) ?_;rintro v mu2 n2 g2 b1 rfl)|(refine(ref1_Small H _).c3 hfr (λhm=>by first|trivial) ?_;rintro v mu2 n2 g2 b1 b2 rfl));(try replace b1:=g2.old hfr b1);replace gg:=gg.trans (g2.weaken hle);replace hle:=Nat.le_trans hle g2.le;replace hfr:=g2.free;clear g2;simp only[↓E1,E2,seval, *,↓b_andI]))|((with_reducible refine CPr_f (f:=n_Qd8) ?_);((first|(refine(ref4_clean H _ _).d2 hfr (by first|trivial|assumption) ?_;rintro v mu2 n2 g2 rfl)|(refine(ref4_clean H _ _).d3 hfr (λhm=>by first|trivial) ?_;rintro v mu2 n2 g2 b1 rfl)|(refine(ref4_clean H _ _).c1 hfr (by first|trivial|assumption) ?_;rintro v mu2 n2 g2 rfl)|(refine(ref4_clean H _ _).c2 hfr (λhm=>by first|trivial) ?_;rintro v mu2 n2 g2 b1 rfl)|(refine(ref4_clean H _ _).c3 hfr (λhm=>by first|trivial) ?_;rintro v mu2 n2 g2 b1 b2 rfl));(try replace b1:=g2.old hfr b1);replace gg:=gg.trans (g2.weaken hle);replace hle:=Nat.le_trans hle g2.le;replace hfr:=g2.free;clear g2;simp only[↓E1,E2,seval, *,↓b_andI])))
 all_goals try (refine leafB h (by first|exact gg|exact gg.cons hle _|exact(gg.cons hle _).cons (Nat.le_succ_of_le hle) _) ?_;(clear h gg hle hfr);(try clear loop);(try clear loop0);(try clear loop1);(try clear s1);(try clear s2);(try clear s3);(try clear s4);(try clear b1);(try clear b2);clear xk xm yk ym q2 hk;first|(simp_all [Qle];done)|(simp_all [Qle];omega))
end
end Go.Proofs.YtnnjlnkoomeadaaGreat.Pv
