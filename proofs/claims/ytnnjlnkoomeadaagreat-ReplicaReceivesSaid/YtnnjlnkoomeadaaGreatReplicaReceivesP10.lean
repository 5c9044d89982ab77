/-
  ReplicaReceives: part 10 of what the proof is made of.
-/
import Derived.Test.YtnnjlnkoomeadaaGreatReplicaReceivesP9
import Derived.Lib.AppendZerosOnto
set_option linter.unusedVariables false
set_option linter.unusedSimpArgs false
set_option linter.unusedSectionVars false
noncomputable section
namespace Go.Proofs.YtnnjlnkoomeadaaGreat.Pv
open Go.Ev Go.Ev.Rp
set_option maxRecDepth 100000
set_option maxHeartbeats 4000000
def ps_t3:ACode:=match b_Qbw with|.seq _ (.seq _ (.seq _ (.seq _ c)))=>c|c=>c
def ps_t1:ACode:=match b_Qbw with|.seq _ (.seq _ (.seq c (.seq d _)))=>.seq c (.seq d ps_t3)|c=>c
def ps_h (t:ACode):ACode:=match b_Qbw with|.seq a (.seq b _)=>.seq a (.seq b t)|c=>c
theorem ps_eq:b_Qbw=ps_h ps_t1:=rfl
section
variable {P:Program} (H:Fs P)
include H
theorem start_3 {lo:Nat} {fz:Fz} {s:Nat} {o:Nat->Nat} {mu:St} {n:Nat} {r:Rep} {out:List Msg} {xe xa xs xd xo:SV} (S:SW lo fz s o mu n r out false xe xa xs xd xo) {N:Nat} (hN:r.nodes=(N:Int)) (hN7:N<=7) (h1N:1<=N) (hz:RepSz r) (hok1:Ok r.log) (hok2:∀d∈r.dos,Ok d.log) (hl:out.length<=850) {e:Nat->Nat->AV} (e0:e 0 0=.one (.optr s 0)) {k:KT Prop}
 (hk:∀mu' n' o' xe' xa' xs' xd' xo',SW lo fz s o' mu' n' (sentR r N).1 (out++(sentR r N).2.1) (sentR r N).2.2 xe' xa' xs' xd' xo'->Kp (· =7) s o o' mu n mu' n'->k noVal mu' n'):dcode pOrc False (CP P) fz 0 ps_t3 (tmE 71 e) mu n (endP fz [] k):=by
 have hsn:s<n:=S.slt;have ws:=Qem (fz:=fz) S.cells;have hF:=play_f H s r xe xa xs xd xo false hN hN7 h1N;obtain⟨⟨xek,xem⟩,⟨xak,xam⟩,⟨xsk,xsm⟩,⟨xdk,xdm⟩,xok,xom⟩:=S.ks;obtain⟨xsl,xss,-,-⟩:=S.rs.2.2.1.len;have ws':=ws;unfold stepC repC at ws;have hkH:=Hide.mk hk;have hNH:=Hide.mk hN;clear hk hN;unfold ps_t3 b_Qbw;refine dW ?_;rcases Qlg r N with⟨h1,hR⟩|⟨h1,h2,hR⟩|⟨h1,h2,h3,hR⟩|⟨h1,h2,h3,hR⟩
 ·have hk:=hkH.out;rw[hR]at hk;simp only[List.append_nil]at hk;have hk2:=λn' hn=>hk _ n' _ _ _ _ _ _ (S.le hn) (Kp.refl.le2 hn);clear hk hR;simp only[↓E1,E4,seval, *];refine hF.q1 S.free ws' ?_;rintro v n2 l2 rfl;try simp only[↓E1,E4,seval, *]
  all_goals exact hk2 _ l2
 ·have hk:=hkH.out;rw[hR]at hk;simp only[List.append_nil]at hk;have hk2:=λn' hn=>hk _ n' _ _ _ _ _ _ (S.le hn) (Kp.refl.le2 hn);clear hk hR;simp only[↓E1,E4,seval, *];refine hF.q1 S.free ws' ?_;rintro v n2 l2 rfl;try simp only[↓E1,E4,seval, *]
  all_goals exact hk2 _ l2
 ·have hRH:=Hide.mk hR;clear hR;have hs:=S.cells;unfold stepC repC at hs;unfold Qgj at h3;simp only[↓E1,E4,seval, *];refine hF.q1 S.free ws' ?_;rintro v n2 l2 rfl;have S2:=(S.le l2).put (r':={r with sent:=true}) (vd':=false) rfl rfl rfl rfl;have K2:Kp (· =7) s o o mu n _ n2:=(S.kput (c:=stepC {r with sent:=true} xe xa xs xd xo false)).le2 l2;have hcell:stepC {r with sent:=true} xe xa xs xd xo false=[I r.me,I r.nodes,I r.view,I r.normal,I r.status,I r.commit,.bool true,I r.log.base,r.log.snap.sv,xe,xa,xs,xd,xo,.bool false]:=rfl;rw[hcell]at S2 K2;clear hcell;have hPm:=Qfq H s {r with sent:=true} xe xa xs xd xo false r.view;try simp only[↓E1,E4,seval, *]
  have ws2:=Qem (fz:=fz) S2.cells;unfold stepC repC at ws2;obtain⟨m3,hm3⟩:∃m,putS mu s [I r.me,I r.nodes,I r.view,I r.normal,I r.status,I r.commit,.bool true,I r.log.base,r.log.snap.sv,xe,xa,xs,xd,xo,.bool false]=m:=⟨_,rfl⟩
  rw[hm3]at S2 K2 ws2;try rw[hm3]
  refine hPm.q1 S2.free (Qem S2.cells) ?_;rintro v n3 l3 rfl;have S3:=S2.le l3;have K3:=K2.le2 l3;clear ws ws' hs hF;try simp only[↓E1,E4,seval, *]
  refine Qj9 H S3 hNH.out hN7 h1N ⟨hz.log,hz.acks,hz.starts,hz.dos,hz.dlog⟩ hok1 hok2 (by omega) λm4 n4 o4 xe4 xa4 xs4 xd4 xo4 S4 K4=>?_;have hk:=hkH.out;rw[hRH.out]at hk;have hk2:=hk _ _ _ _ _ _ _ _ S4 (K3.trans K4);clear hk;try simp only[↓E1,E4,seval, *]
  all_goals exact hk2
 ·have hRH:=Hide.mk hR;clear hR;have hs:=S.cells;unfold stepC repC at hs;unfold Qgj at h3;simp only[↓E1,E4,seval, *];refine hF.q1 S.free ws' ?_;rintro v n2 l2 rfl;have S2:=(S.le l2).put (r':={r with sent:=true}) (vd':=false) rfl rfl rfl rfl;have K2:Kp (· =7) s o o mu n _ n2:=(S.kput (c:=stepC {r with sent:=true} xe xa xs xd xo false)).le2 l2;have hcell:stepC {r with sent:=true} xe xa xs xd xo false=[I r.me,I r.nodes,I r.view,I r.normal,I r.status,I r.commit,.bool true,I r.log.base,r.log.snap.sv,xe,xa,xs,xd,xo,.bool false]:=rfl;rw[hcell]at S2 K2;clear hcell;have hPm:=Qfq H s {r with sent:=true} xe xa xs xd xo false r.view;try simp only[↓E1,E4,seval, *]
  have ws2:=Qem (fz:=fz) S2.cells;unfold stepC repC at ws2;obtain⟨m3,hm3⟩:∃m,putS mu s [I r.me,I r.nodes,I r.view,I r.normal,I r.status,I r.commit,.bool true,I r.log.base,r.log.snap.sv,xe,xa,xs,xd,xo,.bool false]=m:=⟨_,rfl⟩
  rw[hm3]at S2 K2 ws2;try rw[hm3]
  refine hPm.q1 S2.free (Qem S2.cells) ?_;rintro v n3 l3 rfl;have S3:=S2.le l3;have K3:=K2.le2 l3;clear ws ws' hs hF;try simp only[↓E1,E4,seval, *]
  refine Qwo H S3 hz.log (by omega) λm6 n6 o6 xo6 S6 K6=>?_;have hk:=hkH.out;rw[hRH.out]at hk;have hk2:=hk _ _ _ _ _ _ _ _ S6 (K3.trans K6);clear hk;try simp only[↓E1,E4,seval, *]
  all_goals exact hk2
theorem Qvt {lo:Nat} {fz:Fz} {s:Nat} {o:Nat->Nat} {mu:St} {n:Nat} {r:Rep} {out:List Msg} {xe xa xs xd xo:SV} (S:SW lo fz s o mu n r out false xe xa xs xd xo) (m:Msg) (yb ye:SV) {b:Nat} (hb:Ev.look mu b=some (msgC m yb ye)) (hob:o b=0) (hyk:yb.known=true/\yb.isMk=false/\ye.known=true/\ye.isMk=false) {N:Nat} (hN:r.nodes=(N:Int)) (hN7:N<=7) (h1N:1<=N) (hz:RepSz r) (hok1:Ok r.log) (hok2:∀d∈r.dos,Ok d.log) (hsl:r.starts.length<=1000) (hl:out.length<=850) {e:Nat->Nat->AV} (e0:e 0 0=.one (.optr s 0)) (e3:e 0 3=.one (.optr b 0)) {k:KT Prop}
 (hk:∀mu' n' o' xe' xa' xs' xd' xo',SW lo fz s o' mu' n' (Qe6 r m N).1 (out++(Qe6 r m N).2.1) (Qe6 r m N).2.2 xe' xa' xs' xd' xo'->Kp TN s o o' mu n mu' n'->k noVal mu' n'):dcode pOrc False (CP P) fz 0 ps_t1 (tmE 71 e) mu n (endP fz [] k):=by
 have hsn:s<n:=S.slt;have ws:=Qem (fz:=fz) S.cells;have wb:=Qem (fz:=fz) hb;obtain⟨ybk,ybm,yek,yem⟩:=hyk;obtain⟨⟨xek,xem⟩,⟨xak,xam⟩,⟨xsk,xsm⟩,⟨xdk,xdm⟩,xok,xom⟩:=S.ks;have hbl:b<n:=S.free.lt wb;have hbs:b≠s:=λe=>by rw[e,S.os]at hob;cases hob
 unfold stepC repC at ws;unfold msgC at wb;have hkH:=Hide.mk hk;have hNH:=Hide.mk hN;clear hk hN;unfold ps_t1 b_Qbw;refine dW ?_;cases h1:decide (r.status=1)with
 |false=>
  have hR:Qe6 r m N=(r,[],false):=by unfold Qe6;rw[h1];rfl
  have hk:=hkH.out;rw[hR]at hk;simp only[List.append_nil]at hk;have hk2:=hk _ _ _ _ _ _ _ _ S Kp.refl;clear hk hR;simp only[↓E1,E4,seval, *];all_goals exact hk2
 |true=>
  have hR:Qe6 r m N=sentR {r with starts:=putL r.starts m.frm} N:=by unfold Qe6;rw[h1,if_pos rfl]
  have hRH:=Hide.mk hR;have hlen:=Qm2 (xs:=r.starts) (x:=m.frm);clear hR;simp only[↓E1,E4,seval, *];refine(ref16_put H xs r.starts m.frm (by omega)).d2 S.free S.rs.2.2.1 ?_;rintro v new n2 g2 ⟨x',rfl,hx'⟩;have l2:=g2.le;obtain⟨-,-,x'k,x'm⟩:=SlX.len hx';obtain⟨hs3,S3,K3⟩:=SW.insS S (x':=x') (l':=putL r.starts m.frm) (mu':=new++mu) l2 (λj hj _=>g2.own j hj) hx' g2.free;have hcell:stepC {r with starts:=putL r.starts m.frm} xe xa x' xd xo false=[I r.me,I r.nodes,I r.view,I r.normal,I r.status,I r.commit,.bool r.sent,I r.log.base,r.log.snap.sv,xe,xa,x',xd,xo,.bool false]:=rfl;rw[hcell]at S3 K3;have ws3:=Qem (fz:=fz) hs3;unfold stepC repC at hs3 ws3;clear hcell ws wb;simp only[↓E1,E4,seval, *];refine start_3 H S3 hNH.out hN7 h1N ⟨hz.log,hz.acks,by show(putL r.starts m.frm).length<=_;omega,hz.dos,hz.dlog⟩ hok1 hok2 hl (by first|rfl|simp[updN,updE, *]) λm4 n4 o4 xe4 xa4 xs4 xd4 xo4 S4 K4=>?_;have hk:=hkH.out;rw[hRH.out]at hk;exact hk _ _ _ _ _ _ _ _ S4 ((K3.weaken λt h=>by rw[h];exactλh=>by cases h).trans (K4.weaken λt h=>by rw[h];exactλh=>by cases h))
theorem Quu {lo:Nat} {fz:Fz} {s:Nat} {o:Nat->Nat} {mu:St} {n:Nat} {r:Rep} {out:List Msg} {xe xa xs xd xo:SV} (S:SW lo fz s o mu n r out false xe xa xs xd xo) (m:Msg) (yb ye:SV)
 (hm:MsgS (with' mu fz) m yb ye) {N:Nat} (hN:r.nodes=(N:Int)) (hN7:N<=7) (h1N:1<=N) (hz:RepSz r) (hok1:Ok r.log) (hok2:∀d∈r.dos,Ok d.log) (hsl:r.starts.length<=1000) (hl:out.length<=800) {k:KT Prop} {w:WK k}
 (hk:∀mu' n' o' xe' xa' xs' xd' xo',SW lo fz s o' mu' n' (Qg1 r m N).1 (out++(Qg1 r m N).2.1) (Qg1 r m N).2.2 xe' xa' xs' xd' xo'->Kp TN s o o' mu n mu' n'->k noVal mu' n'):CPh P n_Qbw [.one (.optr s 0),.ag (msgC m yb ye)] fz mu n k w:=by
 refine CP_of H.Qbw H.mx 0 ?_;obtain⟨-,-,ybk,ybm⟩:=hm.1.len;obtain⟨-,-,yek,yem⟩:=hm.2.len;have hsn:s<n:=S.slt;have gA:=(Gr.refl (lo:=n) S.free).cons (Nat.le_refl _) (msgC m yb ye);have S1:=S.trim.gr gA;have b1:Ev.look ((n,msgC m yb ye)::mu) n=some (msgC m yb ye):=by rw[Qer,if_pos rfl]
 have K1:Kp TN s (trim o n) (trim o n) mu n ((n,msgC m yb ye)::mu) (n+1):=Gr.kp gA;have hm1:=MsgS.mono (gA.sub S.free (Nat.le_refl _)) hm;have hon:trim o n n=0:=Qhr (Nat.le_refl _);have hlon:=S.lon;obtain⟨m1,hm1e⟩:∃mz:St,((n,msgC m yb ye)::mu)=mz:=⟨_,rfl⟩
 rw[hm1e]at gA S1 b1 K1 hm1;obtain⟨⟨xek,xem⟩,⟨xak,xam⟩,⟨xsk,xsm⟩,⟨xdk,xdm⟩,xok,xom⟩:=S1.ks;have ws1:=Qem (fz:=fz) S1.cells;have wb1:=Qem (fz:=fz) b1;have hkH:=Hide.mk hk;have hNH:=Hide.mk hN;clear hk hN;rw[i_Qbw,dc_at ps_eq];have b1':=b1;unfold msgC at hm1e wb1⊢;unfold stepC repC at ws1;unfold ps_h b_Qbw;refine dW ?_;cases h1:decide (r.view<m.view)with
 |false=>
  have hR:Qg1 r m N=Qe6 r m N:=by unfold Qg1;rw[h1];rfl
  have hRH:=Hide.mk hR;clear hR;simp only[↓E1,E4,seval, *];refine Qvt H S1 m yb ye (b:=n) b1' hon ⟨ybk,ybm,yek,yem⟩ hNH.out hN7 h1N hz hok1 hok2 hsl (by omega) (by first|rfl|simp[updN,updE, *]) (by first|rfl|simp[updN,updE, *]) λm4 n4 o4 xe4 xa4 xs4 xd4 xo4 S4 K4=>?_;have hk:=hkH.out;rw[hRH.out]at hk;exact hk _ _ _ _ _ _ _ _ S4 (K1.trans K4).trim
 |true=>
  have hR:Qg1 r m N=((Qe6 (Qfg r m.view N) m N).1,allM r (Qg3 m.view) N++(Qe6 (Qfg r m.view N) m N).2.1,(Qe6 (Qfg r m.view N) m N).2.2):=by unfold Qg1;rw[h1,if_pos rfl]
  have hRH:=Hide.mk hR;clear hR;simp only[↓E1,E4,seval, *];refine Qnl H S1 m.view hNH.out hN7 (by omega) λm2 n2 o2 xa2 xo2 S2 K2=>?_;have b2:=(K2.keep n (by omega) (by omega) (by rw[hon];omega)).trans b1';have ho2:o2 n=0:=by rw[K2.tags n (by omega)];exact hon
  have hal:=Qf4 r (Qg3 m.view) N;clear ws1 wb1;have hnt:n<n2:=by have:=K2.le;omega
  try simp only[↓E1,E4,seval, *]
  refine Qvt H S2 m yb ye (b:=n) b2 ho2 ⟨ybk,ybm,yek,yem⟩ (r:=Qfg r m.view N) hNH.out hN7 h1N (Qjo hz _ hN7) hok1 (by simp[Qfg,anewR]) (by simp[Qfg,anewR]) (by rw[List.length_append];omega) (by first|rfl|simp[updN,updE, *]) (by first|rfl|simp[updN,updE, *]) λm4 n4 o4 xe4 xa4 xs4 xd4 xo4 S4 K4=>?_;have hk:=hkH.out;rw[hRH.out]at hk;simp only[<-List.append_assoc]at hk;exact hk _ _ _ _ _ _ _ _ S4 ((K1.trans (K2.weaken λt h=>by rw[h];exactλh=>by cases h)).trans K4).trim
end
def cmp3 (a b:Int):Int:=if decide (a<b)then -1 else if decide (b<a)then 1 else 0
theorem cmp3_lt (a b:Int):decide (cmp3 a b<0)=decide (a<b):=by
 unfold cmp3;cases h:decide (a<b)
 ·cases h2:decide (b<a)<;>rfl
 ·rfl
theorem cmp3_eq (a b:Int):decide (cmp3 a b=0)=decide (a=b):=by
 unfold cmp3;cases h:decide (a<b)
 ·have h:=of_decide_eq_false h;cases h2:decide (b<a)
  ·have h2:=of_decide_eq_false h2;simp;omega
  ·have h2:=of_decide_eq_true h2;simp;omega
 ·have h:=of_decide_eq_true h;simp;omega
section
variable {P:Program} (H:Fs P)
include H
theorem cmp_Compare_int (a b:Int):Ctr P n_Qcd [.one (I a),.one (I b)] (λ_=>True) (λ_ _ _ v=>v=.one (I (cmp3 a b))):=Ctr.of H.mx H.Qcd (λ_=>0) λfz mu n k hfr _ hk=>by
 rw[dY a_Qcd.eq_1 b_Qcd.eq_1];have hN1:=cmp_isNaN_int H a;have hN2:=cmp_isNaN_int H b;have hkH:=Hide.mk hk;clear hk;simp only[↓E1,E2,seval, *];refine hN1.q0 hfr trivial ?_;rintro v n2 l2 rfl;simp only[↓E1,E2,seval, *];refine hN2.q0 (hfr.le l2) trivial ?_;rintro v n3 l3 rfl;have hk2:=hkH.out (.one (I (cmp3 a b))) mu n3 ((Gr.refl hfr).le2 (Nat.le_trans l2 l3)) rfl;unfold cmp3 at hk2;simp only[↓E1,E2,seval, *];cases h1:decide (a<b)with
 |true=>
  rw[h1]at hk2;simp only[↓E1,E2,seval, *];exact hk2
 |false=>
  rw[h1]at hk2;simp only[↓E1,E2,seval, *];cases h2:decide (b<a)with
  |true=>
   rw[h2]at hk2;simp only[↓E1,E2,seval, *];exact hk2
  |false=>
   rw[h2]at hk2;simp only[↓E1,E2,seval, *];exact hk2
theorem Qls (d:Dv) (x:SV) (t:Int) (hx:x.known=true/\x.isMk=false):Ctr P n_Qav [.ag (dvC d x),.one (I t)] (λ_=>True) (λ_ _ _ v=>v=.one (I (cmp3 d.frm t))):=Ctr.of H.mx H.Qav (λ_=>0) λfz mu n k hfr _ hk=>by
 obtain⟨xk,xm⟩:=hx;rw[dY a_Qav.eq_1 b_Qav.eq_1];have hC:=cmp_Compare_int H d.frm t;have hkH:=Hide.mk hk;clear hk;have g1:=(Gr.refl (lo:=n) hfr).cons (Nat.le_refl _) (dvC d x);unfold dvC at g1⊢;simp only[↓E1,E2,seval, *];refine hC.q0 g1.free trivial ?_;rintro v n2 l2 rfl;simp only[↓E1,E2,seval, *];exact hkH.out _ _ _ (g1.le2 l2) rfl
theorem Qh8 (x:SV) (l:List Dv) (t:Int) (hr:(l.map (·.frm)).Pairwise (· <·)) (hl:l.length<=1000000):Ctr P n_Qaa [.one x,.one (I t),.one (.fn n_Qav [])] (fun M=>DvsR M x l) (fun n _ M v=>∃i b,v=.tp [.one (.int .i64 (i:Nat)),.one (.bool b)]/\At (l.map (·.frm)) t i b):=Ctr.of H.mx H.Qaa (fun _=>l.length+1) fun fz mu n k hfr s1 hk=>by
 obtain⟨xl,xs,xk,xm⟩:=s1.len;have hml:(l.map (·.frm)).length=l.length:=List.length_map _;rw[dY a_Qaa.eq_1 b_Qaa.eq_1];have loop:∀m i j fu (e:Env) mu1 n1 (K:LK) w,m=j-i->m<fu->i<=j->j<=l.length->(∀k (h:k<l.length),k<i->l[k].frm<t)->(∀k (h:k<l.length),j<=k->t<=l[k].frm)->Gr n fz mu mu1 n n1->e 0 0=.one x->e 0 1=.one (I t)->e 0 2=.one (.fn n_Qav [])->e 0 8=.one (.int .i64 l.length)->e 0 9=.one (.int .i64 i)->e 0 10=.one (.int .i64 j)->
  (∀i (e':Env) mu' n',i<=l.length->(∀k (h:k<l.length),k<i->l[k].frm<t)->(∀k (h:k<l.length),i<=k->t<=l[k].frm)->Gr n fz mu mu' n n'->e' 0 0=.one x->e' 0 1=.one (I t)->e' 0 2=.one (.fn n_Qav [])->e' 0 8=.one (.int .i64 l.length)->e' 0 9=.one (.int .i64 i)->K (.exit 0) (tmE 49 e') mu' n')->
  Lp (dcode pOrc False (CP P) fz (l.length+1) l_Qaa_0) fu (tmE 49 e) mu1 n1 K w:=by
  intro m;induction m using Nat.strongRecOn with
  |ind m ih=>
  intro i j fu e mu1 n1 K w hm hfu hij hjl hlt hge g1 h0 h1 h2 h6 h7 h8 hK;obtain⟨fu,rfl⟩:∃f,fu=f+1:=⟨fu-1,by omega⟩
  rw[Qiy,dX l_Qaa_0.eq_1];by_cases hlj:i<j
  ·have hw1:IntKind.i64.wrap ((i:Int)+j)=(i:Int)+j:=wrap64 (by omega) (by omega);have hw2:IntKind.u64.wrap ((i:Int)+j)=(i:Int)+j:=wrapU (by omega) (by omega);obtain⟨h,hh⟩:∃h,(i+j)/2=h:=⟨_,rfl⟩
   have hw3:IntKind.i64.wrap (((i:Int)+j)/2)=(h:Int):=by rw[wrap64 (by omega) (by omega)];omega
   have hhl:h<l.length:=by omega
   have hw4:=Qev hhl (by omega);have hij':((i:Int)<j)=True:=by simp;omega
   have hpw:∀k (hk:k<l.length),k<h->l[k].frm<l[h].frm:=λk hk h3=>by
    have:=List.pairwise_iff_getElem.1 hr k h (by rw[hml];exact hk) (by rw[hml];exact hhl) h3;simpa using this
   have hpw2:∀k (hk:k<l.length),h<k->l[h].frm<l[k].frm:=λk hk h3=>by
    have:=List.pairwise_iff_getElem.1 hr h k (by rw[hml];exact hhl) (by rw[hml];exact hk) h3;simpa using this
   obtain⟨id,off,cap,B,y,rfl,hB,hmk,hbd,hsub,hy⟩:=(DvsR.mono (λ_ _ hh=>g1.old hfr hh) s1).elem hhl;obtain⟨-,-,yk,ym⟩:=hy.len;unfold dvC at hsub;have hV:=Qls H l[h] y t ⟨yk,ym⟩;unfold dvC at hV;simp only[↓E1,E2,seval,Qsu,h0,h1,h2,h6,h7,h8,hw1,hw2,hw3,hij',hB,hmk,hbd,hsub,hhl,yk,ym];have hnb:(decide ((h:Int)<0))=false:=by simp
   try simp only[↓E1,E2,seval,Int.toNat_natCast,hnb,hB,hmk,hbd,hsub,hhl,yk,ym]
   refine hV.q0 g1.free trivial ?_;rintro v n2 l2 rfl;have g3:=g1.le2 l2;have hc3:=cmp3_lt l[h].frm t;simp only[↓E1,E2,seval,updN,updE,h0,h1,h2,h6,h7,h8,hc3];refine Qeo (λhb=>?_) (λhb=>?_)
   ·simp only[↓E1,E2,seval,updN,updE,h0,h1,h2,h6,h7,h8,hw4];simp only[decide_eq_true_eq]at hb;refine ih (j-(h+1)) (by omega) (h+1) j fu _ _ _ _ _ rfl (by omega) (by omega) hjl (λk hk hkh=>?_) hge g3 (by simp[updN,updE,h0,h1,h2,h6,h7,h8]) (by simp[updN,updE,h0,h1,h2,h6,h7,h8]) (by simp[updN,updE,h0,h1,h2,h6,h7,h8]) (by simp[updN,updE,h0,h1,h2,h6,h7,h8]) (by simp[updN,updE,h0,h1,h2,h6,h7,h8]) (by simp[updN,updE,h0,h1,h2,h6,h7,h8]) hK;rcases Nat.lt_or_ge k h with h3|h3
    ·have:=hpw k hk h3;omega
    ·have:k=h:=by omega
     subst this;exact hb
   ·simp only[↓E1,E2,seval,updN,updE,h0,h1,h2,h6,h7,h8];simp only[decide_eq_false_iff_not]at hb;refine ih (h-i) (by omega) i h fu _ _ _ _ _ rfl (by omega) (by omega) (by omega) hlt (λk hk hkh=>?_) g3 (by simp[updN,updE,h0,h1,h2,h6,h7,h8]) (by simp[updN,updE,h0,h1,h2,h6,h7,h8]) (by simp[updN,updE,h0,h1,h2,h6,h7,h8]) (by simp[updN,updE,h0,h1,h2,h6,h7,h8]) (by simp[updN,updE,h0,h1,h2,h6,h7,h8]) (by simp[updN,updE,h0,h1,h2,h6,h7,h8]) hK;rcases Nat.lt_or_ge h k with h3|h3
    ·have:=hpw2 k hk h3;omega
    ·have:k=h:=by omega
     subst this;omega
  ·have:i=j:=by omega
   subst this;have hij':((i:Int)<i)=False:=by simp
   simp only[↓E1,E2,seval,h0,h1,h2,h6,h7,h8,hij'];exact hK i _ _ _ hjl hlt hge g1 (by simp[updN,updE, *]) (by simp[updN,updE, *]) (by simp[updN,updE, *]) (by simp[updN,updE, *]) (by simp[updN,updE, *])
 simp only[↓E1,E2,seval, *];refine loop l.length 0 l.length (l.length+1) _ _ _ _ _ (by omega) (by omega) (by omega) (Nat.le_refl _) (λk hk h=>by omega) (λk hk h=>by omega) (Gr.refl hfr) (by simp[updN,updE,envI]) (by simp[updN,updE,envI]) (by simp[updN,updE,envI]) (by simp[updN,updE,envI]) (by simp[updN,updE,envI]) (by simp[updN,updE,envI]) ?_;clear loop;intro i e' mu' n' hi hlt hge g h0 h1 h2 h6 h7;have hlt':∀k (h:k<(l.map (·.frm)).length),k<i->(l.map (·.frm))[k]<t:=λk h hk=>by simpa using hlt k (by rw[hml]at h;exact h) hk
 have hge':∀k (h:k<(l.map (·.frm)).length),i<=k->t<=(l.map (·.frm))[k]:=λk h hk=>by simpa using hge k (by rw[hml]at h;exact h) hk
 simp only[↓E1,E2,seval,h0,h1,h2,h6,h7];by_cases hil:i<l.length
 ·obtain⟨id,off,cap,B,y,rfl,hB,hmk,hbd,hsub,hy⟩:=(DvsR.mono (λ_ _ hh=>g.old hfr hh) s1).elem hil;obtain⟨-,-,yk,ym⟩:=hy.len;unfold dvC at hsub;have hV:=Qls H l[i] y t ⟨yk,ym⟩;unfold dvC at hV;simp only[↓E1,E2,seval, *];refine hV.q0 g.free trivial ?_;rintro v n2 l2 rfl;have hc3:=cmp3_eq l[i].frm t;have hkH:=Hide.mk hk;clear hk;simp only[↓E1,E2,seval, *];refine hkH.out _ _ _ (g.le2 l2) ⟨i,decide (l[i].frm=t),rfl,⟨by rw[hml];exact hi,hlt',hge',?_⟩⟩;simp[hil]
 ·simp only[↓E1,E2,seval, *];refine hk _ _ _ g ⟨i,false,rfl,⟨by rw[hml];exact hi,hlt',hge',?_⟩⟩;simp[hil]
end
def Mx (o:Nat->Nat) (n nb:Nat) (M:Fz):Fz:=λj=>if(j<n/\o j=6)\/(n<=j/\j<nb)then M j else none
theorem Mx.el {o:Nat->Nat} {n nb j:Nat} {M:Fz} {B:List SV} (h:Mx o n nb M j=some B):((j<n/\o j=6)\/(n<=j/\j<nb))/\M j=some B:=by
 unfold Mx at h;split at h
 ·rename_i e;exact⟨e,h⟩
 ·cases h
theorem Mx.at {o:Nat->Nat} {n nb j:Nat} {M:Fz} {B:List SV} (h:(j<n/\o j=6)\/(n<=j/\j<nb)) (g:M j=some B):Mx o n nb M j=some B:=by unfold Mx;rw[if_pos h];exact g
theorem SW.insD {lo:Nat} {fz:Fz} {s:Nat} {o:Nat->Nat} {mu:St} {n:Nat} {r:Rep} {out:List Msg} {vd:Bool} {xe xa xs xd xo:SV} (S:SW lo fz s o mu n r out vd xe xa xs xd xo) {mu':St} {n' nb:Nat} {x':SV} {cs:List (List SV)} {l':List Dv} (hnn:n<=n') (hnb:n<=nb)
 (h1:∀j,j<n->blk xd≠some j->Ev.look mu' j=Ev.look mu j) (h2:SlX (From nb (with' mu' fz)) 6 x' cs) (h3:All2 (DvX (Mx o n nb (with' mu' fz))) cs l') (hf:Free fz mu' n'):
 Ev.look mu' s=some (stepC r xe xa xs xd xo vd)/\SW lo fz s (tagN o n λj=>if nb<=j then 5 else 6) (putS mu' s (stepC {r with dos:=l'} xe xa xs x' xo vd)) n' {r with dos:=l'} out vd xe xa xs x' xo/\
  Kp (· =5) s o (tagN o n λj=>if nb<=j then 5 else 6) mu n (putS mu' s (stepC {r with dos:=l'} xe xa xs x' xo vd)) n':=by
 have hsn:=S.slt;have hb:∀j,blk xd=some j->o j=5:=λj hj=>by
  obtain⟨ds,t5,-⟩:=S.rt.dos;rcases t5 with⟨h3|h3,-⟩|⟨id,h3,h4,-,-⟩
  ·rw[h3]at hj;cases hj
  ·rw[h3]at hj;cases hj
  ·rw[h3]at hj;cases hj;exact(Tag.el h4).1
 have hs:Ev.look mu' s=some (stepC r xe xa xs xd xo vd):=(h1 s hsn (λe=>by have:=hb s e;rw[S.os]at this;omega)).trans S.cells;have ho:∀j,j<n->tagN o n (λj=>if nb<=j then 5 else 6) j=o j:=λj hj=>Qfm hj;have hlk:∀(c:List SV) j,j<n->j≠s->o j≠5->Ev.look (putS mu' s c) j=Ev.look mu j:=λc j hj hjs h4=>by
  rw[Qen,if_neg (λe=>hjs e.symm)];exact h1 j hj (λe=>h4 (hb j e))
 have u:∀(c:List SV) t,t≠5->t≠9->t≠0->Sub (Tag o t (with' mu fz)) (Tag (tagN o n λj=>if nb<=j then 5 else 6) t (with' (putS mu' s c) fz)):=λc t h4 h9 h0 j B hj=>by
  obtain⟨p1,p2⟩:=Tag.el hj;have p3:=S.free.lt p2;refine Tag.at (by rw[ho j p3];exact p1) ?_;rw[Qeu (hlk c j p3 (λe=>by rw[e,S.os]at p1;omega) (by omega))];exact p2
 have hput:∀(c:List SV) j,j≠s->with' (putS mu' s c) fz j=with' mu' fz j:=λc j hj=>by rw[Qet hs,if_neg (by omega)]
 obtain⟨⟨cs1,t1,t2⟩,t3,t4,ds,t5,t6⟩:=S.rt;exact⟨hs,⟨by rw[Qen,if_pos rfl,hs];rfl,⟨⟨cs1,t1.mono (u _ 1 (by omega) (by omega) (by omega)),t2.imp λc a g=>EntX.mono (u _ 2 (by omega) (by omega) (by omega)) g⟩,IntsX.mono (u _ 3 (by omega) (by omega) (by omega)) t3,IntsX.mono (u _ 4 (by omega) (by omega) (by omega)) t4,cs,h2.mono (λj B hj=>by
  obtain⟨p1,p2⟩:=From.el hj;exact Tag.at (by rw[Qgn (by omega),if_pos p1]) (by rw[hput _ j (by omega)];exact p2)),h3.imp λc a g=>DvX.mono (λj B hj=>by
  obtain⟨p1,p2⟩:=Mx.el hj;rcases p1 with⟨p1,p3⟩|⟨p1,p3⟩
  ·exact Tag.at (by rw[ho j p1];exact p3) (by rw[hput _ j (λe=>by rw[e,S.os]at p3;omega)];exact p2)
  ·exact Tag.at (by rw[Qgn p1,if_neg (by omega)]) (by rw[hput _ j (by omega)];exact p2)) g⟩,
  S.ot.keep (u _ 2 (by omega) (by omega) (by omega)) (u _ 7 (by omega) (by omega) (by omega)) (u _ 8 (by omega) (by omega) (by omega)),λj=>by rw[hput _ _ (by omega)];exact hf j,S.los,by rw[ho s hsn];exact S.os,λj hj=>by rw[ho j (by have:=S.lon;omega)];exact S.zero j hj,S.fzl⟩,⟨hnn,ho,λj hj hjs h4=>hlk _ j hj hjs h4⟩⟩
def putDs (d:Dv) (a:Bool×List Dv) (y:Dv):Bool×List Dv:=
 if decide (y.frm=d.frm)then(if !a.1&&decide (d.frm<=y.frm)then(true,a.2++[d])else a)
 else(if !a.1&&decide (d.frm<=y.frm)then(true,(a.2++[d])++[y])else(a.1,a.2++[y]))
def putDt (l:List Dv) (d:Dv) (i:Nat):Bool×List Dv:=(l.take i).foldl (putDs d) (false,[])
def putD (l:List Dv) (d:Dv):List Dv:=if(putDt l d l.length).1 then(putDt l d l.length).2 else(putDt l d l.length).2++[d]
theorem Qhk {l:List Dv} {d:Dv} {i:Nat} (hi:i<l.length):putDt l d (i+1)=putDs d (putDt l d i) l[i]:=by
 unfold putDt;rw[List.take_succ_eq_append_getElem hi,List.foldl_append];rfl
theorem Qvf (d:Dv) (a:Bool×List Dv) (y:Dv):(putDs d a y).2.length+b2n a.1<=a.2.length+1+b2n (putDs d a y).1:=by
 unfold putDs b2n;cases a.1<;>cases decide (y.frm=d.frm)<;>cases decide (d.frm<=y.frm)<;>simp<;>omega
theorem Qk1 (l:List Dv) (d:Dv):∀i,i<=l.length->(putDt l d i).2.length<=i+b2n (putDt l d i).1
 |0,_=>by simp[putDt]
 |i+1,h=>by
  have h1:=Qk1 l d i (by omega);have h2:=Qvf d (putDt l d i) l[i];rw[Qhk (by omega)];omega
theorem Qwp (b:Bool):b2n b<=1:=by cases b<;>simp[b2n]
theorem Qor {l:List Dv} {d x:Dv} (h:x∈putD l d):x=d\/x∈l:=by
 have key:∀i,i<=l.length->∀y∈(putDt l d i).2,y=d\/y∈l:=by
  intro i;induction i with
  |zero=>intro _ y hy;simp[putDt]at hy
  |succ i ih=>
   intro hi y hy;rw[Qhk (by omega)]at hy;unfold putDs at hy;have hm:l[i]∈l:=List.getElem_mem (by omega);have ih:=ih (by omega);split at hy<;>split at hy<;>(try simp only[List.mem_append,List.mem_singleton]at hy)
   ·rcases hy with hy|hy
    ·exact ih y hy
    ·exact .inl hy
   ·exact ih y hy
   ·rcases hy with(hy|hy)|hy
    ·exact ih y hy
    ·exact .inl hy
    ·exact .inr (hy▸hm)
   ·rcases hy with hy|hy
    ·exact ih y hy
    ·exact .inr (hy▸hm)
 unfold putD at h;split at h
 ·exact key _ (Nat.le_refl _) x h
 ·rcases List.mem_append.1 h with h|h
  ·exact key _ (Nat.le_refl _) x h
  ·exact .inl (List.mem_singleton.1 h)
def voteD (m:Msg):Dv:=⟨m.frm,m.normal,m.commit,m.log⟩
def Qfw (r:Rep) (m:Msg) (N:Nat):Rep×List Msg×Bool:=if decide (r.status=1)then Qfs {r with dos:=putD r.dos (voteD m)} N else(r,[],false)
def doS (r:Rep) (m:Msg) (N:Nat):Rep×List Msg×Bool:=
 if decide (r.view<m.view)then((Qfw (Qfg r m.view N) m N).1,allM r (Qg3 m.view) N++(Qfw (Qfg r m.view N) m N).2.1,(Qfw (Qfg r m.view N) m N).2.2)else Qfw r m N
def doG (r:Rep) (m:Msg) (N:Nat):Rep×List Msg×Bool:=if decide (prim m.view r.nodes=r.me)&&decide (m.normal<m.view)then doS r m N else(r,[],false)
def do_t1:ACode:=match b_Qc1 with|.seq _ (.seq _ (.seq _ c))=>c|c=>c
def do_h (t:ACode):ACode:=match b_Qc1 with|.seq a (.seq b (.seq c _))=>.seq a (.seq b (.seq c t))|c=>c
theorem do_eq:b_Qc1=do_h do_t1:=rfl
section
variable {P:Program} (H:Fs P)
include H
theorem do_1 {lo:Nat} {fz:Fz} {s:Nat} {o:Nat->Nat} {mu:St} {n:Nat} {r:Rep} {out:List Msg} {xe xa xs xd xo:SV} (S:SW lo fz s o mu n r out false xe xa xs xd xo) (m:Msg) (yb ye:SV) {b:Nat} (hb:Ev.look mu b=some (msgC m yb ye)) (hob:o b=0) (hyk:yb.known=true/\yb.isMk=false/\ye.known=true/\ye.isMk=false) (hml:EntsR (with' mu fz) ye m.log.ents) (hmz:MsgSz m) {N:Nat} (hN:r.nodes=(N:Int)) (hN7:N<=7) (h1N:1<=N) (hz:RepSz r) (hok1:Ok r.log) (hok2:∀d∈r.dos,Ok d.log) (hok3:Ok m.log) (hsl:r.dos.length<=1000) (hl:out.length<=850) {fu:Nat} (hfu:r.dos.length<fu) {e:Nat->Nat->AV} (e0:e 0 0=.one (.optr s 0)) (e3:e 0 3=.one (.optr b 0)) {k:KT Prop}
 (hk:∀mu' n' o' xe' xa' xs' xd' xo',SW lo fz s o' mu' n' (Qfw r m N).1 (out++(Qfw r m N).2.1) (Qfw r m N).2.2 xe' xa' xs' xd' xo'->Kp TN s o o' mu n mu' n'->k noVal mu' n'):dcode pOrc False (CP P) fz fu do_t1 (tmE 119 e) mu n (endP fz [] k):=by
 have hsn:s<n:=S.slt;have ws:=Qem (fz:=fz) S.cells;have wb:=Qem (fz:=fz) hb;obtain⟨ybk,ybm,yek,yem⟩:=hyk;obtain⟨⟨xek,xem⟩,⟨xak,xam⟩,⟨xsk,xsm⟩,⟨xdk,xdm⟩,xok,xom⟩:=S.ks;have hbl:b<n:=S.free.lt wb;have hbs:b≠s:=λe=>by rw[e,S.os]at hob;cases hob
 unfold stepC repC at ws;unfold msgC at wb;have hkH:=Hide.mk hk;have hNH:=Hide.mk hN;clear hk hN;unfold do_t1 b_Qc1;refine dW ?_;cases h1:decide (r.status=1)with
 |false=>
  have hR:Qfw r m N=(r,[],false):=by unfold Qfw;rw[h1];rfl
  have hk:=hkH.out;rw[hR]at hk;simp only[List.append_nil]at hk;have hk2:=hk _ _ _ _ _ _ _ _ S Kp.refl;clear hk hR;simp only[↓E1,E4,seval, *];all_goals exact hk2
 |true=>
  have hR:Qfw r m N=Qfs {r with dos:=putD r.dos (voteD m)} N:=by unfold Qfw;rw[h1,if_pos rfl]
  have hRH:=Hide.mk hR;clear hR;have hC:=ref4_CopyLog H m.log ye hmz.log.ents hmz.log.bat;unfold lgC at hC;have hml0:=Hide.mk hml;clear hml;simp only[↓E1,E4,seval, *];refine hC.d2 S.free hml0.out ?_;rintro v new n2 g2 ⟨x',rfl,hx'⟩;have l2:=g2.le;obtain⟨-,-,x'k,x'm⟩:=(EntsX.to hx').len;simp only[↓E1,E4,seval, *];have gB:Gr n fz mu ((n2,[I m.frm,I m.normal,I m.commit,I m.log.base,m.log.snap.sv,x'])::(new++mu)) n (n2+1):=g2.cons l2 _;have hd2:Ev.look ((n2,[I m.frm,I m.normal,I m.commit,I m.log.base,m.log.snap.sv,x'])::(new++mu)) n2=some [I m.frm,I m.normal,I m.commit,I m.log.base,m.log.snap.sv,x']:=by rw[Qer,if_pos rfl]
  obtain⟨m2,hm2⟩:∃z,((n2,[I m.frm,I m.normal,I m.commit,I m.log.base,m.log.snap.sv,x'])::(new++mu))=z:=⟨_,rfl⟩
  have hF0:DvX (Mx o n (n2+1) (with' m2 fz)) (dvC (voteD m) x') (voteD m):=⟨x',rfl,EntsX.mono (λj B hj=>by
   obtain⟨p1,p2⟩:=From.el hj;have p3:=g2.free.lt p2;exact Mx.at (.inr ⟨p1,by omega⟩) (by rw[<-hm2,Qfl,if_neg (by omega)];exact p2)) hx'⟩
  rw[hm2]at gB hd2;try rw[hm2]
  obtain⟨ds,t5,t6⟩:=S.rt.dos;have hds:=t6.length;have t6:=t6.imp (S:=DvX (Mx o n (n2+1) (with' m2 fz))) λc a g=>DvX.mono (λj B hj=>by
   obtain⟨p1,p2⟩:=Tag.el hj;have p3:=S.free.lt p2;exact Mx.at (.inl ⟨p3,p1⟩) (by rw[gB.ext j p3];exact p2)) g
  have t5:=(t5.mono Tag.sub).to;have w2:=Qem (fz:=fz) hd2;unfold dvC at hF0;clear ws wb hC;have hs2:=(gB.own s hsn).trans S.cells;have hb2:=(gB.own b hbl).trans hb;unfold stepC repC at hs2;unfold msgC at hb2;have hfzl:∀j,n2+1<=j->fz j=none:=λj hj=>S.fzl j (by have:=S.lon;omega);have hvl:∀i,i<=r.dos.length->(putDt r.dos (voteD m) i).2.length<=1001:=λi hi=>by have:=Qk1 r.dos (voteD m) i hi;have:=Qwp (putDt r.dos (voteD m) i).1;omega
  have hkd:([I m.frm,I m.normal,I m.commit,I m.log.base,m.log.snap.sv,x']:List SV).length=6/\Qeq [I m.frm,I m.normal,I m.commit,I m.log.base,m.log.snap.sv,x']=true:=⟨rfl,by simp only[↓E1,E2,seval, *]⟩
  refine loopI (x:=0) (L:=r.dos.length) (p:=λ_=>true) (λi e mu' n'=>(∃xo',Gr (n2+1) fz m2 mu' (n2+1) n'/\n2+1<=n'/\Grow (n2+1) (with' mu' fz) 6 (λ_=>DvX (Mx o n (n2+1) (with' m2 fz))) xo' (putDt r.dos (voteD m) i).2/\e 0 0=.one (.optr s 0)/\e 0 3=.one (.optr b 0)/\e 0 4=.one xo'/\e 0 5=.one (.bool (putDt r.dos (voteD m) i).1)/\e 0 6=.one (.optr n2 0)/\e 0 7=.one (.int .i64 i))) (λ_ _ _=>False) ?_ ?_ _ _ _ _ _ (by omega) ?_ ?_ ?_
  ·rintro i e mu1 n1 K hi ⟨xo',g1,h3,G,e0,e3,e4,e5,e6,e7⟩ hy hn;have hY:=Hide.mk hy;clear hy hn;have hw:=Qev hi (by omega);have hs1:=(g1.own s (by omega)).trans hs2;have hb1:=(g1.own b (by omega)).trans hb2;have hd1:=(g1.own n2 (by omega)).trans hd2;have ws1:=Qem (fz:=fz) hs1;have wb1:=Qem (fz:=fz) hb1;have wd1:=Qem (fz:=fz) hd1;have hlen:=hvl i (by omega);obtain⟨dn,ol,hpt⟩:∃dn ol,putDt r.dos (voteD m) i=(dn,ol):=⟨_,_,rfl⟩
   have hpS:=Qhk (d:=voteD m) hi;rw[hpt]at hpS hlen G e5;dsimp only at hlen G e5;obtain⟨-,-,ok,om⟩:=G.len;have u1:Sub (with' mu fz) (with' mu1 fz):=(gB.sub S.free (Nat.le_refl _)).trans (g1.sub gB.free (Nat.le_refl _));obtain⟨id,off,cap,B,hxd,hB0,hmk,hbd,hsub⟩:=t5.elem (i:=i) (by omega);have hid:id<n:=S.free.lt hB0;have hB:=u1 _ _ hB0;clear hB0;obtain⟨d',hd',y,hy1,hy2⟩:=t6.get (i:=i) (a:=ds[i]) (List.getElem?_eq_getElem (by omega));rw[List.getElem?_eq_getElem hi]at hd';cases hd';have hFy:DvX (Mx o n (n2+1) (with' m2 fz)) [I r.dos[i].frm,I r.dos[i].normal,I r.dos[i].commit,I r.dos[i].log.base,r.dos[i].log.snap.sv,y] r.dos[i]:=⟨y,rfl,hy2⟩
   obtain⟨-,-,yk',ym'⟩:=(EntsX.to hy2).len;rw[hy1]at hsub;have hsub00:List.take 1 (List.drop (off+i*6+0) B)=[I r.dos[i].frm]:=by
    have:=Qjf hsub (a:=0) (b:=1) (by omega);rw[this];rfl
   have hsub0:List.take 1 (List.drop (off+i*6) B)=[I r.dos[i].frm]:=by
    have:=Qjf hsub (a:=0) (b:=1) (by omega);rw[Nat.add_zero]at this;rw[this];rfl
   unfold dvC at hsub;have hbd1:off+i*6+1<=B.length:=by omega
   have hky:([I r.dos[i].frm,I r.dos[i].normal,I r.dos[i].commit,I r.dos[i].log.base,r.dos[i].log.snap.sv,y]:List SV).length=6/\Qeq [I r.dos[i].frm,I r.dos[i].normal,I r.dos[i].commit,I r.dos[i].log.base,r.dos[i].log.snap.sv,y]=true:=⟨rfl,by simp only[↓E1,E2,seval, *]⟩
   rw[hds]at hxd;rw[hxd]at ws1;have hhi:(i<r.dos.length)=True:=by simp[hi]
   rw[dX l_Qc1_0.eq_1];cases hdn:dn with
   |true=>
    rw[hdn]at e5;simp only[↓E1,E4,seval, *];cases hc2:decide (r.dos[i].frm=m.frm)with
    |true=>
     try simp only[↓E1,E4,seval, *]
     have hput:putDs (voteD m) (dn,ol) r.dos[i]=(true,ol):=by unfold putDs;show(if decide (r.dos[i].frm=m.frm)then(if !dn&&decide (m.frm<=r.dos[i].frm)then _ else _)else _)=_;rw[hc2,hdn];rfl
     refine hY.out rfl _ _ _ ⟨_,g1,by omega,by rw[hpS,hput];exact G,?_,?_,?_,?_,?_,?_⟩;all_goals first|(rw[hpS,hput];simp[updN,updE, *];done)|(simp[updN,updE, *];done)
    |false=>
     try simp only[↓E1,E4,seval, *]
     refine Grow.more (R:=λ_=>DvX (Mx o n (n2+1) (with' m2 fz))) (λ_ g=>g) (a:=r.dos[i]) G g1.free (by omega) hfzl ((Gr.refl g1.free).cons (Nat.le_refl _) _) hFy hky (Qfc (b:=72) (by omega) (by decide) (by decide)) (λmu7 g7 G7=>?_);try simp only[↓E1,E4,seval, *]
     have hput:putDs (voteD m) (dn,ol) r.dos[i]=(true,ol++[r.dos[i]]):=by unfold putDs;show(if decide (r.dos[i].frm=m.frm)then _ else(if !dn&&decide (m.frm<=r.dos[i].frm)then _ else _))=_;rw[hc2,hdn];rfl
     refine hY.out rfl _ _ _ ⟨_,g1.trans (g7.weaken (by omega)),by omega,by rw[hpS,hput];exact G7,?_,?_,?_,?_,?_,?_⟩;all_goals first|(rw[hpS,hput];simp[updN,updE, *];done)|(simp[updN,updE, *];done)
   |false=>
    rw[hdn]at e5;cases hc1:decide (m.frm<=r.dos[i].frm)with
    |false=>
     simp only[↓E1,E4,seval, *];cases hc2:decide (r.dos[i].frm=m.frm)with
     |true=>
      try simp only[↓E1,E4,seval, *]
      have hput:putDs (voteD m) (dn,ol) r.dos[i]=(false,ol):=by unfold putDs;show(if decide (r.dos[i].frm=m.frm)then(if !dn&&decide (m.frm<=r.dos[i].frm)then _ else _)else _)=_;rw[hc2,hdn,hc1];rfl
      refine hY.out rfl _ _ _ ⟨_,g1,by omega,by rw[hpS,hput];exact G,?_,?_,?_,?_,?_,?_⟩;all_goals first|(rw[hpS,hput];simp[updN,updE, *];done)|(simp[updN,updE, *];done)
     |false=>
      try simp only[↓E1,E4,seval, *]
      refine Grow.more (R:=λ_=>DvX (Mx o n (n2+1) (with' m2 fz))) (λ_ g=>g) (a:=r.dos[i]) G g1.free (by omega) hfzl ((Gr.refl g1.free).cons (Nat.le_refl _) _) hFy hky (Qfc (b:=72) (by omega) (by decide) (by decide)) (λmu7 g7 G7=>?_);try simp only[↓E1,E4,seval, *]
      have hput:putDs (voteD m) (dn,ol) r.dos[i]=(false,ol++[r.dos[i]]):=by unfold putDs;show(if decide (r.dos[i].frm=m.frm)then _ else(if !dn&&decide (m.frm<=r.dos[i].frm)then _ else _))=_;rw[hc2,hdn,hc1];rfl
      refine hY.out rfl _ _ _ ⟨_,g1.trans (g7.weaken (by omega)),by omega,by rw[hpS,hput];exact G7,?_,?_,?_,?_,?_,?_⟩;all_goals first|(rw[hpS,hput];simp[updN,updE, *];done)|(simp[updN,updE, *];done)
    |true=>
     simp only[↓E1,E4,seval, *];refine Grow.more (R:=λ_=>DvX (Mx o n (n2+1) (with' m2 fz))) (λ_ g=>g) (a:=voteD m) G g1.free h3 hfzl ((Gr.refl g1.free).cons (Nat.le_refl _) _) hF0 hkd (Qfc (b:=72) (by omega) (by decide) (by decide)) (λmu5 g5 G5=>?_);have hs5:=(g5.own s (by omega)).trans hs1;have hb5:=(g5.own b (by omega)).trans hb1;have hB5:=(g5.ext id (by omega)).trans hB;have ws5:=Qem (fz:=fz) hs5;have wb5:=Qem (fz:=fz) hb5;have hd5:=(g5.own n2 (by omega)).trans hd1;have wd5:=Qem (fz:=fz) hd5;rw[hxd]at ws5;clear ws1 wb1 hB wd1;try simp only[↓E1,E4,seval, *]
     cases hc2:decide (r.dos[i].frm=m.frm)with
     |true=>
      try simp only[↓E1,E4,seval, *]
      have hput:putDs (voteD m) (dn,ol) r.dos[i]=(true,(ol++[voteD m])):=by unfold putDs;show(if decide (r.dos[i].frm=m.frm)then(if !dn&&decide (m.frm<=r.dos[i].frm)then _ else _)else _)=_;rw[hc2,hdn,hc1];rfl
      refine hY.out rfl _ _ _ ⟨_,(g1.trans g5),by omega,by rw[hpS,hput];exact G5,?_,?_,?_,?_,?_,?_⟩;all_goals first|(rw[hpS,hput];simp[updN,updE, *];done)|(simp[updN,updE, *];done)
     |false=>
      try simp only[↓E1,E4,seval, *]
      refine Grow.more (R:=λ_=>DvX (Mx o n (n2+1) (with' m2 fz))) (λ_ g=>g) (a:=r.dos[i]) G5 (g1.trans g5).free (by omega) hfzl ((Gr.refl (g1.trans g5).free).cons (Nat.le_refl _) _) hFy hky (Qfc (b:=72) (by rw[List.length_append,List.length_singleton];omega) (by decide) (by decide)) (λmu7 g7 G7=>?_);try simp only[↓E1,E4,seval, *]
      have hput:putDs (voteD m) (dn,ol) r.dos[i]=(true,(ol++[voteD m])++[r.dos[i]]):=by unfold putDs;show(if decide (r.dos[i].frm=m.frm)then _ else(if !dn&&decide (m.frm<=r.dos[i].frm)then _ else _))=_;rw[hc2,hdn,hc1];rfl
      refine hY.out rfl _ _ _ ⟨_,(g1.trans g5).trans (g7.weaken (by omega)),by omega,by rw[hpS,hput];exact G7,?_,?_,?_,?_,?_,?_⟩;all_goals first|(rw[hpS,hput];simp[updN,updE, *];done)|(simp[updN,updE, *];done)
  ·rintro e mu1 n1 K ⟨xo',g1,h3,G,e0,e3,e4,e5,e6,e7⟩ hx;have hX:=Hide.mk hx;clear hx;obtain⟨xdl,xds,-,-⟩:=S.rs.2.2.2.len;have ws1:=Qem (fz:=fz) ((g1.own s (by omega)).trans hs2);have hlt:((r.dos.length:Int)<r.dos.length)=False:=by simp
   have hlt2:(r.dos.length<r.dos.length)=False:=by simp
   rw[dX l_Qc1_0.eq_1];simp only[↓E1,E4,seval, *];exact hX.out _ _ _ ⟨xo',g1,h3,G,by simp[updN,updE,e0],by simp[updN,updE,e3],by simp[updN,updE,e4],by simp[updN,updE,e5],by simp[updN,updE,e6],by simp[updN,updE,e7]⟩
  ·exact⟨.nsl,Gr.refl gB.free,Nat.le_refl _,Grow.nil,by simp[updN,updE, *],by simp[updN,updE, *],by simp[updN,updE, *],by simp[updN,updE,putDt],by simp[updN,updE, *],by simp[updN,updE, *]⟩
  ·rintro -e1 mu1 n1 ⟨xo',g1,h3,G,e0,e3,e4,e5,e6,e7⟩;have hs1:=(g1.own s (by omega)).trans hs2;have hd1:=(g1.own n2 (by omega)).trans hd2;have ws1:=Qem (fz:=fz) hs1;have wd1:=Qem (fz:=fz) hd1;obtain⟨-,-,ok,om⟩:=G.len;have hlen:=hvl _ (Nat.le_refl r.dos.length);have hmem:∀d∈putD r.dos (voteD m),LgSz d.log/\Ok d.log:=λd hd=>by
    rcases Qor hd with rfl|hd
    ·exact⟨hmz.log,hok3⟩
    ·exact⟨hz.dlog d hd,hok2 d hd⟩
   have hpl:(putD r.dos (voteD m)).length<=1002:=by
    unfold putD;split
    ·omega
    ·rw[List.length_append,List.length_singleton];omega
   have fin:Hide (∀xo2 mu2 n',Gr (n2+1) fz m2 mu2 (n2+1) n'->Grow (n2+1) (with' mu2 fz) 6 (λ_=>DvX (Mx o n (n2+1) (with' m2 fz))) xo2 (putD r.dos (voteD m))->∃o',SW lo fz s o' (putS mu2 s [I r.me,I r.nodes,I r.view,I r.normal,I r.status,I r.commit,.bool r.sent,I r.log.base,r.log.snap.sv,xe,xa,xs,xo2,xo,.bool false]) n' {r with dos:=putD r.dos (voteD m)} out false xe xa xs xo2 xo/\Kp (· =5) s o o' mu n (putS mu2 s [I r.me,I r.nodes,I r.view,I r.normal,I r.status,I r.commit,.bool r.sent,I r.log.base,r.log.snap.sv,xe,xa,xs,xo2,xo,.bool false]) n'):=⟨λxo2 mu2 n' g ⟨cs,q1,q2⟩=>by
    have lg:=g.le;obtain⟨-,S3,K3⟩:=SW.insD S (mu':=mu2) (nb:=n2+1) (x':=xo2) (cs:=cs) (l':=putD r.dos (voteD m)) (n':=n') (by omega) (by omega) (λj hj _=>(g.own j (by omega)).trans (gB.own j hj)) q1 (q2.imp λc a h=>DvX.mono (λj B hj=>by
     obtain⟨p1,p2⟩:=Mx.el hj;exact Mx.at p1 (by rw[g.ext j (by omega)];exact p2)) h) g.free
    exact⟨_,S3,K3⟩⟩
   obtain⟨dn,ol,hpt⟩:∃dn ol,putDt r.dos (voteD m) r.dos.length=(dn,ol):=⟨_,_,rfl⟩
   have hpD:putD r.dos (voteD m)=if dn then ol else ol++[voteD m]:=by unfold putD;rw[hpt]
   rw[hpt]at hlen G e5;dsimp only at hlen G e5;cases hdn:dn with
   |true=>
    rw[hdn]at e5 hpD;obtain⟨o',S3,K3⟩:=fin.out xo' mu1 n1 g1 (by rw[hpD];exact G);simp only[↓E1,E4,seval, *];refine Qj9 H S3 hNH.out hN7 h1N ⟨hz.log,hz.acks,hz.starts,by show(putD r.dos (voteD m)).length<=_;omega,λd hd=>(hmem d hd).1⟩ hok1 (λd hd=>(hmem d hd).2) (by omega) λm7 n7 o7 xe7 xa7 xs7 xd7 xo7 S7 K7=>?_;have hk:=hkH.out;rw[hRH.out]at hk;have hk2:=hk _ _ _ _ _ _ _ _ S7 ((K3.weaken λt h=>by rw[h];exactλh=>by cases h).trans (K7.weaken λt h=>by rw[h];exactλh=>by cases h));clear hk;try simp only[↓E1,E4,seval, *]
    all_goals exact hk2
   |false=>
    rw[hdn]at e5 hpD;simp only[↓E1,E4,seval, *];refine Grow.more (R:=λ_=>DvX (Mx o n (n2+1) (with' m2 fz))) (λ_ g=>g) (a:=voteD m) G g1.free h3 hfzl ((Gr.refl g1.free).cons (Nat.le_refl _) _) hF0 hkd (Qfc (b:=72) (by omega) (by decide) (by decide)) (λmu5 g5 G5=>?_);obtain⟨o',S3,K3⟩:=fin.out _ mu5 (n1+1+1) (g1.trans g5) (by rw[hpD];exact G5);have hs5:=(g5.own s (by omega)).trans hs1;have ws5:=Qem (fz:=fz) hs5;clear ws1 wd1 hs1;simp only[↓E1,E4,seval, *];refine Qj9 H S3 hNH.out hN7 h1N ⟨hz.log,hz.acks,hz.starts,by show(putD r.dos (voteD m)).length<=_;omega,λd hd=>(hmem d hd).1⟩ hok1 (λd hd=>(hmem d hd).2) (by omega) λm7 n7 o7 xe7 xa7 xs7 xd7 xo7 S7 K7=>?_;have hk:=hkH.out;rw[hRH.out]at hk;have hk2:=hk _ _ _ _ _ _ _ _ S7 ((K3.weaken λt h=>by rw[h];exactλh=>by cases h).trans (K7.weaken λt h=>by rw[h];exactλh=>by cases h));clear hk;try simp only[↓E1,E4,seval, *]
    all_goals exact hk2
  ·intros;contradiction
theorem play_do {lo:Nat} {fz:Fz} {s:Nat} {o:Nat->Nat} {mu:St} {n:Nat} {r:Rep} {out:List Msg} {xe xa xs xd xo:SV} (S:SW lo fz s o mu n r out false xe xa xs xd xo) (m:Msg) (yb ye:SV)
 (hm:MsgS (with' mu fz) m yb ye) (hml:EntsR (Low lo (with' mu fz)) ye m.log.ents) (hmz:MsgSz m) {N:Nat} (hN:r.nodes=(N:Int)) (hN7:N<=7) (h1N:1<=N) (hz:RepSz r) (hok1:Ok r.log) (hok2:∀d∈r.dos,Ok d.log) (hok3:Ok m.log) (hsl:r.dos.length<=1000) (hl:out.length<=800) {k:KT Prop} {w:WK k}
 (hk:∀mu' n' o' xe' xa' xs' xd' xo',SW lo fz s o' mu' n' (doG r m N).1 (out++(doG r m N).2.1) (doG r m N).2.2 xe' xa' xs' xd' xo'->Kp TN s o o' mu n mu' n'->k noVal mu' n'):CPh P n_Qc1 [.one (.optr s 0),.ag (msgC m yb ye)] fz mu n k w:=by
 refine CP_of H.Qc1 H.mx (r.dos.length+1) ?_;obtain⟨-,-,ybk,ybm⟩:=hm.1.len;obtain⟨-,-,yek,yem⟩:=hm.2.len;have hsn:s<n:=S.slt;have gA:=(Gr.refl (lo:=n) S.free).cons (Nat.le_refl _) (msgC m yb ye);have S1:=S.trim.gr gA;have b1:Ev.look ((n,msgC m yb ye)::mu) n=some (msgC m yb ye):=by rw[Qer,if_pos rfl]
 have K1:Kp TN s (trim o n) (trim o n) mu n ((n,msgC m yb ye)::mu) (n+1):=Gr.kp gA;have hm1:=MsgS.mono (gA.sub S.free (Nat.le_refl _)) hm;have hon:trim o n n=0:=Qhr (Nat.le_refl _);have hlon:=S.lon;obtain⟨m1,hm1e⟩:∃mz:St,((n,msgC m yb ye)::mu)=mz:=⟨_,rfl⟩
 rw[hm1e]at gA S1 b1 K1 hm1;obtain⟨⟨xek,xem⟩,⟨xak,xam⟩,⟨xsk,xsm⟩,⟨xdk,xdm⟩,xok,xom⟩:=S1.ks;have ws1:=Qem (fz:=fz) S1.cells;have wb1:=Qem (fz:=fz) b1;have hkH:=Hide.mk hk;have hNH:=Hide.mk hN;clear hk hN;have hPm:=Qfq H s r xe xa xs xd xo false m.view;rw[i_Qc1,dc_at do_eq];have b1':=b1;unfold msgC at hm1e wb1⊢;unfold stepC repC at ws1;unfold do_h b_Qc1;refine dW ?_;have hno:∀n2,n+1<=n2->doG r m N=(r,[],false)->k noVal m1 n2:=λn2 l2 hR=>by
  have hk:=hkH.out;rw[hR]at hk;simp only[List.append_nil]at hk;exact hk _ _ _ _ _ _ _ _ (S1.le l2) (K1.le2 l2).trim
 have hnoH:=Hide.mk hno;clear hno;cases h0:decide (prim m.view r.nodes=r.me)with
 |false=>
  simp only[↓E1,E4,seval, *];refine hPm.q1 S1.free (Qem S1.cells) ?_;rintro _ n2 l2 rfl;have hk2:=hnoH.out n2 l2 (by unfold doG;rw[h0];rfl);try simp only[↓E1,E4,seval, *]
  all_goals exact hk2
 |true=>
 cases h2:decide (m.normal<m.view)with
 |false=>
  have h3:decide (m.view<=m.normal)=true:=decide_eq_true (by have:=of_decide_eq_false h2;omega);simp only[↓E1,E4,seval, *];refine hPm.q1 S1.free (Qem S1.cells) ?_;rintro _ n2 l2 rfl;have hk2:=hnoH.out n2 l2 (by unfold doG;rw[h0,h2];rfl);try simp only[↓E1,E4,seval, *]
  all_goals exact hk2
 |true=>
 have h3:decide (m.view<=m.normal)=false:=decide_eq_false (by have:=of_decide_eq_true h2;omega);have hG:doG r m N=doS r m N:=by unfold doG;rw[h0,h2];rfl
 have hGH:=Hide.mk hG;clear hG hnoH;simp only[↓E1,E4,seval, *];refine hPm.q1 S1.free (Qem S1.cells) ?_;rintro _ n2 l2 rfl;have S1:=S1.le l2;have K1:=K1.le2 l2;cases h1:decide (r.view<m.view)with
 |false=>
  have hR:doS r m N=Qfw r m N:=by unfold doS;rw[h1];rfl
  have hRH:=Hide.mk (hGH.out.trans hR);clear hR hGH;simp only[↓E1,E4,seval, *];refine do_1 H S1 m yb ye (b:=n) b1' hon ⟨ybk,ybm,yek,yem⟩ hm1.2 hmz hNH.out hN7 h1N hz hok1 hok2 hok3 hsl (by omega) (Nat.lt_succ_self _) (by first|rfl|simp[updN,updE, *]) (by first|rfl|simp[updN,updE, *]) λm4 n4 o4 xe4 xa4 xs4 xd4 xo4 S4 K4=>?_;have hk:=hkH.out;rw[hRH.out]at hk;exact hk _ _ _ _ _ _ _ _ S4 (K1.trans K4).trim
 |true=>
  have hR:doS r m N=((Qfw (Qfg r m.view N) m N).1,allM r (Qg3 m.view) N++(Qfw (Qfg r m.view N) m N).2.1,(Qfw (Qfg r m.view N) m N).2.2):=by unfold doS;rw[h1,if_pos rfl]
  have hRH:=Hide.mk (hGH.out.trans hR);clear hR hGH;simp only[↓E1,E4,seval, *];refine Qnl H S1 m.view hNH.out hN7 (by omega) λm2 n2 o2 xa2 xo2 S2 K2=>?_;have b2:=(K2.keep n (by omega) (by omega) (by rw[hon];omega)).trans b1';have ho2:o2 n=0:=by rw[K2.tags n (by omega)];exact hon
  have hal:=Qf4 r (Qg3 m.view) N;have hm2:EntsR (with' m2 fz) ye m.log.ents:=EntsR.mono Low.sub (by rw[Low.kp (K1.trans (K2.weaken λt h=>by rw[h];exactλh=>by cases h) |>.trim) S.los S.lon (λj hj=>S.zero j hj) (λh=>h rfl)];exact hml);clear ws1 wb1;have hnt:n<n2:=by have:=K2.le;omega
  try simp only[↓E1,E4,seval, *]
  refine do_1 H S2 m yb ye (b:=n) b2 ho2 ⟨ybk,ybm,yek,yem⟩ hm2 hmz (r:=Qfg r m.view N) hNH.out hN7 h1N (Qjo hz _ hN7) hok1 (by simp[Qfg,anewR]) hok3 (by simp[Qfg,anewR]) (by rw[List.length_append];omega) (by simp[Qfg,anewR]) (by first|rfl|simp[updN,updE, *]) (by first|rfl|simp[updN,updE, *]) λm4 n4 o4 xe4 xa4 xs4 xd4 xo4 S4 K4=>?_;have hk:=hkH.out;rw[hRH.out]at hk;simp only[<-List.append_assoc]at hk;exact hk _ _ _ _ _ _ _ _ S4 ((K1.trans (K2.weaken λt h=>by rw[h];exactλh=>by cases h)).trans K4).trim
end
theorem SW.ofCopy {lo:Nat} {fz:Fz} {m6:St} {n6:Nat} {r:Rep} {o:Nat->Nat} {xe' xa' xs' xd':SV} (hf:Free fz m6 n6) (hfz:∀j,lo<=j->fz j=none) (hlo:lo<=n6) (ho:∀j,j<lo->o j=0) (hT:RepT o (with' m6 fz) r xe' xa' xs' xd'):
 SW lo fz n6 (λj=>if j=n6 then 9 else if j<n6 then o j else 0) ((n6,stepC r xe' xa' xs' xd' .nsl false)::m6) (n6+1) r [] false xe' xa' xs' xd' .nsl:=by
 have g7:=(Gr.refl (lo:=n6) hf).cons (Nat.le_refl _) (stepC r xe' xa' xs' xd' .nsl false);refine⟨by rw[Qer,if_pos rfl],hT.keep λt _ _ j B hj=>?_,⟨[],.inl ⟨.inl rfl,rfl⟩,trivial⟩,g7.free,hlo,by simp,λj hj=>by rw[if_neg (by omega),if_pos (by omega)];exact ho j (by omega),hfz⟩;obtain⟨p1,p2⟩:=Tag.el hj;have p3:=hf.lt p2;exact Tag.at (by rw[if_neg (by omega),if_pos p3];exact p1) (by rw[Qfl,if_neg (by omega)];exact p2)
section
variable {P:Program} (H:Fs P)
include H
end
def actS (r:Rep) (m:Msg) (N:Nat):Rep×List Msg×Bool:=
 if decide (m.kind=4)||decide (m.kind=6)then((Qg5 r m N).1,(Qg5 r m N).2,false)
 else if decide (m.kind=5)then(Qie r m,[],false)
 else if decide (m.kind=7)then Qg1 r m N
 else if decide (m.kind=8)then doG r m N
 else if decide (m.kind=9)||decide (m.kind=11)then setS r m N
 else if decide (m.kind=10)then(r,askS r m,false)
 else(r,[],false)
theorem Qnx (k:Int):(k=4\/k=6)\/k=5\/k=7\/k=8\/(k=9\/k=11)\/k=10\/(decide (k=4)=false/\decide (k=6)=false/\decide (k=5)=false/\decide (k=7)=false/\decide (k=8)=false/\decide (k=9)=false/\decide (k=11)=false/\decide (k=10)=false):=by
 simp only[decide_eq_false_iff_not];omega
def rc_sw:ACode:=match b_Qcu with|.seq _ (.seq _ (.seq _ (.seq _ c)))=>c|c=>c
def Qsz:ACode:=match rc_sw with|.seq _ c=>c|c=>c
def rc_w (t:ACode):ACode:=match rc_sw with|.seq a _=>.seq a t|c=>c
def rc_h (t:ACode):ACode:=match b_Qcu with|.seq a (.seq b (.seq c (.seq d _)))=>.seq a (.seq b (.seq c (.seq d t)))|c=>c
theorem rc_eq:b_Qcu=rc_h rc_sw:=rfl
theorem rc_sweq:rc_sw=rc_w Qsz:=rfl
def okB (r:Rep) (m:Msg):Bool:=repB r&&msgB m&&!decide (m.frm<0)&&!decide (r.nodes<=m.frm)&&!decide (m.frm=r.me)&&decide (m.to=r.me)&&!decide (m.view<r.view)
def Qfo (r:Rep) (m:Msg):Rep×List Msg:=if okB r m then(if(actS r m r.nodes.toNat).2.2 then(r,[])else((actS r m r.nodes.toNat).1,(actS r m r.nodes.toNat).2.1))else(r,[])
theorem ok_cases (a b c d e f g:Bool):(a=false/\(a&&b&&!c&&!d&&!e&&f&&!g)=false)\/(a=true/\b=false/\(a&&b&&!c&&!d&&!e&&f&&!g)=false)\/(a=true/\b=true/\c=true/\(a&&b&&!c&&!d&&!e&&f&&!g)=false)\/
 (a=true/\b=true/\c=false/\d=true/\(a&&b&&!c&&!d&&!e&&f&&!g)=false)\/(a=true/\b=true/\c=false/\d=false/\e=true/\(a&&b&&!c&&!d&&!e&&f&&!g)=false)\/(a=true/\b=true/\c=false/\d=false/\e=false/\f=false/\(a&&b&&!c&&!d&&!e&&f&&!g)=false)\/
 (a=true/\b=true/\c=false/\d=false/\e=false/\f=true/\g=true/\(a&&b&&!c&&!d&&!e&&f&&!g)=false)\/(a=true/\b=true/\c=false/\d=false/\e=false/\f=true/\g=false/\(a&&b&&!c&&!d&&!e&&f&&!g)=true):=by
 revert a b c d e f g;decide
section
variable {P:Program} (H:Fs P)
theorem Qrc {lo:Nat} {fz:Fz} {s:Nat} {o:Nat->Nat} {mu:St} {n:Nat} {r r':Rep} {out:List Msg} {vd:Bool} {xe xa xs xd xo ye ya ys yd:SV} (S:SW lo fz s o mu n r' out vd xe xa xs xd xo) {q ob:Nat}
 (hq:Ev.look mu q=some [I 0,I 0,I 0,I 0,I 0,I 0,.bool false,I 0,.str 0 0,.nsl,.nsl,.nsl,.nsl]) (hob:Ev.look mu ob=some [I r.me,I r.nodes,I r.view,I r.normal,I r.status,I r.commit,.bool r.sent,I r.log.base,r.log.snap.sv,ye,ya,ys,yd]) (hky:(ye.known=true/\ye.isMk=false)/\(ya.known=true/\ya.isMk=false)/\(ys.known=true/\ys.isMk=false)/\(yd.known=true/\yd.isMk=false)) (hqs:q≠s) (hqo:q≠ob) {fu:Nat} {e:Nat->Nat->AV} (e4:e 0 4=.one (.optr q 0)) (e5:e 0 5=.one .nsl) (e6:e 0 6=.one (.optr ob 0)) (e7:e 0 7=.one (.optr s 0)) {k:KT Prop}
 (hv:vd=true->k (.tp [.ag [I r.me,I r.nodes,I r.view,I r.normal,I r.status,I r.commit,.bool r.sent,I r.log.base,r.log.snap.sv,ye,ya,ys,yd],.one .nsl]) (putS mu q [I r.me,I r.nodes,I r.view,I r.normal,I r.status,I r.commit,.bool r.sent,I r.log.base,r.log.snap.sv,ye,ya,ys,yd]) n) (hn:vd=false->k (.tp [.ag [I r'.me,I r'.nodes,I r'.view,I r'.normal,I r'.status,I r'.commit,.bool r'.sent,I r'.log.base,r'.log.snap.sv,xe,xa,xs,xd],.one xo]) ((q,[I r'.me,I r'.nodes,I r'.view,I r'.normal,I r'.status,I r'.commit,.bool r'.sent,I r'.log.base,r'.log.snap.sv,xe,xa,xs,xd])::killS mu q) n):
 dcode pOrc False (CP P) fz fu Qsz (tmE 103 e) mu n (endP fz [.cell 0 4 true 13,.tmp 0 5] k):=by
 obtain⟨⟨xek,xem⟩,⟨xak,xam⟩,⟨xsk,xsm⟩,⟨xdk,xdm⟩,xok,xom⟩:=S.ks;obtain⟨⟨yek,yem⟩,⟨yak,yam⟩,⟨ysk,ysm⟩,ydk,ydm⟩:=hky;have ws:=Qem (fz:=fz) S.cells;have wo:=Qem (fz:=fz) hob;have wq:=Qem (fz:=fz) hq;have hs:=S.cells;have hqs':(q=s)=False:=by simp[hqs]
 have hqo':(q=ob)=False:=by simp[hqo]
 unfold stepC repC at ws hs;unfold Qsz rc_sw b_Qcu;refine dW ?_;cases vd with
 |true=>
  have hk:=hv rfl;clear hv hn;simp only[↓E1,E4,seval, *];all_goals exact hk
 |false=>
  have hk:=hn rfl;clear hv hn;simp only[↓E1,E4,seval, *];rw[Qs4 hq rfl];have hw8:=(Qeu (fz:=fz) (show Ev.look (killS mu q) s=Ev.look mu s by rw[Qfe,if_neg hqs])).trans (Qem S.cells);unfold stepC repC at hw8;clear ws;simp only[↓E1,E4,seval, *];all_goals exact hk
include H
theorem Quc {lo:Nat} {fz:Fz} {s:Nat} {o:Nat->Nat} {mu:St} {n:Nat} {r:Rep} {xe xa xs xd xo:SV} (S:SW lo fz s o mu n r [] false xe xa xs xd xo) (m:Msg) (yb ye:SV) {b q ob:Nat} (hb:Ev.look mu b=some (msgC m yb ye)) (hr:repB r=true) (hv:r.view<=m.view) (hfm:decide (m.frm=r.me)=false) (hf0:0<=m.frm) (hfN:m.frm.toNat<r.acks.length) (hm:MsgS (with' mu fz) m yb ye) (hyf:PtsR fz yb m.batch) (hml:EntsR (Low lo (with' mu fz)) ye m.log.ents) (hmz:MsgSz m) (hok1:Ok r.log) (hok2:∀d∈r.dos,Ok d.log) (hok3:Ok m.log) (hz:RepSz r) {N:Nat} (hN:r.nodes=(N:Int)) (hN7:N<=7) (h1N:1<=N) (hsl:r.starts.length<=1000) (hdl:r.dos.length<=1000) {fu:Nat} {e:Nat->Nat->AV} (e3:e 0 3=.one (.optr b 0)) (e4:e 0 4=.one (.optr q 0)) (e5:e 0 5=.one .nsl) (e6:e 0 6=.one (.optr ob 0)) (e7:e 0 7=.one (.optr s 0)) {K:LK}
 (hk:∀mu' n' o' xe' xa' xs' xd' xo' (e':Nat->Nat->AV),SW lo fz s o' mu' n' (actS r m N).1 (actS r m N).2.1 (actS r m N).2.2 xe' xa' xs' xd' xo'->Gr lo fz mu mu' n n'->e' 0 4=.one (.optr q 0)->e' 0 5=.one .nsl->e' 0 6=.one (.optr ob 0)->e' 0 7=.one (.optr s 0)->dcode pOrc False (CP P) fz fu Qsz (tmE 103 e') mu' n' K):
 dcode pOrc False (CP P) fz fu rc_sw (tmE 103 e) mu n K:=by
 have hkH:=Hide.mk hk;have hNH:=Hide.mk hN;clear hk hN;obtain⟨-,-,ybk,ybm⟩:=hm.1.len;obtain⟨-,-,yek,yem⟩:=hm.2.len;have wb:=Qem (fz:=fz) hb;have hl:=(Qiw hr)
 unfold msgC at wb;rw[rc_sweq];unfold rc_w rc_sw b_Qcu;refine dW ?_;rcases Qnx m.kind with(hkd|hkd)|hkd|hkd|hkd|(hkd|hkd)|hkd|⟨k1,k2,k3,k4,k5,k6,k7,k8⟩
 ·have hA:actS r m N=((Qg5 r m N).1,(Qg5 r m N).2,false):=by unfold actS;rw[hkd];rfl
  have hAH:=Hide.mk hA;clear hA;have hP:=λ(k:KT Prop) (w:WK k)=>Qns H S m yb ye hm hyf hmz hr hv hfm hNH.out hN7 (by simp) (k:=k) (w:=w);unfold msgC at hP;rw[hkd]at hP wb;simp only[↓E1,E4,seval, *];refine hP _ _ λm2 n2 o2 xe2 xa2 xs2 xd2 xo2 S2 K2=>?_;try simp only[↓E1,E4,seval, *]
  have hk:=hkH.out;rw[hAH.out]at hk;try simp only[List.nil_append]at S2
  refine hk _ _ _ _ _ _ _ _ _ S2 (K2.gr S2.free S.los S.lon S.zero (by unfold T71;omega)) ?_ ?_ ?_ ?_;all_goals (first|rfl|simp[updN,updE, *])
 ·have hA:actS r m N=((Qg5 r m N).1,(Qg5 r m N).2,false):=by unfold actS;rw[hkd];rfl
  have hAH:=Hide.mk hA;clear hA;have hP:=λ(k:KT Prop) (w:WK k)=>Qns H S m yb ye hm hyf hmz hr hv hfm hNH.out hN7 (by simp) (k:=k) (w:=w);unfold msgC at hP;rw[hkd]at hP wb;simp only[↓E1,E4,seval, *];refine hP _ _ λm2 n2 o2 xe2 xa2 xs2 xd2 xo2 S2 K2=>?_;try simp only[↓E1,E4,seval, *]
  have hk:=hkH.out;rw[hAH.out]at hk;try simp only[List.nil_append]at S2
  refine hk _ _ _ _ _ _ _ _ _ S2 (K2.gr S2.free S.los S.lon S.zero (by unfold T71;omega)) ?_ ?_ ?_ ?_;all_goals (first|rfl|simp[updN,updE, *])
 ·have hA:actS r m N=(Qie r m,[],false):=by unfold actS;rw[hkd];rfl
  have hAH:=Hide.mk hA;clear hA;have hP:=λ(k:KT Prop) (w:WK k)=>play_ack H S m yb ye hm hv hf0 hfN hz.acks (by omega) (k:=k) (w:=w);unfold msgC at hP;rw[hkd]at hP wb;simp only[↓E1,E4,seval, *];refine hP _ _ λm2 n2 S2 g2=>?_;try simp only[↓E1,E4,seval, *]
  have hk:=hkH.out;rw[hAH.out]at hk;refine hk _ _ _ _ _ _ _ _ _ S2 g2 ?_ ?_ ?_ ?_;all_goals (first|rfl|simp[updN,updE, *])
 ·have hA:actS r m N=Qg1 r m N:=by unfold actS;rw[hkd];rfl
  have hAH:=Hide.mk hA;clear hA;have hP:=λ(k:KT Prop) (w:WK k)=>Quu H S m yb ye hm hNH.out hN7 h1N hz hok1 hok2 hsl (by simp) (k:=k) (w:=w);unfold msgC at hP;rw[hkd]at hP wb;simp only[↓E1,E4,seval, *];refine hP _ _ λm2 n2 o2 xe2 xa2 xs2 xd2 xo2 S2 K2=>?_;try simp only[↓E1,E4,seval, *]
  have hk:=hkH.out;rw[hAH.out]at hk;try simp only[List.nil_append]at S2
  refine hk _ _ _ _ _ _ _ _ _ S2 (K2.gr S2.free S.los S.lon S.zero (λh=>h rfl)) ?_ ?_ ?_ ?_;all_goals (first|rfl|simp[updN,updE, *])
 ·have hA:actS r m N=doG r m N:=by unfold actS;rw[hkd];rfl
  have hAH:=Hide.mk hA;clear hA;have hP:=λ(k:KT Prop) (w:WK k)=>play_do H S m yb ye hm hml hmz hNH.out hN7 h1N hz hok1 hok2 hok3 hdl (by simp) (k:=k) (w:=w);unfold msgC at hP;rw[hkd]at hP wb;simp only[↓E1,E4,seval, *];refine hP _ _ λm2 n2 o2 xe2 xa2 xs2 xd2 xo2 S2 K2=>?_;try simp only[↓E1,E4,seval, *]
  have hk:=hkH.out;rw[hAH.out]at hk;try simp only[List.nil_append]at S2
  refine hk _ _ _ _ _ _ _ _ _ S2 (K2.gr S2.free S.los S.lon S.zero (λh=>h rfl)) ?_ ?_ ?_ ?_;all_goals (first|rfl|simp[updN,updE, *])
 ·have hA:actS r m N=setS r m N:=by unfold actS;rw[hkd];rfl
  have hAH:=Hide.mk hA;clear hA;have hP:=λ(k:KT Prop) (w:WK k)=>Qta H S m yb ye hm hml hmz hok1 hok3 hfm hNH.out hN7 (by simp) (k:=k) (w:=w);unfold msgC at hP;rw[hkd]at hP wb;simp only[↓E1,E4,seval, *];refine hP _ _ λm2 n2 o2 xe2 xa2 xs2 xd2 xo2 S2 K2=>?_;try simp only[↓E1,E4,seval, *]
  have hk:=hkH.out;rw[hAH.out]at hk;try simp only[List.nil_append]at S2
  refine hk _ _ _ _ _ _ _ _ _ S2 (K2.gr S2.free S.los S.lon S.zero (by unfold T71;omega)) ?_ ?_ ?_ ?_;all_goals (first|rfl|simp[updN,updE, *])
 ·have hA:actS r m N=setS r m N:=by unfold actS;rw[hkd];rfl
  have hAH:=Hide.mk hA;clear hA;have hP:=λ(k:KT Prop) (w:WK k)=>Qta H S m yb ye hm hml hmz hok1 hok3 hfm hNH.out hN7 (by simp) (k:=k) (w:=w);unfold msgC at hP;rw[hkd]at hP wb;simp only[↓E1,E4,seval, *];refine hP _ _ λm2 n2 o2 xe2 xa2 xs2 xd2 xo2 S2 K2=>?_;try simp only[↓E1,E4,seval, *]
  have hk:=hkH.out;rw[hAH.out]at hk;try simp only[List.nil_append]at S2
  refine hk _ _ _ _ _ _ _ _ _ S2 (K2.gr S2.free S.los S.lon S.zero (by unfold T71;omega)) ?_ ?_ ?_ ?_;all_goals (first|rfl|simp[updN,updE, *])
 ·have hA:actS r m N=(r,askS r m,false):=by unfold actS;rw[hkd];rfl
  have hAH:=Hide.mk hA;clear hA;have hP:=λ(k:KT Prop) (w:WK k)=>play_ask H S m yb ye hm hz.log (by simp) (k:=k) (w:=w);unfold msgC at hP;rw[hkd]at hP wb;simp only[↓E1,E4,seval, *];refine hP _ _ λm2 n2 o2 xo2 S2 K2=>?_;try simp only[↓E1,E4,seval, *]
  have hk:=hkH.out;rw[hAH.out]at hk;try simp only[List.nil_append]at S2
  refine hk _ _ _ _ _ _ _ _ _ S2 (K2.gr S2.free S.los S.lon S.zero (by unfold T71;omega)) ?_ ?_ ?_ ?_;all_goals (first|rfl|simp[updN,updE, *])
 ·have hA:actS r m N=(r,[],false):=by unfold actS;rw[k1,k2,k3,k4,k5,k6,k7,k8];rfl
  have hAH:=Hide.mk hA;clear hA;simp only[↓E1,E4,seval, *];have hk:=hkH.out;rw[hAH.out]at hk;refine hk _ _ _ _ _ _ _ _ _ S (Gr.refl S.free) ?_ ?_ ?_ ?_;all_goals (first|rfl|simp[updN,updE, *])
theorem Qlz (r:Rep) (xe xa xs xd:SV) (m:Msg) (zb zm:SV) (hz:RepSz r) (hmz:MsgSz m) (hok1:Ok r.log) (hok2:∀d∈r.dos,Ok d.log) (hok3:Ok m.log) (hsl:repB r=true->r.starts.length<=1000/\r.dos.length<=1000/\r.acks.length=r.nodes.toNat) {fz:Fz} {mu:St} {n:Nat} (hfr:Free fz mu n) (s1:RepS (with' mu fz) r xe xa xs xd) (s2:MsgS (with' mu fz) m zb zm) (hyf:PtsR fz zb m.batch) {k:KT Prop} {w:WK k}
 (hk:∀v mu' n',Gr n fz mu mu' n n'->StepP (Qfo r m) n (with' mu' fz) v->k v mu' n'):CPh P n_Qcu [.ag (repC r xe xa xs xd),.ag (msgC m zb zm)] fz mu n k w:=by
 refine CP_of H.Qcu H.mx 0 ?_;obtain⟨-,-,xek,xem⟩:=s1.1.len;obtain⟨-,-,xak,xam⟩:=s1.2.1.len;obtain⟨-,-,xsk,xsm⟩:=s1.2.2.1.len;obtain⟨-,-,xdk,xdm⟩:=s1.2.2.2.len;obtain⟨-,-,zbk,zbm⟩:=s2.1.len;obtain⟨-,-,zmk,zmm⟩:=s2.2.len;have hC:=ref16_Copy H r xe xa xs xd hz;have hM:=ref16_May H r xe xa xs xd (RepSz.s r hz).1 (RepSz.s r hz).2.1 (RepSz.s r hz).2.2 hok1 hok2;have hG:=ref4_May H m zb zm (by have:=hmz.bat;omega) hok3;have hkH:=Hide.mk hk;clear hk;unfold repC at hC hM⊢;unfold msgC at hG⊢;rw[i_Qcu,dc_at rc_eq];unfold rc_h b_Qcu;refine dW ?_;simp only[↓E1,E4,seval, *];refine CPr.abs3 hfr λm1 n1 g1 l1 b1 b2 b3=>?_;have u1:=g1.sub hfr (Nat.le_refl _);refine hC.c1 g1.free (RepS.mono u1 s1) ?_;rintro v m2 n2 g2 ⟨ye,ya,ys,yd,o,rfl,ho,hT⟩;have l2:=g2.le;have c1:=(g2.own n (by omega)).trans b1;have c2:=(g2.own (n+1) (by omega)).trans b2;have c3:=(g2.own (n+2) (by omega)).trans b3;have w1:=Qem (fz:=fz) c1;have w2:=Qem (fz:=fz) c2;have w3:=Qem (fz:=fz) c3;obtain⟨⟨es,t1,t2⟩,t3,t4,ds,t5,t6⟩:=hT;have hT:RepT o (with' m2 fz) r ye ya ys yd:=⟨⟨es,t1,t2⟩,t3,t4,ds,t5,t6⟩
 obtain⟨-,-,yek,yem⟩:=t1.len;obtain⟨-,-,yak,yam⟩:=SlX.len t3;obtain⟨-,-,ysk,ysm⟩:=SlX.len t4;obtain⟨-,-,ydk,ydm⟩:=SlX.len t5;have g3:=(g1.trans (g2.weaken (by omega))).cons (by omega) [I r.me,I r.nodes,I r.view,I r.normal,I r.status,I r.commit,.bool r.sent,I r.log.base,r.log.snap.sv,ye,ya,ys,yd];have hT3:RepT (trim o n2) (with' ((n2,[I r.me,I r.nodes,I r.view,I r.normal,I r.status,I r.commit,.bool r.sent,I r.log.base,r.log.snap.sv,ye,ya,ys,yd])::m2) fz) r ye ya ys yd:=hT.keep λt _ _ j B hj=>by
  obtain⟨p1,p2⟩:=Tag.el hj;have p3:=g2.free.lt p2;exact Tag.at (by rw[Qhh p3];exact p1) (by rw[Qfl,if_neg (by omega)];exact p2)
 have hz3:∀j,j<n1->trim o n2 j=0:=λj hj=>by rw[Qhh (by omega)];exact ho j hj
 have hn1:(n=n2)=False:=by simp;omega
 have hn2:(n+1=n2)=False:=by simp;omega
 have hn2':(n+2=n2)=False:=by simp;omega
 have hn3:(n2=n)=False:=by simp;omega
 have hn4:(n2=n+1)=False:=by simp;omega
 have hn5:(n2=n+2)=False:=by simp;omega
 have hn6:(n2=n+1+1)=False:=by simp;omega
 have d1:=(show Ev.look ((n2,[I r.me,I r.nodes,I r.view,I r.normal,I r.status,I r.commit,.bool r.sent,I r.log.base,r.log.snap.sv,ye,ya,ys,yd])::m2) n=_ by rw[Qer,if_neg (by omega)]).trans c1;have d2:=(show Ev.look ((n2,[I r.me,I r.nodes,I r.view,I r.normal,I r.status,I r.commit,.bool r.sent,I r.log.base,r.log.snap.sv,ye,ya,ys,yd])::m2) (n+1)=_ by rw[Qer,if_neg (by omega)]).trans c2;have d3:=(show Ev.look ((n2,[I r.me,I r.nodes,I r.view,I r.normal,I r.status,I r.commit,.bool r.sent,I r.log.base,r.log.snap.sv,ye,ya,ys,yd])::m2) (n+2)=_ by rw[Qer,if_neg (by omega)]).trans c3;have d4:Ev.look ((n2,[I r.me,I r.nodes,I r.view,I r.normal,I r.status,I r.commit,.bool r.sent,I r.log.base,r.log.snap.sv,ye,ya,ys,yd])::m2) n2=some [I r.me,I r.nodes,I r.view,I r.normal,I r.status,I r.commit,.bool r.sent,I r.log.base,r.log.snap.sv,ye,ya,ys,yd]:=by rw[Qer,if_pos rfl]
 clear t1 t2 t3 t4 t5 t6 hT;simp only[↓E1,E4,seval, *];obtain⟨m3,hm3⟩:∃m,((n2,[I r.me,I r.nodes,I r.view,I r.normal,I r.status,I r.commit,.bool r.sent,I r.log.base,r.log.snap.sv,ye,ya,ys,yd])::m2)=m:=⟨_,rfl⟩
 rw[hm3]at g3 hT3 d1 d2 d3 d4;try rw[hm3]
 have u3:=g3.sub hfr (Nat.le_refl _);clear hm3 w1 w2 w3 c1 c2 c3 b1 b2 b3;have w1:=Qem (fz:=fz) d1;have w2:=Qem (fz:=fz) d2;have w3:=Qem (fz:=fz) d3;have w4:=Qem (fz:=fz) d4;have hvoid:∀(mm:St) (n':Nat),Gr (n2+1) fz m3 mm (n2+1) n'->Qfo r m=(r,[])->k (.tp [.ag [I r.me,I r.nodes,I r.view,I r.normal,I r.status,I r.commit,.bool r.sent,I r.log.base,r.log.snap.sv,ye,ya,ys,yd],.one .nsl]) (putS mm (n+2) [I r.me,I r.nodes,I r.view,I r.normal,I r.status,I r.commit,.bool r.sent,I r.log.base,r.log.snap.sv,ye,ya,ys,yd]) n':=λmm n' g hT=>by
  have d2':=(g.own (n+2) (by omega)).trans d3;have hput:∀t,t≠0->Sub (Tag (trim o n2) t (with' mm fz)) (Tag (trim o n2) t (with' (putS mm (n+2) [I r.me,I r.nodes,I r.view,I r.normal,I r.status,I r.commit,.bool r.sent,I r.log.base,r.log.snap.sv,ye,ya,ys,yd]) fz)):=λt ht=>Tag.put (lookI d2') (by rw[hz3 _ (by omega)];omega);have hsub:=g.sub g3.free (Nat.le_refl _);have hT4:RepT (trim o n2) (with' mm fz) r ye ya ys yd:=hT3.keep λt _ _ j B hj=>by
   obtain⟨p1,p2⟩:=Tag.el hj;exact Tag.at p1 (hsub _ _ p2)
  exact hkH.out _ _ _ ((g3.trans (g.weaken (by omega))).put (id:=n+2) (by omega) d2' (c:=[I r.me,I r.nodes,I r.view,I r.normal,I r.status,I r.commit,.bool r.sent,I r.log.base,r.log.snap.sv,ye,ya,ys,yd])) ⟨ye,ya,ys,yd,.nsl,trim o n2,by rw[hT]<;>rfl,λj hj=>hz3 j (by omega),by rw[hT];exact hT4.keep λt h6 h7=>hput t (by omega),by rw[hT];exact⟨[],.inl ⟨.inl rfl,rfl⟩,trivial⟩⟩
 have hvoidH:=Hide.mk hvoid;clear hvoid;have hno:okB r m=false->Qfo r m=(r,[]):=λh=>by unfold Qfo;rw[h];rfl
 have hnoH:=Hide.mk hno;clear hno;refine hM.q0 g3.free (RepS.mono u3 s1) ?_;rintro v n3 l3 rfl;rcases ok_cases (repB r) (msgB m) (decide (m.frm<0)) (decide (r.nodes<=m.frm)) (decide (m.frm=r.me)) (decide (m.to=r.me)) (decide (m.view<r.view))with⟨h1,hO⟩|⟨h1,h2,hO⟩|⟨h1,h2,h3,hO⟩|⟨h1,h2,h3,h4,hO⟩|⟨h1,h2,h3,h4,h5,hO⟩|⟨h1,h2,h3,h4,h5,h6,hO⟩|⟨h1,h2,h3,h4,h5,h6,h7,hO⟩|⟨h1,h2,h3,h4,h5,h6,h7,hO⟩
 ·have hk2:=hvoidH.out m3 n3 ((Gr.refl g3.free).le2 l3) (hnoH.out hO);clear hO;simp only[↓E1,E4,seval, *];all_goals exact hk2
 ·have hk2:=λn' (hn:n3<=n')=>hvoidH.out m3 n' ((Gr.refl g3.free).le2 (Nat.le_trans l3 hn)) (hnoH.out hO);have hk3:=Hide.mk hk2;clear hO hk2;simp only[↓E1,E4,seval, *];refine hG.q0 (g3.free.le l3) (MsgS.mono u3 s2) ?_;rintro v n4 l4 rfl;try simp only[↓E1,E4,seval, *]
  all_goals exact hk3.out _ l4
 ·have hk2:=λn' (hn:n3<=n')=>hvoidH.out m3 n' ((Gr.refl g3.free).le2 (Nat.le_trans l3 hn)) (hnoH.out hO);have hk3:=Hide.mk hk2;clear hO hk2;simp only[↓E1,E4,seval, *];refine hG.q0 (g3.free.le l3) (MsgS.mono u3 s2) ?_;rintro v n4 l4 rfl;try simp only[↓E1,E4,seval, *]
  all_goals exact hk3.out _ l4
 ·have hk2:=λn' (hn:n3<=n')=>hvoidH.out m3 n' ((Gr.refl g3.free).le2 (Nat.le_trans l3 hn)) (hnoH.out hO);have hk3:=Hide.mk hk2;clear hO hk2;simp only[↓E1,E4,seval, *];refine hG.q0 (g3.free.le l3) (MsgS.mono u3 s2) ?_;rintro v n4 l4 rfl;try simp only[↓E1,E4,seval, *]
  all_goals exact hk3.out _ l4
 ·have hk2:=λn' (hn:n3<=n')=>hvoidH.out m3 n' ((Gr.refl g3.free).le2 (Nat.le_trans l3 hn)) (hnoH.out hO);have hk3:=Hide.mk hk2;clear hO hk2;simp only[↓E1,E4,seval, *];refine hG.q0 (g3.free.le l3) (MsgS.mono u3 s2) ?_;rintro v n4 l4 rfl;try simp only[↓E1,E4,seval, *]
  all_goals exact hk3.out _ l4
 ·have hk2:=λn' (hn:n3<=n')=>hvoidH.out m3 n' ((Gr.refl g3.free).le2 (Nat.le_trans l3 hn)) (hnoH.out hO);have hk3:=Hide.mk hk2;clear hO hk2;simp only[↓E1,E4,seval, *];refine hG.q0 (g3.free.le l3) (MsgS.mono u3 s2) ?_;rintro v n4 l4 rfl;try simp only[↓E1,E4,seval, *]
  all_goals exact hk3.out _ l4
 ·have hk2:=λn' (hn:n3<=n')=>hvoidH.out m3 n' ((Gr.refl g3.free).le2 (Nat.le_trans l3 hn)) (hnoH.out hO);have hk3:=Hide.mk hk2;clear hO hk2;simp only[↓E1,E4,seval, *];refine hG.q0 (g3.free.le l3) (MsgS.mono u3 s2) ?_;rintro v n4 l4 rfl;try simp only[↓E1,E4,seval, *]
  all_goals exact hk3.out _ l4
 ·have hOH:=Hide.mk hO;clear hO;simp only[↓E1,E4,seval, *];refine hG.q0 (g3.free.le l3) (MsgS.mono u3 s2) ?_;rintro v n4 l4 rfl;simp only[↓E1,E4,seval, *];refine hC.c1 ((g3.free.le l3).le l4) (RepS.mono u3 s1) ?_;rintro v m6 n6 g6 ⟨ze,za,zs,zd,o6,rfl,ho6,hT6⟩;have l6:=g6.le;obtain⟨⟨es,t1,t2⟩,t3,t4,ds,t5,t6⟩:=hT6;have hT6:RepT o6 (with' m6 fz) r ze za zs zd:=⟨⟨es,t1,t2⟩,t3,t4,ds,t5,t6⟩
  obtain⟨-,-,zek,zem⟩:=t1.len;obtain⟨-,-,zak,zam⟩:=SlX.len t3;obtain⟨-,-,zsk,zsm⟩:=SlX.len t4;obtain⟨-,-,zdk,zdm⟩:=SlX.len t5;have S7:=SW.ofCopy (lo:=n4) g6.free (λj hj=>hfr.fz j (by omega)) l6 ho6 hT6;have g7:Gr n4 fz m3 ((n6,stepC r ze za zs zd .nsl false)::m6) n4 (n6+1):=g6.cons l6 _;clear t1 t2 t3 t4 t5 t6 hT6 hM hC hG;have hcellr:stepC r ze za zs zd .nsl false=[I r.me,I r.nodes,I r.view,I r.normal,I r.status,I r.commit,.bool r.sent,I r.log.base,r.log.snap.sv,ze,za,zs,zd,.nsl,.bool false]:=rfl;rw[hcellr]at S7 g7;clear hcellr;have e2:=(g7.own (n+1) (by omega)).trans d2;have e3:=(g7.own (n+2) (by omega)).trans d3;have e4:=(g7.own n2 (by omega)).trans d4;obtain⟨N,hN,hN1,h1N,hN7⟩:=rep_N h1;have hNH:=Hide.mk hN;have hN1H:=Hide.mk hN1;clear hN hN1;obtain⟨hs1,hs2,hs3⟩:=hsl h1;have hlow:∀j B,with' mu fz j=some B->Low n4 (with' ((n6,[I r.me,I r.nodes,I r.view,I r.normal,I r.status,I r.commit,.bool r.sent,I r.log.base,r.log.snap.sv,ze,za,zs,zd,.nsl,.bool false])::m6) fz) j=some B:=λj B hj=>by
   have p:=hfr.lt hj;unfold Low;rw[if_pos (by omega),g7.ext j (by omega)];exact u3 _ _ hj
  clear w1 w2 w3 w4;simp only[↓E1,E4,seval, *];obtain⟨m7,hm7⟩:∃z,((n6,[I r.me,I r.nodes,I r.view,I r.normal,I r.status,I r.commit,.bool r.sent,I r.log.base,r.log.snap.sv,ze,za,zs,zd,.nsl,.bool false])::m6)=z:=⟨_,rfl⟩
  rw[hm7]at S7 g7 e2 e3 e4 hlow;rw[hm7];clear hm7;have hv0:r.view<=m.view:=by have:=of_decide_eq_false h7;omega
  have hf0:0<=m.frm:=by have:=of_decide_eq_false h3;omega
  have hfN:m.frm.toNat<r.acks.length:=by rw[hs3];have:=of_decide_eq_false h4;omega
  have hms:MsgS (with' m7 fz) m zb zm:=MsgS.mono (λj B hj=>(Low.sub _ _ (hlow j B hj))) s2;have hml:EntsR (Low n4 (with' m7 fz)) zm m.log.ents:=EntsR.mono hlow s2.2;have hbb:Ev.look m7 (n+1)=some (msgC m zb zm):=by unfold msgC;exact e2
  refine Quc H S7 m zb zm (b:=n+1) (q:=n+2) (ob:=n2) hbb h1 hv0 h5 hf0 hfN hms hyf hml hmz hok1 hok2 hok3 hz hNH.out hN7 h1N hs1 hs2 (by simp[updN,updE,envI]) (by simp[updN,updE,envI]) (by simp[updN,updE,envI]) (by simp[updN,updE,envI]) (by simp[updN,updE,envI]) λm8 n8 o8 xe8 xa8 xs8 xd8 xo8 e' S8 g8 f4 f5 f6 f7=>?_;have g78:=g7.trans g8;have i3:=(g78.own (n+2) (by omega)).trans d3;have i4:=(g78.own n2 (by omega)).trans d4;have ln8:=g8.le;have hR:Qfo r m=(if(actS r m N).2.2 then(r,[])else((actS r m N).1,(actS r m N).2.1)):=by unfold Qfo;rw[show okB r m=true from hOH.out,if_pos rfl,hN1H.out]
  refine Qrc S8 (q:=n+2) (ob:=n2) i3 i4 ⟨⟨yek,yem⟩,⟨yak,yam⟩,⟨ysk,ysm⟩,ydk,ydm⟩ (by omega) (by omega) f4 f5 f6 f7 (λhv=>?_) (λhv=>?_)
  ·exact hvoidH.out m8 n8 ⟨by have:=g78.le;omega,λid h=>g78.ext id (by omega),λid h=>g78.own id (by omega),g78.free⟩ (by rw[hR,hv];rfl)
  ·have hT:Qfo r m=((actS r m N).1,(actS r m N).2.1):=by rw[hR,hv];rfl
   have S':=S8.put0 (c:=[I (actS r m N).1.me,I (actS r m N).1.nodes,I (actS r m N).1.view,I (actS r m N).1.normal,I (actS r m N).1.status,I (actS r m N).1.commit,.bool (actS r m N).1.sent,I (actS r m N).1.log.base,(actS r m N).1.log.snap.sv,xe8,xa8,xs8,xd8]) i3 (S8.zero _ (by omega));have g':Gr n fz mu (putS m8 (n+2) [I (actS r m N).1.me,I (actS r m N).1.nodes,I (actS r m N).1.view,I (actS r m N).1.normal,I (actS r m N).1.status,I (actS r m N).1.commit,.bool (actS r m N).1.sent,I (actS r m N).1.log.base,(actS r m N).1.log.snap.sv,xe8,xa8,xs8,xd8]) n n8:=(g3.trans ⟨by have:=g78.le;omega,λid h=>g78.ext id (by omega),λid h=>g78.own id (by omega),g78.free⟩).put (id:=n+2) (by omega) i3;have hX:=look_kc (c:=[I (actS r m N).1.me,I (actS r m N).1.nodes,I (actS r m N).1.view,I (actS r m N).1.normal,I (actS r m N).1.status,I (actS r m N).1.commit,.bool (actS r m N).1.sent,I (actS r m N).1.log.base,(actS r m N).1.log.snap.sv,xe8,xa8,xs8,xd8]) i3;have hXw:=Ql3 (fz:=fz) hX;exact hkH.out _ _ _ (g'.congr hX) ⟨xe8,xa8,xs8,xd8,xo8,o8,by rw[hT]<;>rfl,λj hj=>S8.zero j (by omega),by rw[hT,hXw];exact S'.rt,by rw[hT,hXw];exact S'.ot⟩
end
theorem Qsg {me k:Int}:∀{l:List Int} {last:Int},Qf8 me k last l=true->(∀x∈l,last<x/\x<k)/\l.Pairwise (· <·)/\l.length<=(k-(last+1)).toNat:=by
 intro l;induction l with
 |nil=>intro last _;exact⟨λx h=>by(cases h),List.Pairwise.nil,by simp⟩
 |cons a l ih=>
  intro last h;unfold Qf8 at h;simp only[Bool.and_eq_true,decide_eq_true_eq]at h;obtain⟨⟨⟨h1,h2⟩,-⟩,h3⟩:=h;obtain⟨i1,i2,i3⟩:=ih h3;refine⟨λx hx=>?_,List.pairwise_cons.2 ⟨λx hx=>(i1 x hx).1,i2⟩,?_⟩
  ·rcases List.mem_cons.1 hx with rfl|hx
   ·exact⟨h1,h2⟩
   ·have:=i1 x hx;omega
  ·simp only[List.length_cons];omega
theorem Qmb {r:Rep} (h:repB r=true):(r.starts.length<=1000/\r.dos.length<=1000/\r.acks.length=r.nodes.toNat)/\r.starts.Pairwise (· <·)/\(r.dos.map (·.frm)).Pairwise (· <·):=by
 obtain⟨N,h1,h2,h3,h4⟩:=rep_N h;unfold repB at h;simp only[Bool.and_eq_true,decide_eq_true_eq]at h;obtain⟨⟨⟨⟨⟨⟨-,ha⟩,-⟩,-⟩,hs⟩,hd⟩,-⟩:=h;obtain⟨-,p1,p2⟩:=Qsg hs;obtain⟨-,q1,q2⟩:=Qsg hd;rw[List.length_map]at q2;exact⟨⟨by omega,by omega,by omega⟩,p1,q1⟩
def Qvb (P:Program):Prop:=∀{lo:Nat} {fz:Fz} {s:Nat} {o:Nat->Nat} {mu:St} {n:Nat} {r:Rep} {out:List Msg} {xe xa xs xd xo:SV} (S:SW lo fz s o mu n r out false xe xa xs xd xo) (m:Msg) (yb ye:SV) (hm:MsgS (with' mu fz) m yb ye) (hml:EntsR (Low lo (with' mu fz)) ye m.log.ents) (hmz:MsgSz m) {N:Nat} (hN:r.nodes=(N:Int)) (hN7:N<=7) (h1N:1<=N) (hz:RepSz r) (hdl:r.dos.length<=1000) (hdr:(r.dos.map (·.frm)).Pairwise (· <·)) (hl:out.length<=800) {k:KT Prop} {w:WK k}
    (hk:∀mu' n' o' xe' xa' xs' xd' xo',SW lo fz s o' mu' n' (doS r m N).1 (out++(doS r m N).2.1) (doS r m N).2.2 xe' xa' xs' xd' xo'->Kp TN s o o' mu n mu' n'->k noVal mu' n'),CPh P n_Qa8 [.one (.optr s 0),.ag (msgC m yb ye)] fz mu n k w
def rs_sw:ACode:=match b_Qb2 with|.seq _ (.seq _ (.seq _ (.seq _ c)))=>c|c=>c
def Qtd:ACode:=match rs_sw with|.seq _ c=>c|c=>c
def rs_w (t:ACode):ACode:=match rs_sw with|.seq a _=>.seq a t|c=>c
def rs_h (t:ACode):ACode:=match b_Qb2 with|.seq a (.seq b (.seq c (.seq d _)))=>.seq a (.seq b (.seq c (.seq d t)))|c=>c
theorem rs_eq:b_Qb2=rs_h rs_sw:=rfl
theorem rs_sweq:rs_sw=rs_w Qtd:=rfl
section
variable {P:Program} (H:Fs P)
include H
theorem recv_sw (hS:SortC P) (hI:InsC P) (hV:Qvb P) {lo:Nat} {fz:Fz} {s:Nat} {o:Nat->Nat} {mu:St} {n:Nat} {r:Rep} {xe xa xs xd xo:SV} (S:SW lo fz s o mu n r [] false xe xa xs xd xo) (m:Msg) (yb ye:SV) {b q rb:Nat} (hb:Ev.look mu b=some (msgC m yb ye)) (hr:repB r=true) (hv:r.view<=m.view) (hfm:decide (m.frm=r.me)=false) (hf0:0<=m.frm) (hfN:m.frm.toNat<r.acks.length) (hm:MsgS (with' mu fz) m yb ye) (hml:EntsR (Low lo (with' mu fz)) ye m.log.ents) (hmz:MsgSz m) (hz:RepSz r) {N:Nat} (hN:r.nodes=(N:Int)) (hN7:N<=7) (h1N:1<=N) {fu:Nat} {e:Nat->Nat->AV} (e2:e 0 2=.one (.optr rb 0)) (e3:e 0 3=.one (.optr b 0)) (e4:e 0 4=.one (.optr q 0)) (e5:e 0 5=.one .nsl) (e6:e 0 6=.one (.optr s 0)) (e7:e 0 7=.one (I (prim m.view r.nodes))) {K:LK}
 (hk:∀mu' n' o' xe' xa' xs' xd' xo' (e':Nat->Nat->AV),SW lo fz s o' mu' n' (actS r m N).1 (actS r m N).2.1 (actS r m N).2.2 xe' xa' xs' xd' xo'->Gr lo fz mu mu' n n'->e' 0 2=.one (.optr rb 0)->e' 0 4=.one (.optr q 0)->e' 0 5=.one .nsl->e' 0 6=.one (.optr s 0)->dcode pOrc False (CP P) fz fu Qtd (tmE 146 e') mu' n' K):
 dcode pOrc False (CP P) fz fu rs_sw (tmE 146 e) mu n K:=by
 have hkH:=Hide.mk hk;have hNH:=Hide.mk hN;clear hk hN;obtain⟨-,-,ybk,ybm⟩:=hm.1.len;obtain⟨-,-,yek,yem⟩:=hm.2.len;have wb:=Qem (fz:=fz) hb;have ws:=Qem (fz:=fz) S.cells;have hl:=Qiw hr;obtain⟨⟨hs1,hs2,-⟩,hp1,hp2⟩:=Qmb hr;obtain⟨⟨xek,xem⟩,⟨xak,xam⟩,⟨xsk,xsm⟩,⟨xdk,xdm⟩,xok,xom⟩:=S.ks;unfold msgC at wb;unfold stepC repC at ws;have stay:Hide (∀(e':Nat->Nat->AV) n',n<=n'->actS r m N=(r,[],false)->e' 0 2=.one (.optr rb 0)->e' 0 4=.one (.optr q 0)->e' 0 5=.one .nsl->e' 0 6=.one (.optr s 0)->dcode pOrc False (CP P) fz fu Qtd (tmE 146 e') mu n' K):=⟨λe' n' hn hA f2 f4 f5 f6=>by
  have hk:=hkH.out;rw[hA]at hk;exact hk _ _ _ _ _ _ _ _ e' (S.le hn) ((Gr.refl S.free).le2 hn) f2 f4 f5 f6⟩
 rw[rs_sweq];unfold rs_w rs_sw b_Qb2;refine dW ?_;rcases Qnx m.kind with(hkd|hkd)|hkd|hkd|hkd|(hkd|hkd)|hkd|⟨k1,k2,k3,k4,k5,k6,k7,k8⟩
 ·cases h0:decide (m.frm=prim m.view r.nodes)with
  |false=>
   have hAH:=Hide.mk (show actS r m N=(r,[],false) by unfold actS Qg5;rw[hkd,h0];rfl);rw[hkd]at wb;simp only[↓E1,E4,seval, *];refine stay.out _ _ (Nat.le_refl _) hAH.out ?_ ?_ ?_ ?_;all_goals (first|rfl|simp[updN,updE, *])
  |true=>
   have hAH:=Hide.mk (show actS r m N=((Qf7 r m N).1,(Qf7 r m N).2,false) by unfold actS Qg5;rw[hkd,h0];rfl);have hP:=λ(k:KT Prop) (w:WK k)=>Qm7 H S m yb ye hm hmz hr hv hNH.out hN7 (by simp) (k:=k) (w:=w);unfold msgC at hP;rw[hkd]at hP wb;simp only[↓E1,E4,seval, *];refine hP _ _ λm2 n2 o2 xe2 xa2 xs2 xd2 xo2 S2 K2=>?_;try simp only[↓E1,E4,seval, *]
   have hk:=hkH.out;rw[hAH.out]at hk;try simp only[List.nil_append,Bool.false_or]at S2
   refine hk _ _ _ _ _ _ _ _ _ S2 (K2.gr S2.free S.los S.lon S.zero (by unfold T71;omega)) ?_ ?_ ?_ ?_;all_goals (first|rfl|simp[updN,updE, *])
 ·cases h0:decide (m.frm=prim m.view r.nodes)with
  |false=>
   have hAH:=Hide.mk (show actS r m N=(r,[],false) by unfold actS Qg5;rw[hkd,h0];rfl);rw[hkd]at wb;simp only[↓E1,E4,seval, *];refine stay.out _ _ (Nat.le_refl _) hAH.out ?_ ?_ ?_ ?_;all_goals (first|rfl|simp[updN,updE, *])
  |true=>
   have hAH:=Hide.mk (show actS r m N=((Qf7 r m N).1,(Qf7 r m N).2,false) by unfold actS Qg5;rw[hkd,h0];rfl);have hP:=λ(k:KT Prop) (w:WK k)=>Qm7 H S m yb ye hm hmz hr hv hNH.out hN7 (by simp) (k:=k) (w:=w);unfold msgC at hP;rw[hkd]at hP wb;simp only[↓E1,E4,seval, *];refine hP _ _ λm2 n2 o2 xe2 xa2 xs2 xd2 xo2 S2 K2=>?_;try simp only[↓E1,E4,seval, *]
   have hk:=hkH.out;rw[hAH.out]at hk;try simp only[List.nil_append,Bool.false_or]at S2
   refine hk _ _ _ _ _ _ _ _ _ S2 (K2.gr S2.free S.los S.lon S.zero (by unfold T71;omega)) ?_ ?_ ?_ ?_;all_goals (first|rfl|simp[updN,updE, *])
 ·skip
  have hAH:=Hide.mk (show actS r m N=(Qie r m,[],false) by unfold actS;rw[hkd];rfl);have hP:=λ(k:KT Prop) (w:WK k)=>Que H hS S m yb ye hm hf0 hfN hz.acks (k:=k) (w:=w);unfold msgC at hP;rw[hkd]at hP wb;simp only[↓E1,E4,seval, *];refine hP _ _ λm2 n2 S2 g2=>?_;try simp only[↓E1,E4,seval, *]
  have hk:=hkH.out;rw[hAH.out]at hk;try simp only[List.nil_append,Bool.false_or]at S2
  refine hk _ _ _ _ _ _ _ _ _ S2 g2 ?_ ?_ ?_ ?_;all_goals (first|rfl|simp[updN,updE, *])
 ·skip
  have hAH:=Hide.mk (show actS r m N=Qg1 r m N by unfold actS;rw[hkd];rfl);have hP:=λ(k:KT Prop) (w:WK k)=>Qp3 H hS hI S m yb ye hm hNH.out hN7 h1N hz hs1 hp1 (by simp) (k:=k) (w:=w);unfold msgC at hP;rw[hkd]at hP wb;simp only[↓E1,E4,seval, *];refine hP _ _ λm2 n2 o2 xe2 xa2 xs2 xd2 xo2 S2 K2=>?_;try simp only[↓E1,E4,seval, *]
  have hk:=hkH.out;rw[hAH.out]at hk;try simp only[List.nil_append,Bool.false_or]at S2
  refine hk _ _ _ _ _ _ _ _ _ S2 (K2.gr S2.free S.los S.lon S.zero (λh=>h rfl)) ?_ ?_ ?_ ?_;all_goals (first|rfl|simp[updN,updE, *])
 ·cases h0:decide (prim m.view r.nodes=r.me)with
  |false=>
   have hAH:=Hide.mk (show actS r m N=(r,[],false) by unfold actS doG;rw[hkd,h0];rfl);rw[hkd]at wb;simp only[↓E1,E4,seval, *];refine stay.out _ _ (Nat.le_refl _) hAH.out ?_ ?_ ?_ ?_;all_goals (first|rfl|simp[updN,updE, *])
  |true=>
   cases h2:decide (m.normal<m.view)with
   |false=>
    have hAH:=Hide.mk (show actS r m N=(r,[],false) by unfold actS doG;rw[hkd,h0,h2];rfl);rw[hkd]at wb;simp only[↓E1,E4,seval, *];refine stay.out _ _ (Nat.le_refl _) hAH.out ?_ ?_ ?_ ?_;all_goals (first|rfl|simp[updN,updE, *])
   |true=>
    have hAH:=Hide.mk (show actS r m N=doS r m N by unfold actS doG;rw[hkd,h0,h2];rfl);have hP:=λ(k:KT Prop) (w:WK k)=>hV S m yb ye hm hml hmz hNH.out hN7 h1N hz hs2 hp2 (by simp) (k:=k) (w:=w);unfold msgC at hP;rw[hkd]at hP wb;simp only[↓E1,E4,seval, *];refine hP _ _ λm2 n2 o2 xe2 xa2 xs2 xd2 xo2 S2 K2=>?_;try simp only[↓E1,E4,seval, *]
    have hk:=hkH.out;rw[hAH.out]at hk;try simp only[List.nil_append,Bool.false_or]at S2
    refine hk _ _ _ _ _ _ _ _ _ S2 (K2.gr S2.free S.los S.lon S.zero (λh=>h rfl)) ?_ ?_ ?_ ?_;all_goals (first|rfl|simp[updN,updE, *])
 ·cases h0:decide (m.frm=prim m.view r.nodes)with
  |false=>
   have hAH:=Hide.mk (show actS r m N=(r,[],false) by unfold actS setS;rw[hkd,h0];rfl);rw[hkd]at wb;simp only[↓E1,E4,seval, *];refine stay.out _ _ (Nat.le_refl _) hAH.out ?_ ?_ ?_ ?_;all_goals (first|rfl|simp[updN,updE, *])
  |true=>
   have hAH:=Hide.mk (show actS r m N=Qhp r m N by unfold actS setS;rw[hkd,h0];rfl);have hP:=λ(k:KT Prop) (w:WK k)=>Qn8 H S m yb ye hm hml hmz hNH.out hN7 (by simp) (k:=k) (w:=w);unfold msgC at hP;rw[hkd]at hP wb;simp only[↓E1,E4,seval, *];refine hP _ _ λm2 n2 o2 xe2 xa2 xs2 xd2 xo2 S2 K2=>?_;try simp only[↓E1,E4,seval, *]
   have hk:=hkH.out;rw[hAH.out]at hk;try simp only[List.nil_append,Bool.false_or]at S2
   refine hk _ _ _ _ _ _ _ _ _ S2 (K2.gr S2.free S.los S.lon S.zero (by unfold T71;omega)) ?_ ?_ ?_ ?_;all_goals (first|rfl|simp[updN,updE, *])
 ·cases h0:decide (m.frm=prim m.view r.nodes)with
  |false=>
   have hAH:=Hide.mk (show actS r m N=(r,[],false) by unfold actS setS;rw[hkd,h0];rfl);rw[hkd]at wb;simp only[↓E1,E4,seval, *];refine stay.out _ _ (Nat.le_refl _) hAH.out ?_ ?_ ?_ ?_;all_goals (first|rfl|simp[updN,updE, *])
  |true=>
   have hAH:=Hide.mk (show actS r m N=Qhp r m N by unfold actS setS;rw[hkd,h0];rfl);have hP:=λ(k:KT Prop) (w:WK k)=>Qn8 H S m yb ye hm hml hmz hNH.out hN7 (by simp) (k:=k) (w:=w);unfold msgC at hP;rw[hkd]at hP wb;simp only[↓E1,E4,seval, *];refine hP _ _ λm2 n2 o2 xe2 xa2 xs2 xd2 xo2 S2 K2=>?_;try simp only[↓E1,E4,seval, *]
   have hk:=hkH.out;rw[hAH.out]at hk;try simp only[List.nil_append,Bool.false_or]at S2
   refine hk _ _ _ _ _ _ _ _ _ S2 (K2.gr S2.free S.los S.lon S.zero (by unfold T71;omega)) ?_ ?_ ?_ ?_;all_goals (first|rfl|simp[updN,updE, *])
 ·have hNo:=replica_step_normal H s r xe xa xs xd xo false;rw[hkd]at wb;cases h0:leadB r with
  |false=>
   have hAH:=Hide.mk (show actS r m N=(r,[],false) by unfold actS askS;rw[hkd,h0];rfl);rw[h0]at hNo;simp only[↓E1,E4,seval, *];refine hNo.q1 S.free (Qem S.cells) ?_;rintro _ n2 l2 rfl;try simp only[↓E1,E4,seval, *]
   refine stay.out _ _ l2 hAH.out ?_ ?_ ?_ ?_;all_goals (first|rfl|simp[updN,updE, *])
  |true=>
   rw[h0]at hNo;cases h2:decide (m.view=r.view)with
   |false=>
    have hAH:=Hide.mk (show actS r m N=(r,[],false) by unfold actS askS;rw[hkd,h0,h2];rfl);simp only[↓E1,E4,seval, *];refine hNo.q1 S.free (Qem S.cells) ?_;rintro _ n2 l2 rfl;try simp only[↓E1,E4,seval, *]
    refine stay.out _ _ l2 hAH.out ?_ ?_ ?_ ?_;all_goals (first|rfl|simp[updN,updE, *])
   |true=>
    have hAH:=Hide.mk (show actS r m N=(r,[{giveM r with frm:=r.me,to:=m.frm}],false) by unfold actS askS;rw[hkd,h0,h2];rfl);simp only[↓E1,E4,seval, *];refine hNo.q1 S.free (Qem S.cells) ?_;rintro _ n2 l2 rfl;have hSd:=λ(k:KT Prop) (w:WK k)=>Qgc H (S.le l2) m.frm (giveM r) .nsl xe ⟨nilP _,S.rs.1⟩ (Qv6 hz.log) (by simp) (k:=k) (w:=w);try simp only[↓E1,E4,seval, *]
    refine hSd _ _ λm3 n3 o3 xo3 S3 K3=>?_;try simp only[↓E1,E4,seval, *]
    have hk:=hkH.out;rw[hAH.out]at hk;try simp only[List.nil_append]at S3
    refine hk _ _ _ _ _ _ _ _ _ S3 ((K3.lo l2).gr S3.free S.los S.lon S.zero (by omega)) ?_ ?_ ?_ ?_;all_goals (first|rfl|simp[updN,updE, *])
 ·have hAH:=Hide.mk (show actS r m N=(r,[],false) by unfold actS;rw[k1,k2,k3,k4,k5,k6,k7,k8];rfl);simp only[↓E1,E4,seval, *];refine stay.out _ _ (Nat.le_refl _) hAH.out ?_ ?_ ?_ ?_;all_goals (first|rfl|simp[updN,updE, *])
end
theorem Qxd {m:Msg} (h:msgB m=true):0<=m.frm:=by
 have hw:whoB m.kind m.frm m.to=true:=by
  cases e:whoB m.kind m.frm m.to
  ·unfold msgB at h;rw[e]at h;simp only[Bool.and_false,Bool.false_and]at h;cases h
  ·rfl
 unfold whoB at hw;simp only[Bool.and_eq_true]at hw;obtain⟨h1,-⟩:=hw;split at h1
 ·simp[Qgs]at h1;omega
 ·simp[isNode]at h1;omega
theorem Qvg (r:Rep) (m:Msg):(repB r=false/\okB r m=false)\/(repB r=true/\msgB m=false/\okB r m=false)\/(repB r=true/\msgB m=true/\decide (m.frm=r.me)=true/\okB r m=false)\/
 (repB r=true/\msgB m=true/\decide (m.frm=r.me)=false/\decide (r.nodes<=m.frm)=true/\okB r m=false)\/(repB r=true/\msgB m=true/\decide (m.frm=r.me)=false/\decide (r.nodes<=m.frm)=false/\decide (m.to=r.me)=false/\okB r m=false)\/
 (repB r=true/\msgB m=true/\decide (m.frm=r.me)=false/\decide (r.nodes<=m.frm)=false/\decide (m.to=r.me)=true/\decide (m.view<r.view)=true/\okB r m=false)\/
 (repB r=true/\msgB m=true/\decide (m.frm=r.me)=false/\decide (r.nodes<=m.frm)=false/\decide (m.to=r.me)=true/\decide (m.view<r.view)=false/\okB r m=true):=by
 unfold okB;cases h1:repB r
 ·exact .inl ⟨rfl,rfl⟩
 cases h2:msgB m
 ·exact .inr (.inl ⟨rfl,rfl,rfl⟩)
 have h3:decide (m.frm<0)=false:=decide_eq_false (by have:=Qxd h2;omega);rw[h3];cases decide (m.frm=r.me)<;>cases decide (r.nodes<=m.frm)<;>cases decide (m.to=r.me)<;>cases decide (m.view<r.view)<;>simp
section
variable {P:Program} (H:Fs P)
include H
theorem replica_Receive (hS:SortC P) (hI:InsC P) (hV:Qvb P) (r:Rep) (xe xa xs xd:SV) (m:Msg) (zb zm:SV) (hz:RepSz r) (hmz:MsgSz m):Ctr P n_Qb2 [.ag (repC r xe xa xs xd),.ag (msgC m zb zm)] (λM=>RepS M r xe xa xs xd/\MsgS M m zb zm) (λn _ M v=>StepP (Qfo r m) n M v):=Ctr.of H.mx H.Qb2 (λ_=>0) λfz mu n k hfr s hk=>by
 obtain⟨s1,s2⟩:=s;obtain⟨-,-,xek,xem⟩:=s1.1.len;obtain⟨-,-,xak,xam⟩:=s1.2.1.len;obtain⟨-,-,xsk,xsm⟩:=s1.2.2.1.len;obtain⟨-,-,xdk,xdm⟩:=s1.2.2.2.len;obtain⟨-,-,zbk,zbm⟩:=s2.1.len;obtain⟨-,-,zmk,zmm⟩:=s2.2.len;have hM:=replica_May H r xe xa xs xd (RepSz.s r hz).1 (RepSz.s r hz).2.1 (RepSz.s r hz).2.2;have hG:=message_May H m zb zm;have hC:=replica_Clone H r xe xa xs xd hz;have hB:=replica_begin H r xe xa xs xd hz;have hkH:=Hide.mk hk;clear hk;unfold repC at hM hC hB⊢;unfold msgC at hG⊢;rw[i_Qb2,dc_at rs_eq];unfold rs_h b_Qb2;refine dW ?_;simp only[↓E1,E4,seval, *];refine CPr.abs3 hfr λm1 n1 g1 l1 b1 b2 b3=>?_;have u1:=g1.sub hfr (Nat.le_refl _);have w1:=Qem (fz:=fz) b1;have w2:=Qem (fz:=fz) b2;have w3:=Qem (fz:=fz) b3;have hno:okB r m=false->Qfo r m=(r,[]):=λh=>by unfold Qfo;rw[h];rfl
 have hnoH:=Hide.mk hno;clear hno;have hout:∀(q:Rep) (ya yb yc yd xo:SV) (o:Nat->Nat) (mm:St) (n':Nat) (out:List Msg),Gr n fz mu mm n n'->Ev.look mm (n+2)=some [I 0,I 0,I 0,I 0,I 0,I 0,.bool false,I 0,.str 0 0,.nsl,.nsl,.nsl,.nsl]->(∀j,j<n1->o j=0)->RepT o (with' mm fz) q ya yb yc yd->OutT o (with' mm fz) xo out->Qfo r m=(q,out)->k (.tp [.ag (repC q ya yb yc yd),.one xo]) (putS mm (n+2) (repC q ya yb yc yd)) n':=λq ya yb yc yd xo o mm n' out g d ho hT hO hR=>by
  have u:∀t,t≠0->Sub (Tag o t (with' mm fz)) (Tag o t (with' (putS mm (n+2) (repC q ya yb yc yd)) fz)):=λt ht=>Tag.put (lookI d) (by rw[ho _ (by omega)];omega);exact hkH.out _ _ _ (g.put (id:=n+2) (by omega) d) ⟨ya,yb,yc,yd,xo,o,by rw[hR]<;>rfl,λj hj=>ho j (by omega),by rw[hR];exact hT.keep λt h6 h7=>u t (by omega),by rw[hR];exact hO.keep (u 2 (by omega)) (u 7 (by omega)) (u 8 (by omega))⟩
 have houtH:=Hide.mk hout;clear hout;refine hM.q0 g1.free (RepS.mono u1 s1) ?_;rintro v n3 l3 rfl;rcases Qvg r m with⟨h1,hO⟩|⟨h1,h2,hO⟩|⟨h1,h2,h3,hO⟩|⟨h1,h2,h3,h4,hO⟩|⟨h1,h2,h3,h4,h5,hO⟩|⟨h1,h2,h3,h4,h5,h6,hO⟩|⟨h1,h2,h3,h4,h5,h6,hO⟩
 ·have hOH:=Hide.mk (hnoH.out hO);clear hO;simp only[↓E1,E4,seval, *];refine hC.c1 (g1.free.le l3) (RepS.mono u1 s1) ?_;rintro v m6 n6 g6 ⟨ya,yb,yc,yd,o,rfl,ho,hT⟩;have l6:=g6.le;have d3:=(g6.own (n+2) (by omega)).trans b3;obtain⟨⟨es,t1,t2⟩,t3,t4,ds,t5,t6⟩:=hT;have hT:RepT o (with' m6 fz) r ya yb yc yd:=⟨⟨es,t1,t2⟩,t3,t4,ds,t5,t6⟩
  obtain⟨-,-,yek,yem⟩:=t1.len;obtain⟨-,-,yak,yam⟩:=SlX.len t3;obtain⟨-,-,ysk,ysm⟩:=SlX.len t4;obtain⟨-,-,ydk,ydm⟩:=SlX.len t5;have hk2:=houtH.out r ya yb yc yd .nsl o m6 n6 [] ((g1.le2 l3).trans (g6.weaken (by omega))) d3 (λj hj=>ho j (by omega)) hT ⟨[],.inl ⟨.inl rfl,rfl⟩,trivial⟩ hOH.out;unfold repC at hk2;clear t1 t2 t3 t4 t5 t6 hT w1 w2 w3;simp only[↓E1,E4,seval, *];all_goals exact hk2
 ·have hOH:=Hide.mk (hnoH.out hO);clear hO;simp only[↓E1,E4,seval, *];refine hG.q0 (g1.free.le l3) (MsgS.mono u1 s2) ?_;rintro v n4 l4 rfl;try simp only[↓E1,E4,seval, *]
  refine hC.c1 ((g1.free.le l3).le l4) (RepS.mono u1 s1) ?_;rintro v m6 n6 g6 ⟨ya,yb,yc,yd,o,rfl,ho,hT⟩;have l6:=g6.le;have d3:=(g6.own (n+2) (by omega)).trans b3;obtain⟨⟨es,t1,t2⟩,t3,t4,ds,t5,t6⟩:=hT;have hT:RepT o (with' m6 fz) r ya yb yc yd:=⟨⟨es,t1,t2⟩,t3,t4,ds,t5,t6⟩
  obtain⟨-,-,yek,yem⟩:=t1.len;obtain⟨-,-,yak,yam⟩:=SlX.len t3;obtain⟨-,-,ysk,ysm⟩:=SlX.len t4;obtain⟨-,-,ydk,ydm⟩:=SlX.len t5;have hk2:=houtH.out r ya yb yc yd .nsl o m6 n6 [] ((g1.le2 (Nat.le_trans l3 l4)).trans (g6.weaken (by omega))) d3 (λj hj=>ho j (by omega)) hT ⟨[],.inl ⟨.inl rfl,rfl⟩,trivial⟩ hOH.out;unfold repC at hk2;clear t1 t2 t3 t4 t5 t6 hT w1 w2 w3;simp only[↓E1,E4,seval, *];all_goals exact hk2
 ·have hOH:=Hide.mk (hnoH.out hO);clear hO;simp only[↓E1,E4,seval, *];refine hG.q0 (g1.free.le l3) (MsgS.mono u1 s2) ?_;rintro v n4 l4 rfl;try simp only[↓E1,E4,seval, *]
  refine hC.c1 ((g1.free.le l3).le l4) (RepS.mono u1 s1) ?_;rintro v m6 n6 g6 ⟨ya,yb,yc,yd,o,rfl,ho,hT⟩;have l6:=g6.le;have d3:=(g6.own (n+2) (by omega)).trans b3;obtain⟨⟨es,t1,t2⟩,t3,t4,ds,t5,t6⟩:=hT;have hT:RepT o (with' m6 fz) r ya yb yc yd:=⟨⟨es,t1,t2⟩,t3,t4,ds,t5,t6⟩
  obtain⟨-,-,yek,yem⟩:=t1.len;obtain⟨-,-,yak,yam⟩:=SlX.len t3;obtain⟨-,-,ysk,ysm⟩:=SlX.len t4;obtain⟨-,-,ydk,ydm⟩:=SlX.len t5;have hk2:=houtH.out r ya yb yc yd .nsl o m6 n6 [] ((g1.le2 (Nat.le_trans l3 l4)).trans (g6.weaken (by omega))) d3 (λj hj=>ho j (by omega)) hT ⟨[],.inl ⟨.inl rfl,rfl⟩,trivial⟩ hOH.out;unfold repC at hk2;clear t1 t2 t3 t4 t5 t6 hT w1 w2 w3;simp only[↓E1,E4,seval, *];all_goals exact hk2
 ·have hOH:=Hide.mk (hnoH.out hO);clear hO;simp only[↓E1,E4,seval, *];refine hG.q0 (g1.free.le l3) (MsgS.mono u1 s2) ?_;rintro v n4 l4 rfl;try simp only[↓E1,E4,seval, *]
  refine hC.c1 ((g1.free.le l3).le l4) (RepS.mono u1 s1) ?_;rintro v m6 n6 g6 ⟨ya,yb,yc,yd,o,rfl,ho,hT⟩;have l6:=g6.le;have d3:=(g6.own (n+2) (by omega)).trans b3;obtain⟨⟨es,t1,t2⟩,t3,t4,ds,t5,t6⟩:=hT;have hT:RepT o (with' m6 fz) r ya yb yc yd:=⟨⟨es,t1,t2⟩,t3,t4,ds,t5,t6⟩
  obtain⟨-,-,yek,yem⟩:=t1.len;obtain⟨-,-,yak,yam⟩:=SlX.len t3;obtain⟨-,-,ysk,ysm⟩:=SlX.len t4;obtain⟨-,-,ydk,ydm⟩:=SlX.len t5;have hk2:=houtH.out r ya yb yc yd .nsl o m6 n6 [] ((g1.le2 (Nat.le_trans l3 l4)).trans (g6.weaken (by omega))) d3 (λj hj=>ho j (by omega)) hT ⟨[],.inl ⟨.inl rfl,rfl⟩,trivial⟩ hOH.out;unfold repC at hk2;clear t1 t2 t3 t4 t5 t6 hT w1 w2 w3;simp only[↓E1,E4,seval, *];all_goals exact hk2
 ·have hOH:=Hide.mk (hnoH.out hO);clear hO;simp only[↓E1,E4,seval, *];refine hG.q0 (g1.free.le l3) (MsgS.mono u1 s2) ?_;rintro v n4 l4 rfl;try simp only[↓E1,E4,seval, *]
  refine hC.c1 ((g1.free.le l3).le l4) (RepS.mono u1 s1) ?_;rintro v m6 n6 g6 ⟨ya,yb,yc,yd,o,rfl,ho,hT⟩;have l6:=g6.le;have d3:=(g6.own (n+2) (by omega)).trans b3;obtain⟨⟨es,t1,t2⟩,t3,t4,ds,t5,t6⟩:=hT;have hT:RepT o (with' m6 fz) r ya yb yc yd:=⟨⟨es,t1,t2⟩,t3,t4,ds,t5,t6⟩
  obtain⟨-,-,yek,yem⟩:=t1.len;obtain⟨-,-,yak,yam⟩:=SlX.len t3;obtain⟨-,-,ysk,ysm⟩:=SlX.len t4;obtain⟨-,-,ydk,ydm⟩:=SlX.len t5;have hk2:=houtH.out r ya yb yc yd .nsl o m6 n6 [] ((g1.le2 (Nat.le_trans l3 l4)).trans (g6.weaken (by omega))) d3 (λj hj=>ho j (by omega)) hT ⟨[],.inl ⟨.inl rfl,rfl⟩,trivial⟩ hOH.out;unfold repC at hk2;clear t1 t2 t3 t4 t5 t6 hT w1 w2 w3;simp only[↓E1,E4,seval, *];all_goals exact hk2
 ·have hOH:=Hide.mk (hnoH.out hO);clear hO;simp only[↓E1,E4,seval, *];refine hG.q0 (g1.free.le l3) (MsgS.mono u1 s2) ?_;rintro v n4 l4 rfl;try simp only[↓E1,E4,seval, *]
  refine hC.c1 ((g1.free.le l3).le l4) (RepS.mono u1 s1) ?_;rintro v m6 n6 g6 ⟨ya,yb,yc,yd,o,rfl,ho,hT⟩;have l6:=g6.le;have d3:=(g6.own (n+2) (by omega)).trans b3;obtain⟨⟨es,t1,t2⟩,t3,t4,ds,t5,t6⟩:=hT;have hT:RepT o (with' m6 fz) r ya yb yc yd:=⟨⟨es,t1,t2⟩,t3,t4,ds,t5,t6⟩
  obtain⟨-,-,yek,yem⟩:=t1.len;obtain⟨-,-,yak,yam⟩:=SlX.len t3;obtain⟨-,-,ysk,ysm⟩:=SlX.len t4;obtain⟨-,-,ydk,ydm⟩:=SlX.len t5;have hk2:=houtH.out r ya yb yc yd .nsl o m6 n6 [] ((g1.le2 (Nat.le_trans l3 l4)).trans (g6.weaken (by omega))) d3 (λj hj=>ho j (by omega)) hT ⟨[],.inl ⟨.inl rfl,rfl⟩,trivial⟩ hOH.out;unfold repC at hk2;clear t1 t2 t3 t4 t5 t6 hT w1 w2 w3;simp only[↓E1,E4,seval, *];all_goals exact hk2
 ·have hOH:=Hide.mk hO;clear hO;simp only[↓E1,E4,seval, *];refine hG.q0 (g1.free.le l3) (MsgS.mono u1 s2) ?_;rintro v n4 l4 rfl;try simp only[↓E1,E4,seval, *]
  have hf4:=(g1.free.le l3).le l4;refine hB.c1 hf4 (RepS.mono u1 s1) ?_;rintro v m6 n6 g6 ⟨s,o,ya,yb,yc,yd,hP⟩;have S7:=hP.sw hf4 g6;obtain rfl:=hP.val;have hz1:=hP.zero;have hle:=hP.le;have l6:=g6.le;have u6:=u1.trans (g6.sub hf4 (Nat.le_refl _));have g16:=(g1.le2 (Nat.le_trans l3 l4)).trans (g6.weaken (show n<=n4 by omega));have d1:=(g6.own n (by omega)).trans b1;have d2:=(g6.own (n+1) (by omega)).trans b2;have d3:=(g6.own (n+2) (by omega)).trans b3;clear w1 w2 w3 hM hG hC hB;have w1:=Qem (fz:=fz) d1;have w2:=Qem (fz:=fz) d2;have w3:=Qem (fz:=fz) d3;obtain⟨⟨yek,yem⟩,⟨yak,yam⟩,⟨ysk,ysm⟩,⟨ydk,ydm⟩,yok,yom⟩:=S7.ks;have ws:=Qem (fz:=fz) S7.cells;unfold stepC repC at ws;simp only[↓E1,E4,seval, *];refine(replica_Primary H _ _).q1 S7.free trivial ?_;rintro v n7 l7 rfl;have S8:=S7.le l7;try simp only[↓E1,E4,seval, *]
  obtain⟨N,hN,hN1,h1N,hN7⟩:=rep_N h1;have hNH:=Hide.mk hN;have hN1H:=Hide.mk hN1;clear hN hN1;obtain⟨⟨-,-,hs3⟩,-,-⟩:=Qmb h1;have hv0:r.view<=m.view:=by have:=of_decide_eq_false h6;omega
  have hf0:0<=m.frm:=Qxd h2;have hfN:m.frm.toNat<r.acks.length:=by rw[hs3];have:=of_decide_eq_false h4;omega
  have hlow:∀j B,with' mu fz j=some B->Low n4 (with' m6 fz) j=some B:=λj B hj=>by
   have p:=hfr.lt hj;unfold Low;rw[if_pos (by omega)];exact u6 _ _ hj
  have hms:MsgS (with' m6 fz) m zb zm:=MsgS.mono u6 s2;have hml:EntsR (Low n4 (with' m6 fz)) zm m.log.ents:=EntsR.mono hlow s2.2;have hbb:Ev.look m6 (n+1)=some (msgC m zb zm):=by unfold msgC;exact d2
  refine recv_sw H hS hI hV S8 m zb zm (b:=n+1) (q:=n+2) (rb:=n) hbb h1 hv0 h3 hf0 hfN hms hml hmz hz hNH.out hN7 h1N (by simp[updN,updE,envI]) (by simp[updN,updE,envI]) (by simp[updN,updE,envI]) (by simp[updN,updE,envI]) (by simp[updN,updE,envI]) (by simp[updN,updE,envI]) λm8 n8 o8 xe8 xa8 xs8 xd8 xo8 e' S9 g9 f2 f4 f5 f6=>?_;have i1:=(g9.own n (by omega)).trans d1;have i3:=(g9.own (n+2) (by omega)).trans d3;have gK:=(g16.le2 l7).trans (g9.weaken (show n<=n4 by omega));have sK:=RepS.mono (gK.sub hfr (Nat.le_refl _)) s1;have hR:Qfo r m=(if(actS r m N).2.2 then(r,[])else((actS r m N).1,(actS r m N).2.1)):=by unfold Qfo;rw[hOH.out,if_pos rfl,hN1H.out]
  obtain⟨⟨R,O,vd⟩,hA⟩:∃A,actS r m N=A:=⟨_,rfl⟩
  rw[hA]at S9 hR;dsimp only at S9 hR;clear w1 w2 w3 ws d1 d2 d3 hA hms hml hbb;have w1:=Qem (fz:=fz) i1;have w3:=Qem (fz:=fz) i3;have hl8:=g9.le;obtain⟨⟨tek,tem⟩,⟨tak,tam⟩,⟨tsk,tsm⟩,⟨tdk,tdm⟩,tok,tom⟩:=S9.ks;unfold Qtd rs_sw b_Qb2;refine dW ?_;cases vd with
  |false=>
   have hE:=replica_step_end H s R r xe8 xa8 xs8 xd8 xo8 xe xa xs xd ⟨tek,tak,tsk,tdk,tok⟩;have hRH:=Hide.mk (hR.trans (if_neg (by decide)));clear hR;unfold repC at hE;simp only[↓E1,E4,seval, *];refine hE.q0 S9.free ⟨Qem S9.cells,sK⟩ ?_;rintro v n9 l9 rfl;have hk2:=houtH.out R xe8 xa8 xs8 xd8 xo8 o8 m8 n9 O (gK.le2 l9) i3 (λj hj=>S9.zero j (by omega)) S9.rt S9.ot hRH.out;unfold repC at hk2;simp only[↓E1,E4,seval, *];all_goals exact hk2
  |true=>
   have hE:=Qoi H s R r xe8 xa8 xs8 xd8 xo8 xe xa xs xd hz;have hRH:=Hide.mk (hR.trans (if_pos rfl));clear hR;unfold repC at hE;simp only[↓E1,E4,seval, *];refine hE.c1 S9.free ⟨Qem S9.cells,sK⟩ ?_;rintro v m10 n10 g10 ⟨pe,pa,ps,pd,po,oo,rfl,ho,hT,hO⟩;have i4:=(g10.own (n+2) (by omega)).trans i3;have w4:=Qem (fz:=fz) i4;obtain⟨⟨es,t1,t2⟩,t3,t4,ds,t5,t6⟩:=hT;have hT:RepT oo (with' m10 fz) r pe pa ps pd:=⟨⟨es,t1,t2⟩,t3,t4,ds,t5,t6⟩
   obtain⟨-,-,qek,qem⟩:=t1.len;obtain⟨-,-,qak,qam⟩:=SlX.len t3;obtain⟨-,-,qsk,qsm⟩:=SlX.len t4;obtain⟨-,-,qdk,qdm⟩:=SlX.len t5;obtain⟨cs,o1,o2⟩:=hO;obtain⟨-,-,qok,qom⟩:=SlX.len o1;have hk2:=houtH.out r pe pa ps pd po oo m10 n10 [] (gK.trans (g10.weaken (by omega))) i4 (λj hj=>ho j (by omega)) hT ⟨cs,o1,o2⟩ hRH.out;unfold repC at hk2⊢;clear t1 t2 t3 t4 t5 t6 o1 o2 hT w1 w3;simp only[↓E1,E4,seval, *];all_goals exact hk2
theorem Qmw (r:Rep) (xe xa xs xd:SV) (m:Msg) (zb zm:SV) (hz:RepSz r) (hmz:MsgSz m) (hok1:Ok r.log) (hok2:∀d∈r.dos,Ok d.log) (hok3:Ok m.log) {fz:Fz} {mu:St} {n:Nat} (hfr:Free fz mu n) (s1:RepS (with' mu fz) r xe xa xs xd) (s2:MsgS (with' mu fz) m zb zm) {k:KT Prop} {w:WK k}
 (hk:∀v mu' n',Gr n fz mu mu' n n'->StepP (Qfo r m) n (with' mu' fz) v->k v mu' n'):CPr P n_Qcu [.ag (repC r xe xa xs xd),.ag (msgC m zb zm)] fz mu n k w:=by
 have h:=Qlz H r xe xa xs xd m zb zm hz hmz hok1 hok2 hok3 (λh=>(Qmb h).1) (fz:=with' mu fz) (mu:=[]) (n:=n) hfr s1 s2 s2.1 (k:=λv new n'=>k v (new++mu) n') (w:=⟨⟩) (λv new n' g hp=>hk v (new++mu) n' (g.join hfr (Nat.le_refl _)) (by rw[Qgd];exact hp));exact h
end
end Go.Proofs.YtnnjlnkoomeadaaGreat.Pv
namespace Go.Ev
open Go.Shelf Go.Proofs Go.RowKit Go.Lib
def insF (ρ:Ren) (nm:String):Func:={Body2.n22 ρ with name:=nm}
theorem Qjm (ρ:Ren) (nm:String):(insF ρ nm).ntmps=95:=rfl
def ovF (ρ:Ren):Func:={Body2.n29 ρ with name:= "slices.overlaps[cachet/api.Do]" }
structure LaysD (P:Program) (ρ:Ren) (dt:TypeDesc) (z:Value) (nm:String):Prop where
 mixed:P.follows .mixedOrders=true
 f22:P.funcs[ρ.f 22]?=some (insF ρ nm)
 f29:P.funcs[ρ.f 29]?=some (ovF ρ)
 t0:P.underlying (ρ.t 0)=some (TypeDesc.tuple #[])
 a0:∀w,(isAgg (ρ.t 0)).run P w=.ok false w
 z0:∀w,(Go.sizeOf (ρ.t 0)).run P w=.ok 1 w
 v0:∀w,(zeroValue (ρ.t 0)).run P w=.ok (Value.tuple #[]) w
 t3:P.underlying (ρ.t 3)=some (TypeDesc.int IntKind.i64)
 a3:∀w,(isAgg (ρ.t 3)).run P w=.ok false w
 z3:∀w,(Go.sizeOf (ρ.t 3)).run P w=.ok 1 w
 v3:∀w,(zeroValue (ρ.t 3)).run P w=.ok (Value.int IntKind.i64 0) w
 t4:P.underlying (ρ.t 4)=some (TypeDesc.bool)
 a4:∀w,(isAgg (ρ.t 4)).run P w=.ok false w
 z4:∀w,(Go.sizeOf (ρ.t 4)).run P w=.ok 1 w
 v4:∀w,(zeroValue (ρ.t 4)).run P w=.ok (Value.bool false) w
 t9:P.underlying (ρ.t 9)=some dt
 a9:∀w,(isAgg (ρ.t 9)).run P w=.ok true w
 z9:∀w,(Go.sizeOf (ρ.t 9)).run P w=.ok 6 w
 v9:∀w,(zeroValue (ρ.t 9)).run P w=.ok z w
 t24:P.underlying (ρ.t 24)=some (TypeDesc.slice (ρ.t 9))
 a24:∀w,(isAgg (ρ.t 24)).run P w=.ok false w
 z24:∀w,(Go.sizeOf (ρ.t 24)).run P w=.ok 1 w
 v24:∀w,(zeroValue (ρ.t 24)).run P w=.ok (Value.slice none 0 0) w
 i9:(P.info? (ρ.t 9)).map (λi=>(i.zero,i.size,i.bytes))=some (some z,6,72)
 zc:z.cells.size=6
section
variable {P:Program} {ρ:Ren} {dt:TypeDesc} {z:Value} {nm:String}
theorem Qtf (w:World) (dT sT ty el:TypeId) (k b o dLen dCap:Nat) (a:Addr) (sLen sCap:Nat) (cs:List Value)
 (hu:P.underlying dT=some (.slice el)) (hs:(P.info? el).map (·.size)=some k) (hn:cs.length=Nat.min sLen dLen*k)
 (hsrc:∀j v,cs[j]?=some v->w.cell? (a.add j)=some v) (hc:∀j,j<cs.length->(w.cell? ⟨b,o+j,none⟩).isSome=true) (hf:∀j,j<cs.length->w.frozen? ⟨b,o+j,none⟩=false) (h1:∀v∈cs,v.oneCell'=true):
 (Builtin.copy_ #[dT,sT] ty #[.slice (some ⟨b,o,none⟩) dLen dCap,.slice (some a) sLen sCap]).run P w=.ok (goInt (Nat.min sLen dLen)) (w.setCells b o cs):=by
 have hl:=run_loadCells_list (P:=P) w a cs hsrc;have hst:=run_storeCells_cells (P:=P) b o cs 0 w (by simpa using hc) (by simpa using hf) h1;obtain⟨i,hi,hk⟩:=Option.map_eq_some_iff.1 hs;have hk:i.size=k:=hk;simp[Builtin.copy_,run_underlying hu,Builtin.lenOf,Builtin.firstCells,sizeOf,typeInfo,hi,hk,<-hn,hl,hst]
set_option maxHeartbeats 4000000 in
set_option maxRecDepth 100000 in
theorem Qwg (L:LaysD P ρ dt z nm) (b off n c vb voff m vc:Nat) (vs:List Value) (w:World) (hm:0<m) (hroom:n+m<=c) (hc63:c<=9223372036854775807)
 (hvl:vs.length=m*6) (hsp:∀j,j<m*6->(w.cell? ⟨b,off+n*6+j,none⟩).isSome=true) (hfz:∀j,j<m*6->w.frozen? ⟨b,off+n*6+j,none⟩=false)
 (hvs:∀j v,vs[j]?=some v->w.cell? ⟨vb,voff+j,none⟩=some v) (h1v:∀v∈vs,v.oneCell'=true):
 Calls P (ρ.f 22) #[.slice (some ⟨b,off,none⟩) n c,.int .i64 n,.slice (some ⟨vb,voff,none⟩) m vc] w λe w'=>
  e=.returned (.slice (some ⟨b,off,none⟩) (n+m) c)/\w'=w.setCells b (off+n*6) vs:=by
 have t0:=L.t0;have a0:=L.a0;have z0:=L.z0;have v0:=L.v0;have t3:=L.t3;have a3:=L.a3;have z3:=L.z3;have v3:=L.v3;have t4:=L.t4;have a4:=L.a4;have z4:=L.z4;have v4:=L.v4;have t9:=L.t9;have a9:=L.a9;have z9:=L.z9;have v9:=L.v9;have t24:=L.t24;have a24:=L.a24;have z24:=L.z24;have v24:=L.v24;have u0:=run_underlying L.t0;have u3:=run_underlying L.t3;have u4:=run_underlying L.t4;have u24:=run_underlying L.t24;have mixed:=L.mixed;obtain⟨i0,hi0,hz0,hzs,hzb⟩:=info_parts L.i9;have hz1:¬((m:Int)=0):=by omega
 have hsrc:Src P i0.size (ρ.t 24) (.slice (some ⟨vb,voff,none⟩) m vc) m vs w:=by
  rw[hzs];exact Src.ofSlice w L.t24 ⟨vb,voff,none⟩ m vc vs hvl (λj u hj=>by rw[Addr.add_lit];exact hvs j u hj) h1v
 have hrun:∀ty,(Builtin.append_ #[(ρ.t 24),(ρ.t 24)] ty #[.slice (some ⟨b,off,none⟩) n c,.slice (some ⟨vb,voff,none⟩) m vc]).run P w=.ok (.slice (some ⟨b,off,none⟩) (n+m) c) (w.setCells b (off+n*6) vs):=λty=>by
  have:=run_append_room_src (P:=P) (w:=w) (ρ.t 24) (ρ.t 24) ty (ρ.t 9) i0 L.t24 hi0 b off n c _ m vs hsrc hroom (by rw[hzs,hvl];exact hsp) (by rw[hzs,hvl];exact hfz);rwa [hzs]at this
 go_enter L.f22,Qjm ρ nm
 go_wp2_with (at_builtin;refine Lib.wpList_append_run _ rfl _ _ _ _ rfl _ _ rfl rfl _ _ (hrun _) ?_)
 go_ret
 exact⟨rfl,rfl⟩
set_option maxHeartbeats 4000000 in
set_option maxRecDepth 100000 in
theorem Qtb (L:LaysD P ρ dt z nm) (base:Option Addr) (n c vb voff m vc:Nat) (cs vs:List Value) (w:World) (hm:0<m) (hnc:n<=c) (hroom:c<n+m) (hbig:(n+m)*72<=140737488355328)
 (hcl:cs.length=n*6) (hvl:vs.length=m*6) (hnil:base=none->n=0)
 (hcs:∀a,base=some a->∀j v,cs[j]?=some v->w.cell? (a.add j)=some v)
 (hvs:∀j v,vs[j]?=some v->w.cell? ⟨vb,voff+j,none⟩=some v) (h1v:∀v∈vs,v.oneCell'=true):
 Calls P (ρ.f 22) #[.slice base n c,.int .i64 n,.slice (some ⟨vb,voff,none⟩) m vc] w λe w'=>
  e=.returned (.slice (some ⟨w.heap.size,0,none⟩) (n+m) (grownCap w (n+m) c (ρ.t 9)))/\
  w'=w.drew.alloc (.cells ((cs++vs).toArray++Builtin.zeroCells z.cells (grownCap w (n+m) c (ρ.t 9)-(n+m))) (ρ.t 9)):=by
 have t0:=L.t0;have a0:=L.a0;have z0:=L.z0;have v0:=L.v0;have t3:=L.t3;have a3:=L.a3;have z3:=L.z3;have v3:=L.v3;have t4:=L.t4;have a4:=L.a4;have z4:=L.z4;have v4:=L.v4;have t9:=L.t9;have a9:=L.a9;have z9:=L.z9;have v9:=L.v9;have t24:=L.t24;have a24:=L.a24;have z24:=L.z24;have v24:=L.v24;have u0:=run_underlying L.t0;have u3:=run_underlying L.t3;have u4:=run_underlying L.t4;have u24:=run_underlying L.t24;have mixed:=L.mixed;obtain⟨i0,hi0,hz0,hzs,hzb⟩:=info_parts L.i9;have hz1:¬((m:Int)=0):=by omega
 have hsrc:Src P i0.size (ρ.t 24) (.slice (some ⟨vb,voff,none⟩) m vc) m vs w:=by
  rw[hzs];exact Src.ofSlice w L.t24 ⟨vb,voff,none⟩ m vc vs hvl (λj u hj=>by rw[Addr.add_lit];exact hvs j u hj) h1v
 have hold:(Builtin.firstCells i0.size n (.slice base n c)).run P w.drew=.ok cs.toArray w.drew:=by
  rw[hzs];cases base with
  |none=>
   have h0:=hnil rfl;subst h0;rw[List.length_eq_zero_iff.1 (by omega:cs.length=0)];exact run_firstCells_none w.drew 6 0 0 c
  |some a=>exact run_firstCells_some w.drew 6 n a n c cs hcl (λj v hj=>hcs a rfl j v hj)
 have hrun:∀ty,(Builtin.append_ #[(ρ.t 24),(ρ.t 24)] ty #[.slice base n c,.slice (some ⟨vb,voff,none⟩) m vc]).run P w=.ok (.slice (some ⟨w.heap.size,0,none⟩) (n+m) (grownCap w (n+m) c (ρ.t 9))) (w.drew.alloc (.cells ((cs++vs).toArray++Builtin.zeroCells z.cells (grownCap w (n+m) c (ρ.t 9)-(n+m))) (ρ.t 9))):=λty=>
  run_append_grow_src w (ρ.t 24) (ρ.t 24) ty (ρ.t 9) i0 _ L.t24 hi0 hz0 base n c cs hold _ m vs hsrc hroom (by omega) (by rw[hzb];exact growslice_fits hroom hbig)
 obtain⟨Z,hZ⟩:∃Z,z.cells=Z:=⟨_,rfl⟩
 rw[hZ]at hrun⊢;go_enter L.f22,Qjm ρ nm
 cases base with
 |none=>
  have h0:=hnil rfl;subst h0;go_wp2_with (at_builtin;refine Lib.wpList_append_run _ rfl _ _ _ _ rfl _ _ rfl rfl _ _ (hrun _) ?_)
  go_ret
  exact⟨rfl,rfl⟩
 |some a=>
  obtain⟨ab,ao,asp⟩:=a;go_wp2_with (at_builtin;refine Lib.wpList_append_run _ rfl _ _ _ _ rfl _ _ rfl rfl _ _ (hrun _) ?_)
  all_goals (go_ret;exact⟨rfl,rfl⟩)
set_option maxHeartbeats 4000000 in
set_option maxRecDepth 100000 in
theorem Qum (L:LaysD P ρ dt z nm) (b off n c i vb voff m vc:Nat) (cs vs:List Value) (w:World) (hi:i<n) (hm:0<m) (hroom:n+m<=c) (hc63:c<=9223372036854775807) (hvb:vb≠b)
 (hcl:cs.length=n*6) (hvl:vs.length=m*6)
 (hcs:∀j v,cs[j]?=some v->w.cell? ⟨b,off+j,none⟩=some v) (hsp:∀j,j<(n+m)*6->(w.cell? ⟨b,off+j,none⟩).isSome=true) (hfz:∀j,j<(n+m)*6->w.frozen? ⟨b,off+j,none⟩=false)
 (hvs:∀j v,vs[j]?=some v->w.cell? ⟨vb,voff+j,none⟩=some v) (h1c:∀v∈cs,v.oneCell'=true) (h1v:∀v∈vs,v.oneCell'=true)
 (tA tB:TypeId) (kA kB:Nat) (hsa:w.shape? vb=some (tA,kA)) (hsb:w.shape? b=some (tB,kB)) (hkB:kB≠0) (hfa:w.frozen? ⟨vb,voff,none⟩=false) (hfe:w.frozen? ⟨vb,kA,none⟩=false):
 Calls P (ρ.f 22) #[.slice (some ⟨b,off,none⟩) n c,.int .i64 i,.slice (some ⟨vb,voff,none⟩) m vc] w λe w'=>
  e=.returned (.slice (some ⟨b,off,none⟩) (n+m) c)/\w'=(w.drew.setCells b (off+(i+m)*6) (cs.drop (i*6))).setCells b (off+i*6) vs:=by
 have t0:=L.t0;have a0:=L.a0;have z0:=L.z0;have v0:=L.v0;have t3:=L.t3;have a3:=L.a3;have z3:=L.z3;have v3:=L.v3;have t4:=L.t4;have a4:=L.a4;have z4:=L.z4;have v4:=L.v4;have t9:=L.t9;have a9:=L.a9;have z9:=L.z9;have v9:=L.v9;have t24:=L.t24;have a24:=L.a24;have z24:=L.z24;have v24:=L.v24;have u0:=run_underlying L.t0;have u3:=run_underlying L.t3;have u4:=run_underlying L.t4;have u24:=run_underlying L.t24;have mixed:=L.mixed;have hz1:¬((m:Int)=0):=by omega
 have hz2:¬((i:Int)=(n:Int)):=by omega
 obtain⟨i0,hi0,hz0,hzs,hzb⟩:=info_parts L.i9;have hsz:(P.info? (ρ.t 9)).map (·.size)=some 6:=by rw[hi0];simp[hzs]
 have hov:∀lb cb,(callFunc (ρ.f 29) #[.slice (some ⟨vb,voff,none⟩) m vc,.slice (some ⟨b,off+(i+m)*6,none⟩) lb cb]).run P w=.ok (.value (.bool false)) w:=λlb cb=>by
  rw[run_callFunc_extern L.f29 (by kernel_rfl) (by kernel_rfl) (by kernel_rfl) (e:=Extern.SlicesOverlaps.overlaps #[(ρ.t 24),(ρ.t 24)] #[(ρ.t 4)]) (by kernel_rfl),
   Lib.run_overlaps_apart w (ρ.t 24) (ρ.t 4) (ρ.t 9) L.t24 6 L.z9 ⟨vb,voff,none⟩ ⟨b,off+(i+m)*6,none⟩ m vc lb cb hvb tA tB kA kB hsa hsb hkB hfa hfe]
  rfl
 have hdl:(cs.drop (i*6)).length=(n-i)*6:=by rw[List.length_drop,hcl];omega
 have hw1:IntKind.i64.wrap ((i:Int)+(m:Int))=(i:Int)+(m:Int):=by rw[IntKind.wrap_i64];omega
 have hb1:(0:Int)<=(i:Int)+(m:Int):=by omega
 have hin:i<=n:=by omega
 have htn:((i:Int)+(m:Int)).toNat=i+m:=by omega
 have hb2:¬(c=i+m):=by omega
 have hb3:(i:Int)<=(n:Int)+(m:Int):=by omega
 have hb4:¬(c=i):=by omega
 have hcp1:∀ty dc sc,(Builtin.copy_ #[(ρ.t 24),(ρ.t 24)] ty #[.slice (some ⟨b,off+(i+m)*6,none⟩) (n+m-(i+m)) dc,.slice (some ⟨b,off+i*6,none⟩) (n+m-i) sc]).run P w.drew=.ok (goInt (Nat.min (n+m-i) (n+m-(i+m)))) (w.drew.setCells b (off+(i+m)*6) (cs.drop (i*6))):=λty dc sc=>
  Qtf w.drew _ _ ty (ρ.t 9) 6 b (off+(i+m)*6) (n+m-(i+m)) dc ⟨b,off+i*6,none⟩ (n+m-i) sc (cs.drop (i*6)) L.t24 hsz (by rw[hdl];simp only[Nat.min_def];split<;>omega)
   (λj v hj=>by rw[Addr.add_lit,Nat.add_assoc];exact hcs (i*6+j) v (by rwa [List.getElem?_drop]at hj))
   (λj hj=>by rw[Nat.add_assoc];exact hsp _ (by omega)) (λj hj=>by rw[Nat.add_assoc];exact hfz _ (by omega)) (λv hv=>h1c v (List.mem_of_mem_drop hv))
 obtain⟨W1,hW1⟩:∃W1,W1=w.drew.setCells b (off+(i+m)*6) (cs.drop (i*6)):=⟨_,rfl⟩
 have hsp1:∀k,k<(n+m)*6->(W1.cell? ⟨b,off+k,none⟩).isSome=true:=λk hk=>by
  rw[hW1];exact isSome_setCells b _ _ _ (λj hj=>by rw[Nat.add_assoc];exact hsp _ (by omega)) _ (hsp k hk)
 have hcp2:∀(W:World),(∀x,W.cell? x=W1.cell? x)->(∀x,W.frozen? x=W1.frozen? x)->∀ty dc,(Builtin.copy_ #[(ρ.t 24),(ρ.t 24)] ty #[.slice (some ⟨b,off+i*6,none⟩) (n+m-i) dc,.slice (some ⟨vb,voff,none⟩) m vc]).run P W=.ok (goInt (Nat.min m (n+m-i))) (W.setCells b (off+i*6) vs):=λW hWc hWf ty dc=>
  Qtf W _ _ ty (ρ.t 9) 6 b (off+i*6) (n+m-i) dc ⟨vb,voff,none⟩ m vc vs L.t24 hsz (by rw[hvl];simp only[Nat.min_def];split<;>omega)
   (λj v hj=>by
    rw[Addr.add_lit,hWc,hW1,World.cell?_setCells_out b _ _ _ _ (λh _=>absurd h hvb)];exact hvs j v hj)
   (λj hj=>by rw[hWc,Nat.add_assoc];exact hsp1 _ (by omega)) (λj hj=>by rw[hWf,hW1,World.frozen?_setCells,Nat.add_assoc];exact hfz _ (by omega)) h1v
 rw[<-hW1]at hcp1;go_enter L.f22,Qjm ρ nm
 go_wp2_with (simp only[hov])
 go_region_law_o (refine step_copy_runI rfl _ _ (ρ.t 24) (ρ.t 24) rfl _ _ (by simp[Act.eval,Act.put]) (by simp[Act.eval,Act.put]) (hcp1 _ _ _) ?_)
 go_wp2_with (at_builtin;refine wpList_copy_runI _ rfl _ _ (ρ.t 24) (ρ.t 24) rfl _ _ rfl rfl (hcp2 _ (λ_=>rfl) (λ_=>rfl) _ _) ?_)
 go_ret
 first|exact⟨rfl,rfl⟩|exact⟨rfl,by rw[hW1]⟩
set_option maxHeartbeats 4000000 in
set_option maxRecDepth 100000 in
theorem Qx5 (L:LaysD P ρ dt z nm) (b off n c i vb voff m vc:Nat) (cs vs:List Value) (w:World) (hi:i<n) (hm:0<m) (hnc:n<=c) (hroom:c<n+m) (hbig:(n+m)*72<=140737488355328)
 (hcl:cs.length=n*6) (hvl:vs.length=m*6)
 (hcs:∀j v,cs[j]?=some v->w.cell? ⟨b,off+j,none⟩=some v)
 (hvs:∀j v,vs[j]?=some v->w.cell? ⟨vb,voff+j,none⟩=some v) (h1c:∀v∈cs,v.oneCell'=true) (h1v:∀v∈vs,v.oneCell'=true):
 Calls P (ρ.f 22) #[.slice (some ⟨b,off,none⟩) n c,.int .i64 i,.slice (some ⟨vb,voff,none⟩) m vc] w λe w'=>
  e=.returned (.slice (some ⟨w.heap.size,0,none⟩) (n+m) (grownCap w (n+m) c (ρ.t 9)))/\
  w'=(((w.alloc (.cells ((cs.take (i*6)).toArray++Builtin.zeroCells z.cells (n+m-i)++Builtin.zeroCells z.cells (grownCap w (n+m) c (ρ.t 9)-(n+m))) (ρ.t 9))).drew.setCells w.heap.size (i*6) vs).drew).setCells w.heap.size ((i+m)*6) (cs.drop (i*6)):=by
 have t0:=L.t0;have a0:=L.a0;have z0:=L.z0;have v0:=L.v0;have t3:=L.t3;have a3:=L.a3;have z3:=L.z3;have v3:=L.v3;have t4:=L.t4;have a4:=L.a4;have z4:=L.z4;have v4:=L.v4;have t9:=L.t9;have a9:=L.a9;have z9:=L.z9;have v9:=L.v9;have t24:=L.t24;have a24:=L.a24;have z24:=L.z24;have v24:=L.v24;have u0:=run_underlying L.t0;have u3:=run_underlying L.t3;have u4:=run_underlying L.t4;have u24:=run_underlying L.t24;have mixed:=L.mixed;have zc:=L.zc;obtain⟨i0,hi0,hz0,hzs,hzb⟩:=info_parts L.i9;have hz1:¬((m:Int)=0):=by omega
 have hz2:¬((i:Int)=(n:Int)):=by omega
 have hz3:(c:Int)<(n:Int)+(m:Int):=by omega
 have hsz:(P.info? (ρ.t 9)).map (·.size)=some 6:=by rw[hi0];simp[hzs]
 have hbw:b<w.heap.size:=block_lt_of_cell (hcs 0 _ (List.getElem?_eq_getElem (by omega)));have hvw:vb<w.heap.size:=block_lt_of_cell (hvs 0 _ (List.getElem?_eq_getElem (by omega)));have hkk:(n:Int)+(m:Int)-(i:Int)=((n+m-i:Nat):Int):=by omega
 have hik:i+(n+m-i)=n+m:=by omega
 have hold:(Builtin.firstCells i0.size i (.slice (some ⟨b,off,none⟩) i c)).run P w.drew=.ok (cs.take (i*6)).toArray w.drew:=by
  rw[hzs];refine run_firstCells_some w.drew 6 i ⟨b,off,none⟩ i c (cs.take (i*6)) (by rw[List.length_take];omega) (λj v hj=>?_);rw[Addr.add_lit];rw[List.getElem?_take]at hj;split at hj
  ·exact hcs j v hj
  ·cases hj
 have hrz:∀ty,(Builtin.append_ #[(ρ.t 24),(ρ.t 3)] ty #[.slice (some ⟨b,off,none⟩) i c,.int .i64 ((n:Int)+(m:Int)-(i:Int))]).run P w=
  .ok (.slice (some ⟨w.heap.size,0,none⟩) (n+m) (grownCap w (n+m) c (ρ.t 9))) (w.drew.alloc (.cells ((cs.take (i*6)).toArray++Builtin.zeroCells z.cells (n+m-i)++Builtin.zeroCells z.cells (grownCap w (n+m) c (ρ.t 9)-(n+m))) (ρ.t 9))):=λty=>by
  have h:=Lib.run_append_grow_zeros w (ρ.t 24) (ρ.t 3) ty (ρ.t 9) i0 _ .i64 .i64 L.t24 L.t3 hi0 hz0 (some ⟨b,off,none⟩) i c (cs.take (i*6)) hold (n+m-i) (by omega) (by omega) (by omega) (by omega) (by rw[hzb];omega) (by rw[hzb,hik];exact growslice_fits hroom hbig);rw[hik]at h;rw[hkk];exact h
 obtain⟨G,hG⟩:∃G,G=grownCap w (n+m) c (ρ.t 9):=⟨_,rfl⟩
 obtain⟨ROW,hROW⟩:∃ROW:Array Value,ROW=(cs.take (i*6)).toArray++Builtin.zeroCells z.cells (n+m-i)++Builtin.zeroCells z.cells (G-(n+m)):=⟨_,rfl⟩
 rw[<-hG]at hrz⊢;rw[<-hROW]at hrz⊢;have hRl:(n+m)*6<=ROW.size:=by
  rw[hROW,Array.size_append,Array.size_append,size_zeroCells,size_zeroCells,zc];simp only[List.size_toArray,List.length_take];omega
 obtain⟨W1,hW1⟩:∃W1,W1=w.drew.alloc (.cells ROW (ρ.t 9)):=⟨_,rfl⟩
 rw[<-hW1]at hrz;have hN:∀j,j<(n+m)*6->(W1.cell? ⟨w.heap.size,j,none⟩).isSome=true:=λj hj=>by
  rw[hW1,World.cell?_alloc_at (w:=w.drew) ROW _ w.heap.size j rfl,Array.getElem?_eq_getElem (by omega)];rfl
 have hNf:∀j,W1.frozen? ⟨w.heap.size,j,none⟩=false:=λj=>by rw[hW1];exact World.frozen?_alloc_at (w:=w.drew) ROW _ w.heap.size j rfl
 have hOb:∀j v,w.cell? ⟨b,j,none⟩=some v->W1.cell? ⟨b,j,none⟩=some v:=λj v h=>by rw[hW1,World.cell?_alloc_past (w:=w.drew) _ b j hbw];exact h
 have hOv:∀j v,w.cell? ⟨vb,j,none⟩=some v->W1.cell? ⟨vb,j,none⟩=some v:=λj v h=>by rw[hW1,World.cell?_alloc_past (w:=w.drew) _ vb j hvw];exact h
 have hcpA:∀(W:World),(∀x,W.cell? x=W1.cell? x)->(∀x,W.frozen? x=W1.frozen? x)->∀ty dc,(Builtin.copy_ #[(ρ.t 24),(ρ.t 24)] ty #[.slice (some ⟨w.heap.size,i*6,none⟩) (n+m-i) dc,.slice (some ⟨vb,voff,none⟩) m vc]).run P W=.ok (goInt (Nat.min m (n+m-i))) (W.setCells w.heap.size (i*6) vs):=λW hWc hWf ty dc=>
  Qtf W _ _ ty (ρ.t 9) 6 w.heap.size (i*6) (n+m-i) dc ⟨vb,voff,none⟩ m vc vs L.t24 hsz (by rw[hvl];simp only[Nat.min_def];split<;>omega)
   (λj v hj=>by rw[Addr.add_lit,hWc];exact hOv _ v (hvs j v hj))
   (λj hj=>by rw[hWc];exact hN _ (by omega)) (λj hj=>by rw[hWf];exact hNf _) h1v
 have hGn:n+m<=G:=by rw[hG];exact grownCap_ge w _ _ _
 have hG63:G<=9223372036854775807:=by
  have:=grownCap_le_maxLen w (n+m) c (ρ.t 9) (by unfold maxLen;omega);rw[<-hG]at this;unfold maxLen at this;omega
 have hGi:¬(G=i):=by omega
 have hGim:¬(G=i+m):=by omega
 have hci:¬(c=i):=by omega
 have hbN:b≠w.heap.size:=by omega
 have hdl:(cs.drop (i*6)).length=(n-i)*6:=by rw[List.length_drop,hcl];omega
 have hcpB:∀(W:World),(∀x,W.cell? x=(W1.setCells w.heap.size (i*6) vs).cell? x)->(∀x,W.frozen? x=(W1.setCells w.heap.size (i*6) vs).frozen? x)->∀ty dc sc,(Builtin.copy_ #[(ρ.t 24),(ρ.t 24)] ty #[.slice (some ⟨w.heap.size,(i+m)*6,none⟩) (n+m-(i+m)) dc,.slice (some ⟨b,off+i*6,none⟩) (n-i) sc]).run P W=.ok (goInt (Nat.min (n-i) (n+m-(i+m)))) (W.setCells w.heap.size ((i+m)*6) (cs.drop (i*6))):=λW hWc hWf ty dc sc=>
  Qtf W _ _ ty (ρ.t 9) 6 w.heap.size ((i+m)*6) (n+m-(i+m)) dc ⟨b,off+i*6,none⟩ (n-i) sc (cs.drop (i*6)) L.t24 hsz (by rw[hdl];simp only[Nat.min_def];split<;>omega)
   (λj v hj=>by
    rw[Addr.add_lit,hWc,World.cell?_setCells_out _ _ _ _ _ (λh _=>absurd h hbN),Nat.add_assoc];exact hOb _ v (hcs (i*6+j) v (by rwa [List.getElem?_drop]at hj)))
   (λj hj=>by rw[hWc];exact isSome_setCells _ _ _ _ (λt ht=>hN _ (by omega)) _ (hN _ (by omega)))
   (λj hj=>by rw[hWf,World.frozen?_setCells];exact hNf _) (λv hv=>h1c v (List.mem_of_mem_drop hv))
 subst hW1;have hE1:∀x,((w.alloc (.cells ROW (ρ.t 9))).drew).cell? x=(w.drew.alloc (.cells ROW (ρ.t 9))).cell? x:=λx=>rfl;have hE2:∀x,((w.alloc (.cells ROW (ρ.t 9))).drew).frozen? x=(w.drew.alloc (.cells ROW (ρ.t 9))).frozen? x:=λx=>rfl;have hF1:∀x,(((w.alloc (.cells ROW (ρ.t 9))).drew.setCells w.heap.size (i*6) vs).drew).cell? x=((w.drew.alloc (.cells ROW (ρ.t 9))).setCells w.heap.size (i*6) vs).cell? x:=λx=>rfl;have hF2:∀x,(((w.alloc (.cells ROW (ρ.t 9))).drew.setCells w.heap.size (i*6) vs).drew).frozen? x=((w.drew.alloc (.cells ROW (ρ.t 9))).setCells w.heap.size (i*6) vs).frozen? x:=λx=>rfl;have hw1:IntKind.i64.wrap ((i:Int)+(m:Int))=(i:Int)+(m:Int):=by rw[IntKind.wrap_i64];omega
 have hb1:(0:Int)<=(i:Int)+(m:Int):=by omega
 have hin:i<=n:=by omega
 have htn:((i:Int)+(m:Int)).toNat=i+m:=by omega
 have hb3:(i:Int)<=(n:Int):=by omega
 clear hkk hik hold hROW hG hRl;go_enter L.f22,Qjm ρ nm
 go_wp2_with (first
  |(at_builtin;refine Lib.wpList_append_run _ rfl _ _ _ _ rfl _ _ rfl rfl _ _ (hrz _) ?_)
  |(at_builtin;refine wpList_copy_runI _ rfl _ _ (ρ.t 24) (ρ.t 24) rfl _ _ rfl rfl (hcpA _ hE1 hE2 _ _) ?_)
  |(at_builtin;refine wpList_copy_runI _ rfl _ _ (ρ.t 24) (ρ.t 24) rfl _ _ rfl rfl (hcpB _ (λ_=>rfl) (λ_=>rfl) _ _ _) ?_))
 go_region_law_o (refine step_copy_runI rfl _ _ (ρ.t 24) (ρ.t 24) rfl (.slice (some ⟨w.heap.size,(i+m)*6,none⟩) (n+m-(i+m)) (G-(i+m))) (.slice (some ⟨b,off+i*6,none⟩) (n-i) (c-i)) (by simp[Act.eval,Act.put]) (by simp[Act.eval,Act.put]) (hcpB _ hF1 hF2 (ρ.t 3) (G-(i+m)) (c-i)) ?_)
 go_wp2
 go_ret
 exact⟨rfl,rfl⟩
end
end Go.Ev
namespace Go.Ev
open Go.Shelf Go.Proofs
def InsDC (P:Program) (f:Nat):Prop:=∀(x:SV) (cs:List (List SV)) (v:List SV) (i vid:Nat) (fz:Fz) (mu:St) (n:Nat) (k:AV->St->Nat->Prop),SlX (with' mu fz) 6 x cs->(∀id,blk x=some id->fz id=none)->i<=cs.length->
 Ev.look mu vid=some v->v.length=6->Qeq v=true->blk x≠some vid->cs.length<=1000000->
 (∀mu',(∀j,j≠n->blk x≠some j->Ev.look mu' j=Ev.look mu j)->(∀j,j≠n->blk x=some j->Ev.look mu' j=none)->Ev.look mu' n=some (cs.take i++v::cs.drop i).flatten->k (.one (.osl n 0 (cs.length+1) (cs.length+1) 6)) mu' (n+1))->
 CP P f [.one x,.one (.int .i64 (i:Nat)),.one (.osl vid 0 1 1 6)] fz mu n k
theorem Qk2 {s:Nat}:∀{cs:List (List SV)} (i:Nat),(∀e∈cs,e.length=s)->(cs.take i).flatten=cs.flatten.take (i*s)/\(cs.drop i).flatten=cs.flatten.drop (i*s)
 |[],i,_=>by simp
 |c::cs,0,_=>by simp
 |c::cs,i+1,h=>by
  obtain⟨h1,h2⟩:=Qk2 (cs:=cs) i λe he=>h e (by simp[he]);have hc:=h c (by simp);simp only[List.take_succ_cons,List.drop_succ_cons,List.flatten_cons,h1,h2];refine⟨?_,?_⟩
  ·rw[List.take_append,List.take_of_length_le (l:=c) (by rw[hc,Nat.add_mul];omega),hc];congr 2;rw[Nat.add_mul];omega
  ·have h0:c.drop ((i+1)*s)=[]:=List.drop_eq_nil_of_le (by rw[hc,Nat.add_mul];omega);rw[List.drop_append,h0,hc];simp only[List.nil_append];congr 1;rw[Nat.add_mul];omega
section
variable {P:Program}
theorem insDC_ok (hs2b:s2bOk=false) {ren:Ren} {dt:TypeDesc} {z:Value} {nm:String} (L:LaysD P ren dt z nm) (hb:Qgw P (ren.f 22)=true):InsDC P (ren.f 22):=by
 intro x cs src i0 vid fz mu n k hx hfz hi hv hvl hvk hne hlen hK;have hvm:=Qfu hvk;have hfzV:(Ev.look mu vid).isSome\/(fz vid).isSome:=.inl (by simp[hv]);have V:∀ρ w (xs:Value),Rel v0 ρ fz mu w->VR v0 ρ w (.osl vid 0 1 1 6) xs->∃q c C ty fr,∃news:List Value,ρ vid=some q/\xs=.slice (some ⟨q.1,q.2,none⟩) 1 c/\(w.heap[q.1]?=some (.cells C ty fr)/\FrOk fr C.size)/\news.length=6/\All2 (VR v0 ρ w) src news/\(∀j v,news[j]?=some v->w.cell? ⟨q.1,q.2+j,none⟩=some v):=by
  intro ρ w xs hr hv';obtain⟨q,c,hq,hx',_⟩:=hv';have ho:=(hr.rm _ _ hv).plain hvm;obtain⟨q',C,ty,fr,e1,e2,e3,_⟩:=ho;rw[hq]at e1;cases e1;obtain⟨news,g1,g2,g3,_⟩:=((hr.rm _ _ hv).plain hvm).r.read (P:=P) hq (off:=0) (n:=6) (by omega);rw[List.drop_zero,List.take_of_length_le (by omega)]at g2;exact⟨q,c,C,ty,fr,news,hq,hx',⟨e2,e3⟩,g1,g2,g3⟩
 rcases hx with⟨hx,rfl⟩|⟨id,rfl,h2,hkm,h4⟩
 ·-- a new row
  have hi0:i0=0:=by simpa using hi
  subst hi0;have hx0:∀ρ w v,VR v0 ρ w x v->∃base:Option Addr,v=.slice base 0 0:=by
   rcases hx with rfl|rfl
   ·exactλρ w v hv=>⟨none,hv⟩
   ·exactλρ w v ⟨a,hv⟩=>⟨some a,hv⟩
  have hbx:blk x=none:=by rcases hx with rfl|rfl<;>rfl
  refine⟨_,(n,src)::mu,n+1,hK ((n,src)::mu) (λj hj _=>by rw[Qer,if_neg (λe=>hj e.symm)]) (λj hj hbj=>by rw[hbx]at hbj;cases hbj) (by rw[Qer,if_pos rfl];simp),hb,Nat.le_succ _,λρ w xs hr hxs hf=>?_⟩;obtain⟨x1,x2,x3,rfl⟩:∃x1 x2 x3,xs=[x1,x2,x3]:=by
   match xs,hxs with
   |[a,b,c],_=>exact⟨a,b,c,rfl⟩
   |[],h=>exact h.elim
   |[_],h=>exact h.2.elim
   |[_,_],h=>exact h.2.2.elim
   |_::_::_::_::_,h=>exact h.2.2.2.elim
  obtain⟨hx1,hx2,hx3,_⟩:=hxs;obtain⟨base,rfl⟩:=hx0 ρ w x1 hx1;have hx2':x2=.int .i64 (0:Nat):=hx2;subst hx2';obtain⟨q,c,C,ty,frq,news,hq,rfl,⟨hC,hCf⟩,hnl,hnv,hnc⟩:=V ρ w x3 hr hx3;have hn:=hf n (Nat.le_refl _) (Nat.lt_succ_self _);have:=Qtb L base 0 0 q.1 q.2 1 c [] news w (by decide) (Nat.le_refl _) (by omega) (by omega) rfl hnl (λ_=>rfl) (λ_ _ j v hj=>by simp at hj) hnc (Qgq hnv hvk);refine this.mono λe w' ⟨he,hw⟩=>⟨_,he,?_⟩
  subst hw;simp only[Nat.zero_add]at*
  have hge:=grownCap_ge w 1 0 (ren.t 9);have hle:=grownCap_le_maxLen w 1 0 (ren.t 9) (by unfold maxLen;omega);unfold maxLen at hle;obtain⟨b1,b2,b3,b4,b5,b6⟩:=Qhd (ty:=ren.t 9) (Like.drew w) hr hn (cs:=src) (C:=(([]++news:List Value).toArray++Builtin.zeroCells z.cells (grownCap w 1 0 (ren.t 9)-1))) (by simp[hnl,hvl])
   (λj s' hj=>by
    obtain⟨v,ev',rv⟩:=hnv.get hj;refine⟨v,?_,rv⟩;have hlt:=(List.getElem?_eq_some_iff.1 ev').1;rw[Array.getElem?_append_left (by simpa using hlt)];simpa using ev')
  refine⟨_,b1,b2,⟨(w.heap.size,0),_,upd_same _ _ _,rfl,Nat.le_refl _,hge,?_,by omega⟩,b3,b4,b5⟩;rw[b6,Array.size_append,size_zeroCells,L.zc];simp[hnl];omega
 ·have hid:=hfz id rfl;rw[Qfp hid]at h2;have hne':id≠vid:=λe=>hne (by rw[e];rfl);obtain⟨len,hlen'⟩:∃len,cs.length=len:=⟨_,rfl⟩
  have hel:∀e∈cs,e.length=6:=λe he=>(h4 e he).1;have hkl:cs.flatten.length=len*6:=by rw[Qfr hel,hlen']
  obtain⟨hT,hD⟩:=Qk2 i0 hel;have hkk:=Qe3 h4;rw[hlen']at hi hlen hK;have hcat:(cs.take i0++src::cs.drop i0).flatten=cs.flatten.take (i0*6)++src++cs.flatten.drop (i0*6):=by rw[List.flatten_append,List.flatten_cons,hT,hD,List.append_assoc]
  rw[hcat]at hK;generalize cs.flatten=known at*
  rw[hlen'];clear hcat hT hD hel h4;refine⟨_,(n,known.take (i0*6)++src++known.drop (i0*6))::killS mu id,n+1,hK _ (λj hj hbj=>?_) (λj hj hbj=>?_) (by rw[Qer,if_pos rfl]),hb,Nat.le_succ _,λρ w xs hr hxs hf=>?_⟩
  ·rw[Qer,if_neg (λe=>hj e.symm),Qfe,if_neg (λe=>hbj (by rw[<-e];rfl))]
  ·cases hbj;rw[Qer,if_neg (λe=>hj e.symm),Qfe,if_pos rfl]
  obtain⟨x1,x2,x3,rfl⟩:∃x1 x2 x3,xs=[x1,x2,x3]:=by
   match xs,hxs with
   |[a,b,c],_=>exact⟨a,b,c,rfl⟩
   |[],h=>exact h.elim
   |[_],h=>exact h.2.elim
   |[_,_],h=>exact h.2.2.elim
   |_::_::_::_::_,h=>exact h.2.2.2.elim
  obtain⟨hx1,hx2,hx3,_⟩:=hxs;have hx2':x2=.int .i64 (i0:Int):=hx2;subst hx2';obtain⟨q,c,CV,tyV,frq,news,hq,rfl,⟨hCV,hCVf⟩,hnl,hnv,hnc⟩:=V ρ w x3 hr hx3;obtain⟨p,cc,hp,rfl,q1,q2,q3,q4⟩:=hx1;rw[Nat.add_zero]at*
  have hn:=hf n (Nat.le_refl _) (Nat.lt_succ_self _);have hOwn:=(hr.rm id known h2).plain hkm;have hOwn2:=hOwn;obtain⟨p',C,ty,fr,e1,hC,hCf,_,_⟩:=hOwn2;rw[hp]at e1;cases e1;obtain⟨old,o1,o2,o3,_⟩:=hOwn.r.read (P:=P) hp (off:=0) (n:=len*6) (by omega);rw[List.drop_zero,List.take_of_length_le (by omega)]at o2;have hbs:bsize w p.1=C.size:=by unfold bsize;rw[hC]
  rw[hbs]at q3;have hpq:q.1≠p.1:=λe=>hne' (hr.dj id vid p q (by simp[h2]) hfzV hp hq e.symm);have hkn:∀v∈old,v.oneCell'=true:=Qgq o2 hkk;have hnn:=Qgq hnv hvk;have hall:All2 (VR v0 ρ w) (known.take (i0*6)++src++known.drop (i0*6)) (old.take (i0*6)++news++old.drop (i0*6)):=((o2.take _).append hnv).append (o2.drop _);have hcl:(known.take (i0*6)++src++known.drop (i0*6)).length=(len+1)*6:=by simp;omega
  have place:∀(w':World) (D:Array Value),w'.heap[p.1]?=some (.cells D ty fr)->D.size=C.size->(∀b,b≠p.1->w'.heap[b]?=w.heap[b]?)->w'.os=w.os->w'.tape=w.tape->w'.output=w.output->w'.heap.size=w.heap.size->
   (∀j,j<(len+1)*6->D[p.2+j]?=(old.take (i0*6)++news++old.drop (i0*6))[j]?)->len+1<=cc->
   Post v0 ρ fz mu n w (.one (.osl n 0 (len+1) (len+1) 6)) ((n,known.take (i0*6)++src++known.drop (i0*6))::killS mu id) (n+1) (.slice (some ⟨p.1,p.2,none⟩) (len+1) cc) w':=by
   intro w' D hD hDs hoth ho ht hou hhs hDv hroom;obtain⟨b1,b2,b3,b4,b5,b6⟩:=Qnh (n:=n) (off:=0) hr hCf h2 hn hp hC hD hDs hoth ho ht hou hhs (cs:=known.take (i0*6)++src++known.drop (i0*6)) (by rw[hcl,hDs,Nat.add_zero];omega) (λj s hj=>by
    obtain⟨v,ev',rv⟩:=hall.get hj;have hlt:=(List.getElem?_eq_some_iff.1 hj).1;rw[hcl]at hlt;exact⟨v,by rw[Nat.add_zero,hDv j hlt];exact ev',rv⟩)
   refine⟨_,b1,b2,⟨(p.1,p.2+0),cc,upd_same _ _ _,rfl,Nat.le_refl _,hroom,?_,q4⟩,b3,b4,b5⟩;rw[b6,hbs];simpa using q3
  have fresh:∀(w':World) (D:Array Value) (G:Nat),w'.heap=w.heap.push (.cells D (ren.t 9) (0,0))->w'.os=w.os->w'.tape=w.tape->w'.output=w.output->D.size=G*6->len+1<=G->G<=9223372036854775807->
   (∀j,j<(len+1)*6->D[j]?=(old.take (i0*6)++news++old.drop (i0*6))[j]?)->
   Post v0 ρ fz mu n w (.one (.osl n 0 (len+1) (len+1) 6)) ((n,known.take (i0*6)++src++known.drop (i0*6))::killS mu id) (n+1) (.slice (some ⟨w.heap.size,0,none⟩) (len+1) G) w':=by
   intro w' D G hh ho ht hou hDs hG hG2 hDv;have hkmono:∀a,(Ev.look (killS mu id) a).isSome->(Ev.look mu a).isSome:=λa ha=>by
    rw[Qfe]at ha;split at ha
    ·cases ha
    ·exact ha
   obtain⟨b1,b2,b3,b4,b5,b6⟩:=Qhd (ty:=ren.t 9) (Like.refl w) (hr.kill id) hn (cs:=known.take (i0*6)++src++known.drop (i0*6)) (C:=D) (by rw[hcl,hDs];omega)
    (λj s' hj=>by
     obtain⟨v,ev',rv⟩:=hall.get hj;have hlt:=(List.getElem?_eq_some_iff.1 hj).1;rw[hcl]at hlt;exact⟨v,by rw[hDv j hlt];exact ev',rv⟩)
   have hlike:Like (w.alloc (.cells D (ren.t 9))) w':=⟨hh,ho,ht,hou⟩
   refine⟨_,b1,b2.like hlike,⟨(w.heap.size,0),G,upd_same _ _ _,rfl,Nat.le_refl _,hG,?_,hG2⟩,(b3.trans NewB.refl hlike.fr).wider hkmono,b4.wider hkmono,b5.wider hkmono⟩;rw[hlike.bsize,b6,hDs];simp
  have hold:∀j,j<len*6->old[j]?=C[p.2+j]?:=λj hj=>by
   have h1:old[j]?=some old[j]:=List.getElem?_eq_getElem (by omega);have:=o3 j _ h1;rw[Qo8 hC]at this;rw[h1,<-this];simp
  have o3':∀j v,old[j]?=some v->w.cell? ⟨p.1,p.2+j,none⟩=some v:=λj v h=>by have:=o3 j v h;simpa using this
  have hsp:∀j,j<cc*6->(w.cell? ⟨p.1,p.2+j,none⟩).isSome=true:=λj hj=>by
   rw[Qo8 hC,Array.getElem?_eq_getElem (by omega)];rfl
  by_cases hi2:i0<len
  ·by_cases hroom:len+1<=cc
   ·have:=Qum L p.1 p.2 len cc i0 q.1 q.2 1 c old news w hi2 (by decide) hroom q4 hpq o1 hnl o3' (λj hj=>hsp j (by omega)) (λj _=>Qhn hs2b hCf hC _) hnc hkn hnn tyV ty CV.size C.size (Ql6 hCV) (Ql6 hC) (by omega) (Qhn hs2b hCVf hCV _) (Qhn hs2b hCVf hCV _);refine this.mono λe w' ⟨he,hw⟩=>⟨_,he,?_⟩
    subst hw;obtain⟨D1,d1,d2,d3⟩:=Qfi (old.drop (i0*6)) (p.2+(i0+1)*6) w.drew C hC (by simp;omega);obtain⟨D2,f1,f2,f3⟩:=Qfi news (p.2+i0*6) _ D1 d1 (by omega);obtain⟨r1,r2,r3,r4⟩:=Qfh (b:=p.1) (old.drop (i0*6)) (p.2+(i0+1)*6) w.drew;obtain⟨s1,s2,s3,s4⟩:=Qfh (b:=p.1) news (p.2+i0*6) (w.drew.setCells p.1 (p.2+(i0+1)*6) (old.drop (i0*6)));refine place _ D2 f1 (f2.trans d2) (λb hb=>by rw[Qfb hb,Qfb hb];rfl) (s1.trans r1) (s2.trans r2) (s3.trans r3) (s4.trans r4) (λj hj=>?_) hroom;rw[f3,d3];by_cases a1:j<i0*6
    ·rw[if_neg (by omega),if_neg (by omega),<-hold j (by omega),List.append_assoc,List.getElem?_append_left (by simp;omega),List.getElem?_take_of_lt a1]
    ·by_cases a2:j<(i0+1)*6
     ·rw[if_pos (by omega),List.append_assoc,List.getElem?_append_right (by simp;omega),List.getElem?_append_left (by simp;omega)];congr 1;simp;omega
     ·rw[if_neg (by omega),if_pos (by simp;omega),List.getElem?_append_right (by simp;omega)];congr 1;simp;omega
   ·have:=Qx5 L p.1 p.2 len cc i0 q.1 q.2 1 c old news w hi2 (by decide) (by omega) (by omega) (by omega) o1 hnl o3' hnc hkn hnn;refine this.mono λe w' ⟨he,hw⟩=>⟨_,he,?_⟩
    subst hw;have hge:=grownCap_ge w (len+1) cc (ren.t 9);have hle:=grownCap_le_maxLen w (len+1) cc (ren.t 9) (by unfold maxLen;omega);unfold maxLen at hle;generalize grownCap w (len+1) cc (ren.t 9)=G at*
    generalize hROW:(old.take (i0*6)).toArray++Builtin.zeroCells z.cells (len+1-i0)++Builtin.zeroCells z.cells (G-(len+1))=ROW;have hRs:ROW.size=G*6:=by
     rw[<-hROW,Array.size_append,Array.size_append,size_zeroCells,size_zeroCells,L.zc];simp only[List.size_toArray,List.length_take];omega
    have hRg:∀j,j<i0*6->ROW[j]?=old[j]?:=λj hj=>by
     rw[<-hROW,Array.append_assoc,Array.getElem?_append_left (by simp;omega)];simp[List.getElem?_take_of_lt hj]
    have hA:(w.alloc (.cells ROW (ren.t 9))).drew.heap[w.heap.size]?=some (.cells ROW (ren.t 9) (0,0)):=Qkl (.cells ROW (ren.t 9));obtain⟨D1,d1,d2,d3⟩:=Qfi news (i0*6) _ ROW hA (by omega);obtain⟨D2,f1,f2,f3⟩:=Qfi (old.drop (i0*6)) ((i0+1)*6) ((w.alloc (.cells ROW (ren.t 9))).drew.setCells w.heap.size (i0*6) news).drew D1 d1 (by simp;omega);obtain⟨r1,r2,r3,r4⟩:=Qfh (b:=w.heap.size) news (i0*6) (w.alloc (.cells ROW (ren.t 9))).drew;obtain⟨s1,s2,s3,s4⟩:=Qfh (b:=w.heap.size) (old.drop (i0*6)) ((i0+1)*6) ((w.alloc (.cells ROW (ren.t 9))).drew.setCells w.heap.size (i0*6) news).drew;refine fresh _ D2 G ?_ (s1.trans r1) (s2.trans r2) (s3.trans r3) (by rw[f2,d2,hRs]) hge hle (λj hj=>?_)
    ·refine Array.ext_getElem? λb=>?_;by_cases e:b=w.heap.size
     ·subst e;rw[f1];simp
     ·rw[Qfb e];show((w.alloc (.cells ROW (ren.t 9))).drew.setCells w.heap.size (i0*6) news).heap[b]?=_;rw[Qfb e];show(w.heap.push (.cells ROW (ren.t 9)))[b]?=_;rw[Array.getElem?_push,Array.getElem?_push];simp[e]
    ·rw[f3,d3];by_cases a1:j<i0*6
     ·rw[if_neg (by omega),if_neg (by omega),hRg j a1,List.append_assoc,List.getElem?_append_left (by simp;omega),List.getElem?_take_of_lt a1]
     ·by_cases a2:j<(i0+1)*6
      ·rw[if_neg (by omega),if_pos (by omega),List.append_assoc,List.getElem?_append_right (by simp;omega),List.getElem?_append_left (by simp;omega)];congr 1;simp;omega
      ·rw[if_pos (by simp;omega),List.getElem?_append_right (by simp;omega)];congr 1;simp;omega
  ·have hie:i0=len:=by omega
   subst hie;have htk:old.take (i0*6)=old:=List.take_of_length_le (by omega);have hdr:old.drop (i0*6)=[]:=List.drop_eq_nil_of_le (by omega);by_cases hroom:i0+1<=cc
   ·have:=Qwg L p.1 p.2 i0 cc q.1 q.2 1 c news w (by decide) hroom q4 hnl (λj hj=>by rw[Nat.add_assoc];exact hsp _ (by omega)) (λj _=>Qhn hs2b hCf hC _) hnc hnn;refine this.mono λe w' ⟨he,hw⟩=>⟨_,he,?_⟩
    subst hw;obtain⟨D1,d1,d2,d3⟩:=Qfi news (p.2+i0*6) w C hC (by omega);obtain⟨r1,r2,r3,r4⟩:=Qfh (b:=p.1) news (p.2+i0*6) w;refine place _ D1 d1 d2 (λb hb=>Qfb hb _ _ _) r1 r2 r3 r4 (λj hj=>?_) hroom;rw[d3,htk,hdr,List.append_nil];by_cases a1:j<i0*6
    ·rw[if_neg (by omega),<-hold j a1,List.getElem?_append_left (by omega)]
    ·rw[if_pos (by omega),List.getElem?_append_right (by omega)];congr 1;omega
   ·have:=Qtb L (some ⟨p.1,p.2,none⟩) i0 cc q.1 q.2 1 c old news w (by decide) (by omega) (by omega) (by omega) o1 hnl (λh=>by cases h) (λa ha j v hj=>by cases ha;rw[addr_add];exact o3' j v hj) hnc hnn;refine this.mono λe w' ⟨he,hw⟩=>⟨_,he,?_⟩
    subst hw;have hge:=grownCap_ge w (i0+1) cc (ren.t 9);have hle:=grownCap_le_maxLen w (i0+1) cc (ren.t 9) (by unfold maxLen;omega);unfold maxLen at hle;generalize grownCap w (i0+1) cc (ren.t 9)=G at*
    refine fresh _ _ G rfl rfl rfl rfl (by rw[Array.size_append,size_zeroCells,L.zc];simp;omega) hge hle (λj hj=>?_);rw[htk,hdr,List.append_nil,Array.getElem?_append_left (by simp;omega)];simp
end
end Go.Ev
