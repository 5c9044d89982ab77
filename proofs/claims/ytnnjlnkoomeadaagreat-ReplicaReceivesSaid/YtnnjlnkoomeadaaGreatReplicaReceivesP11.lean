/-
  ReplicaReceives: part 11 of what the proof is made of.
-/
import Derived.Test.YtnnjlnkoomeadaaGreatReplicaReceivesP10
import Derived.Deep.Slices
import Derived.ChangeArms
import Derived.DataReads
import Derived.SizedLaws
import Derived.Carry
import Derived.OpenShut
import Derived.Test.YtnnjlnkoomeadaaGreatRows
import Derived.KernelRfl
import Derived.Below
import Derived.Shelf.Sort.Plain
import Derived.Test.YtnnjlnkoomeadaaGreatProg
set_option linter.unusedVariables false
set_option linter.unusedSimpArgs false
set_option linter.unusedSectionVars false
noncomputable section
namespace Go.Proofs.YtnnjlnkoomeadaaGreat.Pv
open Go.Ev Go.Ev.Rp
set_option maxRecDepth 100000
set_option maxHeartbeats 4000000
theorem Qkc {l:List Dv} {d:Dv}:∀{i:Nat},i<=l.length->(∀j (h:j<l.length),j<i->l[j].frm<d.frm)->putDt l d i=(false,l.take i)
 |0,_,_=>by simp[putDt]
 |i+1,h,hb=>by
  have hi:=hb i (by omega) (by omega);rw[Qhk (by omega),Qkc (by omega) λj h1 h2=>hb j h1 (by omega)];unfold putDs;rw[if_neg (by simp;omega),if_neg (by simp;omega),List.take_succ_eq_append_getElem (by omega)]
theorem Qj7 {l:List Dv} {d:Dv} {i:Nat} {A:List Dv} (h0:putDt l d i=(true,A)):∀{k:Nat},i+k<=l.length->(∀j (h:j<l.length),i<=j->d.frm<l[j].frm)->putDt l d (i+k)=(true,A++(l.drop i).take k)
 |0,_,_=>by simp[h0]
 |k+1,h,hb=>by
  have hi:=hb (i+k) (by omega) (by omega);rw[<-Nat.add_assoc,Qhk (by omega),Qj7 h0 (by omega) hb];unfold putDs;rw[if_neg (by simp;omega),if_neg (by simp),List.take_succ_eq_append_getElem (by simp;omega)];simp
theorem pw_at {l:List Dv} (hr:(l.map (·.frm)).Pairwise (· <·)) {i j:Nat} (hi:i<l.length) (hj:j<l.length) (h:i<j):l[i].frm<l[j].frm:=by
 have:=List.pairwise_iff_getElem.1 hr i j (by simpa using hi) (by simpa using hj) h;simpa using this
theorem putD_no {l:List Dv} {d:Dv} {i:Nat} (hr:(l.map (·.frm)).Pairwise (· <·)) (h:At (l.map (·.frm)) d.frm i false):putD l d=l.take i++d::l.drop i:=by
 have hle:i<=l.length:=by simpa using h.le
 have hlt:∀j (h:j<l.length),j<i->l[j].frm<d.frm:=λj hj h1=>by have:=h.lt j (by simpa using hj) h1;rwa [List.getElem_map]at this
 have hge:∀j (h:j<l.length),i<=j->d.frm<=l[j].frm:=λj hj h1=>by have:=h.ge j (by simpa using hj) h1;rwa [List.getElem_map]at this
 have hb:=Qkc hle hlt;unfold putD;by_cases hi:i<l.length
 ·have hne:¬l[i].frm=d.frm:=λe=>by
   have:decide (∃h:i<(l.map (·.frm)).length,(l.map (·.frm))[i]=d.frm)=true:=decide_eq_true ⟨by simpa using hi,by simpa using e⟩;rw[<-h.is]at this;cases this
  have h1:putDt l d (i+1)=(true,l.take i++[d]++[l[i]]):=by
   rw[Qhk hi,hb];unfold putDs;rw[if_neg (by simpa using hne),if_pos (by simpa using hge i hi (Nat.le_refl _))]
  have h2:=Qj7 h1 (k:=l.length-(i+1)) (by omega) (λj hj h3=>by have:=pw_at hr hi hj (by omega);have:=hge i hi (Nat.le_refl _);omega);rw[show i+1+(l.length-(i+1))=l.length by omega]at h2;have ht:(l.drop (i+1)).take (l.length-(i+1))=l.drop (i+1):=List.take_of_length_le (by rw[List.length_drop];exact Nat.le_refl _);rw[h2,if_pos rfl,ht,List.drop_eq_getElem_cons hi];simp
 ·have:i=l.length:=by omega
  subst this;rw[hb,if_neg (by simp)];simp
theorem putD_yes {l:List Dv} {d:Dv} {i:Nat} (hr:(l.map (·.frm)).Pairwise (· <·)) (h:At (l.map (·.frm)) d.frm i true):∃hi:i<l.length,putD l d=l.set i d:=by
 obtain⟨h1,h2⟩:=of_decide_eq_true h.is.symm;have hi:i<l.length:=by simpa using h1
 have h2:l[i].frm=d.frm:=by simpa using h2
 refine⟨hi,?_⟩;have hlt:∀j (h:j<l.length),j<i->l[j].frm<d.frm:=λj hj h1=>by have:=h.lt j (by simpa using hj) h1;rwa [List.getElem_map]at this
 have hb:=Qkc (Nat.le_of_lt hi) hlt;have h3:putDt l d (i+1)=(true,l.take i++[d]):=by
  rw[Qhk hi,hb];unfold putDs;rw[if_pos (by simpa using h2),if_pos (by simp;omega)]
 have h4:=Qj7 h3 (k:=l.length-(i+1)) (by omega) (λj hj h5=>by have:=pw_at hr hi hj (by omega);omega);rw[show i+1+(l.length-(i+1))=l.length by omega]at h4;unfold putD;have ht:(l.drop (i+1)).take (l.length-(i+1))=l.drop (i+1):=List.take_of_length_le (by rw[List.length_drop];exact Nat.le_refl _);rw[h4,if_pos rfl,ht,List.set_eq_take_append_cons_drop,if_pos hi];simp
theorem SW.setD {lo:Nat} {fz:Fz} {s:Nat} {o:Nat->Nat} {mu:St} {n:Nat} {r:Rep} {out:List Msg} {vd:Bool} {xe xa xs xd xo:SV} (S:SW lo fz s o mu n r out vd xe xa xs xd xo) {mu':St} {n':Nat} {cs:List (List SV)} {l':List Dv} (hnn:n<=n')
 (h1:∀j,j<n->blk xd≠some j->Ev.look mu' j=Ev.look mu j) (h2:SlX (Tag (tagN o n λ_=>6) 5 (with' mu' fz)) 6 xd cs) (h3:All2 (DvX (Mx o n n' (with' mu' fz))) cs l') (hf:Free fz mu' n'):
 SW lo fz s (tagN o n λ_=>6) mu' n' {r with dos:=l'} out vd xe xa xs xd xo/\Kp (· =5) s o (tagN o n λ_=>6) mu n mu' n':=by
 have hsn:=S.slt;have hb:∀j,blk xd=some j->o j=5:=λj hj=>by
  obtain⟨ds,t5,-⟩:=S.rt.dos;rcases t5 with⟨h3|h3,-⟩|⟨id,h3,h4,-,-⟩
  ·rw[h3]at hj;cases hj
  ·rw[h3]at hj;cases hj
  ·rw[h3]at hj;cases hj;exact(Tag.el h4).1
 have hs:Ev.look mu' s=some (stepC r xe xa xs xd xo vd):=(h1 s hsn (λe=>by have:=hb s e;rw[S.os]at this;omega)).trans S.cells;have ho:∀j,j<n->tagN o n (λ_=>6) j=o j:=λj hj=>Qfm hj;have hlk:∀j,j<n->o j≠5->Ev.look mu' j=Ev.look mu j:=λj hj h4=>h1 j hj (λe=>h4 (hb j e));have u:∀t,t≠5->t≠0->Sub (Tag o t (with' mu fz)) (Tag (tagN o n λ_=>6) t (with' mu' fz)):=λt h4 h0 j B hj=>by
  obtain⟨p1,p2⟩:=Tag.el hj;have p3:=S.free.lt p2;refine Tag.at (by rw[ho j p3];exact p1) ?_;rw[Qeu (hlk j p3 (by omega))];exact p2
 obtain⟨⟨cs1,t1,t2⟩,t3,t4,ds,t5,t6⟩:=S.rt;exact⟨⟨hs,⟨⟨cs1,t1.mono (u 1 (by omega) (by omega)),t2.imp λc a g=>EntX.mono (u 2 (by omega) (by omega)) g⟩,IntsX.mono (u 3 (by omega) (by omega)) t3,IntsX.mono (u 4 (by omega) (by omega)) t4,cs,h2,h3.imp λc a g=>DvX.mono (λj B hj=>by
  obtain⟨p1,p2⟩:=Mx.el hj;rcases p1 with⟨p1,p3⟩|⟨p1,p3⟩
  ·exact Tag.at (by rw[ho j p1];exact p3) p2
  ·exact Tag.at (Qgn p1) p2) g⟩,
  S.ot.keep (u 2 (by omega) (by omega)) (u 7 (by omega) (by omega)) (u 8 (by omega) (by omega)),hf,S.los,by rw[ho s hsn];exact S.os,λj hj=>by rw[ho j (by have:=S.lon;omega)];exact S.zero j hj,S.fzl⟩,⟨hnn,ho,λj hj hjs h4=>hlk j hj h4⟩⟩
theorem Qp6 {α β:Type} {R:α->β->Prop}:∀{x:List α} {y:List β} {i:Nat} {a:α} {b:β},All2 R x y->R a b->All2 R (x.set i a) (y.set i b)
 |[],[],_,_,_,_,_=>trivial
 |[],_::_,_,_,_,h,_=>h.elim
 |_::_,[],_,_,_,h,_=>h.elim
 |_::_,_::_,0,_,_,h,hb=>⟨hb,h.2⟩
 |_::_,_::_,i+1,_,_,h,hb=>⟨h.1,Qp6 (i:=i) h.2 hb⟩
theorem over_set {ds:List (List SV)} {i:Nat} {row:List SV} (he:∀e∈ds,e.length=6) (hr:row.length=6) (hi:i<ds.length):over ds.flatten (i*6) row=(ds.set i row).flatten:=by
 obtain⟨h1,-⟩:=Qk2 (cs:=ds) i he;obtain⟨-,h2⟩:=Qk2 (cs:=ds) (i+1) he;rw[List.set_eq_take_append_cons_drop,if_pos hi,List.flatten_append,List.flatten_cons,h1,h2];unfold over;rw[hr,Nat.add_mul,Nat.one_mul]
def vd_t5:ACode:=match b_Qa8 with|.seq _ (.seq _ (.seq _ (.seq _ (.seq _ (.seq _ c)))))=>c|c=>c
def vd_t1:ACode:=match b_Qa8 with|.seq _ (.seq _ (.seq a (.seq b (.seq c (.seq d _)))))=>.seq a (.seq b (.seq c (.seq d vd_t5)))|c=>c
def vd_h (t:ACode):ACode:=match b_Qa8 with|.seq a (.seq b _)=>.seq a (.seq b t)|c=>c
theorem vd_eq:b_Qa8=vd_h vd_t1:=rfl
section
variable {P:Program} (H:Fs P)
include H
theorem Qvz (hS:SortC P) {lo:Nat} {fz:Fz} {s:Nat} {o:Nat->Nat} {mu:St} {n:Nat} {r:Rep} {out:List Msg} {xe xa xs xd xo:SV} (S:SW lo fz s o mu n r out false xe xa xs xd xo) {N:Nat} (hN:r.nodes=(N:Int)) (hN7:N<=7) (h1N:1<=N) (hz:RepSz r) (hl:out.length<=850) {e:Nat->Nat->AV} (e0:e 0 0=.one (.optr s 0)) {k:KT Prop}
 (hk:∀mu' n' o' xe' xa' xs' xd' xo',SW lo fz s o' mu' n' (Qfs r N).1 (out++(Qfs r N).2.1) (Qfs r N).2.2 xe' xa' xs' xd' xo'->Kp (· =7) s o o' mu n mu' n'->k noVal mu' n'):dcode pOrc False (CP P) fz 0 vd_t5 (tmE 70 e) mu n (endP fz [] k):=by
 have hkH:=Hide.mk hk;have hNH:=Hide.mk hN;clear hk hN;unfold vd_t5 b_Qa8;refine dW ?_;simp only[↓E1,E4,seval, *];refine Qmf H hS S hNH.out hN7 h1N hz (by omega) λm4 n4 o4 xe4 xa4 xs4 xd4 xo4 S4 K4=>?_;have hk2:=hkH.out _ _ _ _ _ _ _ _ S4 K4;try simp only[↓E1,E4,seval, *]
 all_goals exact hk2
theorem Qx1 (hS:SortC P) (hID:InsDC P n_Qal) {lo:Nat} {fz:Fz} {s:Nat} {o:Nat->Nat} {mu:St} {n:Nat} {r:Rep} {out:List Msg} {xe xa xs xd xo:SV} (S:SW lo fz s o mu n r out false xe xa xs xd xo) (m:Msg) (yb ye:SV) {b:Nat} (hb:Ev.look mu b=some (msgC m yb ye)) (hob:o b=0) (hyk:yb.known=true/\yb.isMk=false/\ye.known=true/\ye.isMk=false) (hml:EntsR (with' mu fz) ye m.log.ents) (hmz:MsgSz m) {N:Nat} (hN:r.nodes=(N:Int)) (hN7:N<=7) (h1N:1<=N) (hz:RepSz r) (hsl:r.dos.length<=1000) (hdr:(r.dos.map (·.frm)).Pairwise (· <·)) (hl:out.length<=850) {e:Nat->Nat->AV} (e0:e 0 0=.one (.optr s 0)) (e3:e 0 3=.one (.optr b 0)) {k:KT Prop}
 (hk:∀mu' n' o' xe' xa' xs' xd' xo',SW lo fz s o' mu' n' (Qfw r m N).1 (out++(Qfw r m N).2.1) (Qfw r m N).2.2 xe' xa' xs' xd' xo'->Kp TN s o o' mu n mu' n'->k noVal mu' n'):dcode pOrc False (CP P) fz 0 vd_t1 (tmE 70 e) mu n (endP fz [] k):=by
 have hsn:s<n:=S.slt;have ws:=Qem (fz:=fz) S.cells;have wb:=Qem (fz:=fz) hb;obtain⟨ybk,ybm,yek,yem⟩:=hyk;obtain⟨⟨xek,xem⟩,⟨xak,xam⟩,⟨xsk,xsm⟩,⟨xdk,xdm⟩,xok,xom⟩:=S.ks;have hbl:b<n:=S.free.lt wb;have hbs:b≠s:=λe=>by rw[e,S.os]at hob;cases hob
 unfold stepC repC at ws;unfold msgC at wb;have hkH:=Hide.mk hk;have hNH:=Hide.mk hN;clear hk hN;unfold vd_t1 b_Qa8;refine dW ?_;cases h1:decide (r.status=1)with
 |false=>
  have hR:Qfw r m N=(r,[],false):=by unfold Qfw;rw[h1];rfl
  have hk:=hkH.out;rw[hR]at hk;simp only[List.append_nil]at hk;have hk2:=hk _ _ _ _ _ _ _ _ S Kp.refl;clear hk hR;simp only[↓E1,E4,seval, *];all_goals exact hk2
 |true=>
  have hR:Qfw r m N=Qfs {r with dos:=putD r.dos (voteD m)} N:=by unfold Qfw;rw[h1,if_pos rfl]
  have hRH:=Hide.mk hR;clear hR;have hC:=message_CloneLog H m.log ye hmz.log.ents hmz.log.bat;unfold lgC at hC;have hml0:=Hide.mk hml;clear hml;simp only[↓E1,E4,seval, *];refine hC.d2 S.free hml0.out ?_;rintro v new n2 g2 ⟨x',rfl,hx'⟩;have l2:=g2.le;obtain⟨-,-,x'k,x'm⟩:=(EntsX.to hx').len;clear ws wb hC;have ws:=Qem (fz:=fz) ((g2.own s hsn).trans S.cells);have wb:=Qem (fz:=fz) ((g2.own b hbl).trans hb);have hns:(n2=s)=False:=by simp;omega
  have hnb:(n2=b)=False:=by simp;omega
  unfold stepC repC at ws;unfold msgC at wb;simp only[↓E1,E4,seval, *];have gB:Gr n fz mu ((n2,[I m.frm,I m.normal,I m.commit,I m.log.base,m.log.snap.sv,x'])::(new++mu)) n (n2+1):=g2.cons l2 _;have hd2:Ev.look ((n2,[I m.frm,I m.normal,I m.commit,I m.log.base,m.log.snap.sv,x'])::(new++mu)) n2=some [I m.frm,I m.normal,I m.commit,I m.log.base,m.log.snap.sv,x']:=by rw[Qer,if_pos rfl]
  obtain⟨m2,hm2⟩:∃z,((n2,[I m.frm,I m.normal,I m.commit,I m.log.base,m.log.snap.sv,x'])::(new++mu))=z:=⟨_,rfl⟩
  have hF0:DvX (Mx o n (n2+1) (with' m2 fz)) (dvC (voteD m) x') (voteD m):=⟨x',rfl,EntsX.mono (λj B hj=>by
   obtain⟨p1,p2⟩:=From.el hj;have p3:=g2.free.lt p2;exact Mx.at (.inr ⟨p1,by omega⟩) (by rw[<-hm2,Qfl,if_neg (by omega)];exact p2)) hx'⟩
  rw[hm2]at gB hd2;obtain⟨ds,t5,t6⟩:=S.rt.dos;have hds:=t6.length;have t6:=t6.imp (S:=DvX (Mx o n (n2+1) (with' m2 fz))) λc a g=>DvX.mono (λj B hj=>by
   obtain⟨p1,p2⟩:=Tag.el hj;have p3:=S.free.lt p2;exact Mx.at (.inl ⟨p3,p1⟩) (by rw[gB.ext j p3];exact p2)) g
  have hs2:=(gB.own s hsn).trans S.cells;have hb2:=(gB.own b hbl).trans hb;have hkd:([I m.frm,I m.normal,I m.commit,I m.log.base,m.log.snap.sv,x']:List SV).length=6/\Qeq [I m.frm,I m.normal,I m.commit,I m.log.base,m.log.snap.sv,x']=true:=⟨rfl,by simp only[↓E1,E2,seval, *]⟩
  have hbl5:∀j,blk xd=some j->o j=5/\j<n:=λj hj=>by
   rcases t5 with⟨h3|h3,-⟩|⟨id,h3,h4,-,-⟩
   ·rw[h3]at hj;cases hj
   ·rw[h3]at hj;cases hj
   ·rw[h3]at hj;cases hj;exact⟨(Tag.el h4).1,S.free.lt (Tag.el h4).2⟩
  have hDR:DvsR (with' m2 fz) xd r.dos:=DvsR.mono (gB.sub S.free (Nat.le_refl _)) S.rs.2.2.2;have gBf:=gB.free;have hmem:∀d∈putD r.dos (voteD m),LgSz d.log:=λd hd=>by
   rcases Qor hd with rfl|hd
   ·exact hmz.log
   ·exact hz.dlog d hd
  have hpl:(putD r.dos (voteD m)).length<=1002:=by
   have:=Qk1 r.dos (voteD m) _ (Nat.le_refl _);have:=Qwp (putDt r.dos (voteD m) r.dos.length).1;unfold putD;split
   ·omega
   ·rw[List.length_append,List.length_singleton];omega
  rw[<-hm2]at hDR gBf;have hmH:=Hide.mk hm2;clear hm2;try simp only[↓E1,E4,seval, *]
  refine(Qh8 H xd r.dos m.frm hdr (by omega)).q1 gBf hDR ?_;rintro v n3 l3 ⟨i,bo,rfl,hat⟩;cases bo with
  |true=>
   obtain⟨hi,hp⟩:=putD_yes (d:=voteD m) hdr hat;rcases t5 with⟨-,h0⟩|⟨id,rfl,t7,t8,t9⟩
   ·rw[h0]at hds;simp at hds;omega
   have hid:=hbl5 id rfl;have hnid:(n2=id)=False:=by simp;omega
   have hfzi:=S.fzl id (S.ge (by rw[hid.1];omega));have hlk:Ev.look (new++mu) id=some ds.flatten:=(g2.own id hid.2).trans (by have:=(Tag.el t7).2;rwa [Qfp hfzi]at this);have hwk:with' (new++mu) fz id=some ds.flatten:=Qem hlk;have hil:i<ds.length:=by omega
   have hfl:i*6+6<=ds.flatten.length:=by rw[Qfr λe he=>(t9 e he).1];omega
   simp only[↓E1,E4,seval, *];obtain⟨m3,hm3⟩:∃z,((n2,[I m.frm,I m.normal,I m.commit,I m.log.base,m.log.snap.sv,x'])::putS (new++mu) id (over ds.flatten (i*6) [I m.frm,I m.normal,I m.commit,I m.log.base,m.log.snap.sv,x']))=z:=⟨_,rfl⟩
   rw[hm3];have hm2:=hmH.out;have u3:∀j,j≠id->Ev.look m3 j=Ev.look m2 j:=λj hj=>by rw[<-hm3,<-hm2];simp only[Qer,Qen,show(id=j)=False from eq_false (λe=>hj e.symm),if_false]
   have u4:Ev.look m3 id=some (ds.set i [I m.frm,I m.normal,I m.commit,I m.log.base,m.log.snap.sv,x']).flatten:=by
    rw[<-hm3,Qer,if_neg (by omega),Qen,if_pos rfl,hlk,<-over_set (λe he=>(t9 e he).1) hkd.1 hil];rfl
   have hrows:∀e∈ds.set i [I m.frm,I m.normal,I m.commit,I m.log.base,m.log.snap.sv,x'],e.length=6/\Qeq e=true:=λe he=>by
    rcases List.mem_or_eq_of_mem_set he with he|he
    ·exact t9 e he
    ·rw[he];exact hkd
   obtain⟨S3,K3⟩:=SW.setD S (mu':=m3) (n':=n3) (cs:=ds.set i (dvC (voteD m) x')) (l':=r.dos.set i (voteD m)) (by omega) (λj hj hbj=>(u3 j (λe=>hbj (by rw[e];rfl))).trans (gB.own j hj))
    (.inr ⟨id,by rw[List.length_set],Tag.at (by rw[Qfm hid.2];exact hid.1) (Qem u4),by exact Qfu (Qe3 hrows),hrows⟩)
    (Qp6 (t6.imp λc a g=>DvX.mono (λj B hj=>by
     obtain⟨p1,p2⟩:=Mx.el hj;exact Mx.at (by omega) (by rw[Qeu (u3 j (λe=>by rw[e]at p1;omega))];exact p2)) g) (DvX.mono (λj B hj=>by
     obtain⟨p1,p2⟩:=Mx.el hj;exact Mx.at (by omega) (by rw[Qeu (u3 j (λe=>by rw[e]at p1;omega))];exact p2)) hF0))
    (λj=>by rw[Qeu (u3 _ (by omega))];exact(gB.free.le l3) j)
   rw[<-hp]at S3;refine Qvz H hS S3 hNH.out hN7 h1N ⟨hz.log,hz.acks,hz.starts,by show(putD r.dos (voteD m)).length<=_;omega,λd hd=>hmem d hd⟩ hl (by first|rfl|simp[updN,updE, *]) λm4 n4 o4 xe4 xa4 xs4 xd4 xo4 S4 K4=>?_;have hk:=hkH.out;rw[hRH.out]at hk;exact hk _ _ _ _ _ _ _ _ S4 ((K3.weaken λt h=>by rw[h];exactλh=>by cases h).trans (K4.weaken λt h=>by rw[h];exactλh=>by cases h))
  |false=>
   have hp:=putD_no (d:=voteD m) hdr hat;have hle:i<=ds.length:=by have:=hat.le;rw[List.length_map]at this;omega
   simp only[↓E1,E4,seval, *];refine hID xd ds [I m.frm,I m.normal,I m.commit,I m.log.base,m.log.snap.sv,x'] i n3 fz _ _ _ (SlX.mono t5 λj B hj=>by
    have p3:=S.free.lt (Tag.el hj).2;rw[Qfl,if_neg (by omega),Qfl,if_neg (by omega),g2.ext j p3];exact(Tag.el hj).2) (λj hj=>S.fzl j (S.ge (by rw[(hbl5 j hj).1];omega))) hle (by rw[Qer,if_pos rfl]) hkd.1 hkd.2 (λhid=>by have:=(hbl5 _ hid).2;omega) (by omega) λmu' q1 q2 q3=>?_
   have hlk:∀j,j<n3->j≠n2->blk xd≠some j->Ev.look mu' j=Ev.look (new++mu) j:=λj hj h2 hbj=>by rw[q1 j (by omega) hbj,Qer,if_neg (by omega),Qer,if_neg (λe=>h2 e.symm)]
   have hrows:∀e∈ds.take i++[I m.frm,I m.normal,I m.commit,I m.log.base,m.log.snap.sv,x']::ds.drop i,e.length=6/\Qeq e=true:=λe he=>by
    have hall:∀e∈ds,e.length=6/\Qeq e=true:=by
     rcases t5 with⟨-,h0⟩|⟨id,-,-,-,t9⟩
     ·rw[h0];intro e he;cases he
     ·exact t9
    rcases List.mem_append.1 he with he|he
    ·exact hall e (List.mem_of_mem_take he)
    ·rcases List.mem_cons.1 he with he|he
     ·rw[he];exact hkd
     ·exact hall e (List.mem_of_mem_drop he)
   have hm2:=hmH.out;have u3:∀j,j<n2->blk xd≠some j->with' mu' fz j=with' m2 fz j:=λj hj hbj=>Qeu (by rw[hlk j (by omega) (by omega) hbj,<-hm2,Qer,if_neg (by omega)]);have hmx:Sub (Mx o n (n2+1) (with' m2 fz)) (Mx o n (n2+1) (with' mu' fz)):=λj B hj=>by
    obtain⟨p1,p2⟩:=Mx.el hj;refine Mx.at p1 ?_;by_cases e:j=n2
    ·subst e;rw[Qeu (show Ev.look mu' j=Ev.look m2 j by rw[q1 j (by omega) (λhid=>by have:=(hbl5 _ hid).2;omega),Qer,if_neg (by omega),Qer,if_pos rfl,hd2])];exact p2
    ·rw[u3 j (by omega) (λhid=>by have:=hbl5 _ hid;omega)];exact p2
   obtain⟨hs3,S3,K3⟩:=SW.insD S (n':=n3+1+1) (nb:=n2+1) (l':=r.dos.take i++voteD m::r.dos.drop i) (x':=.osl (n3+1) 0 (ds.length+1) (ds.length+1) 6) (cs:=ds.take i++dvC (voteD m) x'::ds.drop i) (mu':=mu') (by omega) (by omega)
    (λj hj hbj=>(hlk j (by omega) (by omega) hbj).trans (g2.own j hj))
    (.inr ⟨n3+1,by rw[show(ds.take i++dvC (voteD m) x'::ds.drop i).length=ds.length+1 by simp;omega],From.at (by omega) (Qem q3),Qfu (Qe3 hrows),hrows⟩)
    (((t6.take i).append (show All2 _ (dvC (voteD m) x'::ds.drop i) (voteD m::r.dos.drop i)from⟨hF0,t6.drop i⟩)).imp λc a g=>DvX.mono hmx g)
    (λj=>by
     have:=q1 (n3+1+1+j) (by omega) (λhbj=>by have:=(hbl5 _ hbj).2;omega);rw[Qer,if_neg (by omega),Qer,if_neg (by omega)]at this;rw[Qeu this];exact g2.free.none (by omega))
   rw[<-hp]at S3 K3;have hb3:=(hlk b (by omega) (by omega) (λhbj=>by have:=(hbl5 _ hbj).1;omega)).trans ((g2.own b hbl).trans hb);have ws3:=Qem (fz:=fz) hs3;have wb3:=Qem (fz:=fz) hb3;unfold stepC repC at hs3 ws3;unfold msgC at wb3;have hcell:stepC {r with dos:=putD r.dos (voteD m)} xe xa xs (.osl (n3+1) 0 (ds.length+1) (ds.length+1) 6) xo false=[I r.me,I r.nodes,I r.view,I r.normal,I r.status,I r.commit,.bool r.sent,I r.log.base,r.log.snap.sv,xe,xa,xs,.osl (n3+1) 0 (ds.length+1) (ds.length+1) 6,xo,.bool false]:=rfl;rw[hcell]at S3 K3;rw[hds]at S3 K3;clear ws wb hns hnb q1 q2 q3 hlk u3 hmx hrows hcell hm2;simp only[↓E1,E4,seval, *];refine Qvz H hS S3 hNH.out hN7 h1N ⟨hz.log,hz.acks,hz.starts,by show(putD r.dos (voteD m)).length<=_;omega,λd hd=>hmem d hd⟩ hl (by first|rfl|simp[updN,updE, *]) λm4 n4 o4 xe4 xa4 xs4 xd4 xo4 S4 K4=>?_;have hk:=hkH.out;rw[hRH.out]at hk;exact hk _ _ _ _ _ _ _ _ S4 ((K3.weaken λt h=>by rw[h];exactλh=>by cases h).trans (K4.weaken λt h=>by rw[h];exactλh=>by cases h))
theorem Qt4 (hS:SortC P) (hID:InsDC P n_Qal):Qvb P:=by
 intro lo fz s o mu n r out xe xa xs xd xo S m yb ye hm hml hmz N hN hN7 h1N hz hdl hdr hl k w hk;refine CP_of H.Qa8 H.mx 0 ?_;obtain⟨-,-,ybk,ybm⟩:=hm.1.len;obtain⟨-,-,yek,yem⟩:=hm.2.len;have hsn:s<n:=S.slt;have gA:=(Gr.refl (lo:=n) S.free).cons (Nat.le_refl _) (msgC m yb ye);have S1:=S.trim.gr gA;have b1:Ev.look ((n,msgC m yb ye)::mu) n=some (msgC m yb ye):=by rw[Qer,if_pos rfl]
 have K1:Kp TN s (trim o n) (trim o n) mu n ((n,msgC m yb ye)::mu) (n+1):=Gr.kp gA;have hm1:=MsgS.mono (gA.sub S.free (Nat.le_refl _)) hm;have hon:trim o n n=0:=Qhr (Nat.le_refl _);have hlon:=S.lon;obtain⟨m1,hm1e⟩:∃mz:St,((n,msgC m yb ye)::mu)=mz:=⟨_,rfl⟩
 rw[hm1e]at gA S1 b1 K1 hm1;obtain⟨⟨xek,xem⟩,⟨xak,xam⟩,⟨xsk,xsm⟩,⟨xdk,xdm⟩,xok,xom⟩:=S1.ks;have ws1:=Qem (fz:=fz) S1.cells;have wb1:=Qem (fz:=fz) b1;have hkH:=Hide.mk hk;have hNH:=Hide.mk hN;clear hk hN;rw[i_Qa8,dc_at vd_eq];have b1':=b1;unfold msgC at hm1e wb1⊢;unfold stepC repC at ws1;unfold vd_h b_Qa8;refine dW ?_;cases h1:decide (r.view<m.view)with
 |false=>
  have hR:doS r m N=Qfw r m N:=by unfold doS;rw[h1];rfl
  have hRH:=Hide.mk hR;clear hR;simp only[↓E1,E4,seval, *];refine Qx1 H hS hID S1 m yb ye (b:=n) b1' hon ⟨ybk,ybm,yek,yem⟩ hm1.2 hmz hNH.out hN7 h1N hz hdl hdr (by omega) (by first|rfl|simp[updN,updE, *]) (by first|rfl|simp[updN,updE, *]) λm4 n4 o4 xe4 xa4 xs4 xd4 xo4 S4 K4=>?_;have hk:=hkH.out;rw[hRH.out]at hk;exact hk _ _ _ _ _ _ _ _ S4 (K1.trans K4).trim
 |true=>
  have hR:doS r m N=((Qfw (Qfg r m.view N) m N).1,allM r (Qg3 m.view) N++(Qfw (Qfg r m.view N) m N).2.1,(Qfw (Qfg r m.view N) m N).2.2):=by unfold doS;rw[h1,if_pos rfl]
  have hRH:=Hide.mk hR;clear hR;simp only[↓E1,E4,seval, *];refine Qnu H S1 m.view hNH.out hN7 (by omega) λm2 n2 o2 xa2 xo2 S2 K2=>?_;have b2:=(K2.keep n (by omega) (by omega) (by rw[hon];omega)).trans b1';have ho2:o2 n=0:=by rw[K2.tags n (by omega)];exact hon
  have hal:=Qf4 r (Qg3 m.view) N;have hm2:EntsR (with' m2 fz) ye m.log.ents:=EntsR.mono Low.sub (by rw[Low.kp (K1.trans (K2.weaken λt h=>by rw[h];exactλh=>by cases h) |>.trim) S.los S.lon (λj hj=>S.zero j hj) (λh=>h rfl)];exact hml);clear ws1 wb1;have hnt:n<n2:=by have:=K2.le;omega
  try simp only[↓E1,E4,seval, *]
  refine Qx1 H hS hID S2 m yb ye (b:=n) b2 ho2 ⟨ybk,ybm,yek,yem⟩ hm2 hmz (r:=Qfg r m.view N) hNH.out hN7 h1N (Qjo hz _ hN7) (by simp[Qfg,anewR]) (by simp[Qfg,anewR]) (by rw[List.length_append];omega) (by first|rfl|simp[updN,updE, *]) (by first|rfl|simp[updN,updE, *]) λm4 n4 o4 xe4 xa4 xs4 xd4 xo4 S4 K4=>?_;have hk:=hkH.out;rw[hRH.out]at hk;simp only[<-List.append_assoc]at hk;exact hk _ _ _ _ _ _ _ _ S4 ((K1.trans (K2.weaken λt h=>by rw[h];exactλh=>by cases h)).trans K4).trim
end
structure LndM (m:Msg):Prop where
 bat:m.batch.length<=4398046511102
 log:LndLg m.log
structure LentM (M:Fz) (m:Msg) (idp ide:Nat):Prop where
 bat:LentP M idp m.batch
 log:∃lo,LentE lo M ide m.log.ents
theorem LentM.mono {M M':Fz} {m:Msg} {idp ide:Nat} (hs:Sub M M') (h:LentM M m idp ide):LentM M' m idp ide:=by
 obtain⟨h1,lo,h2⟩:=h;exact⟨hs _ _ h1,lo,h2.mono hs⟩
theorem LentM.ms {M:Fz} {m:Msg} {idp ide:Nat} (h:LentM M m idp ide):MsgS M m (.osl idp 0 m.batch.length (m.batch.length+2) 3) (.osl ide 0 m.log.ents.length (m.log.ents.length+1) 5):=by
 obtain⟨h1,lo,h2⟩:=h;exact⟨LentP.sl h1,h2.rs⟩
theorem LndM.ms {m:Msg} (h:LndM m):MsgSz m:=⟨by have:=h.bat;omega,⟨by have:=h.log.ents;omega,λe he=>by have:=h.log.bat e he;omega⟩⟩
section
variable {P:Program} (H:Fs P)
include H
theorem law0_LendMessage (m:Msg) (zb zm:SV) (hz:LndM m):Ctr P n_Qbn [.ag (msgC m zb zm)] (λM=>MsgS M m zb zm) (λn _ M v=>∃idp ide,v=.ag (msgC m (.osl idp 0 m.batch.length (m.batch.length+2) 3) (.osl ide 0 m.log.ents.length (m.log.ents.length+1) 5))/\LentM M m idp ide):=Ctr.of H.mx H.Qbn (λ_=>0) λfz mu n k hfr s hk=>by
 obtain⟨s1,s2⟩:=s;obtain⟨zbl,zbs,zbk,zbm⟩:=s1.len;obtain⟨zml,zms,zmk,zmm⟩:=s2.len;have hP:=law0_LendPoints H zb m.batch hz.bat;have hE:=law0_LendLog H m.log zm hz.log.ents hz.log.bat;unfold lgC at hE;have hkH:=Hide.mk hk;clear hk;rw[dY a_Qbn.eq_1 b_Qbn.eq_1];unfold msgC;simp only[↓E1,E2,seval, *];refine hP.c1 (gr2 hfr).free (PtsR.mono (sub2 hfr) s1) ?_;rintro v mu1 n1 g1 ⟨idp,rfl,hi,hG⟩;have ga:=(gr2 hfr).trans (g1.weaken (by omega));have b1:=(g1.own n (by omega)).trans (by rw[Qer,if_neg (by omega),Qer,if_pos rfl]);have b2:=(g1.own (n+1) (by omega)).trans (by rw[Qer,if_pos rfl]);have l1:=g1.le;obtain⟨muA,hA⟩:∃mm,mm=putS mu1 n (msgC m (.osl idp 0 m.batch.length (m.batch.length+2) 3) zm):=⟨_,rfl⟩
 have gb:Gr n fz mu muA n n1:=by rw[hA];exact ga.put (Nat.le_refl _) b1
 have c1:Ev.look muA n=some (msgC m (.osl idp 0 m.batch.length (m.batch.length+2) 3) zm):=by rw[hA,Qen,if_pos rfl,b1];rfl
 have c2:Ev.look muA (n+1)=some [I 0,I 0,I 0,I 0,I 0,I 0,I 0,I 0,I 0,I 0,I 0,I 0,I 0,I 0,.str 0 0,.nsl,I 0,.str 0 0,.nsl,.str 0 0]:=by rw[hA,Qen,if_neg (by omega),b2]
 have hGA:LentP (with' muA fz) idp m.batch:=by unfold LentP;rw[hA,Qet b1,if_neg (by omega)];exact hG
 unfold msgC at hA c1;have w1:=Qem (fz:=fz) b1;simp only[↓E1,E2,seval, *,Qfk,Qen,Option.isSome_some,Option.map_some,List.append_assoc];rw[<-hA];clear w1 hA;have w1:=Qem (fz:=fz) c1;try simp only[↓E1,E2,seval, *,Qfk,Qen,Option.isSome_some,Option.map_some,List.append_assoc]
 refine hE.c1 gb.free (EntsR.mono (gb.sub hfr (Nat.le_refl _)) s2) ?_;rintro v mu2 n2 g2 ⟨ide,rfl,hL⟩;have l2:=g2.le;have b3:=(g2.own n (by omega)).trans c1;have b4:=(g2.own (n+1) (by omega)).trans c2;have gc:=gb.trans (g2.weaken (by omega));obtain⟨muB,hB⟩:∃mm,mm=putS mu2 n (msgC m (.osl idp 0 m.batch.length (m.batch.length+2) 3) (.osl ide 0 m.log.ents.length (m.log.ents.length+1) 5)):=⟨_,rfl⟩
 have gd:Gr n fz mu muB n n2:=by rw[hB];exact gc.put (Nat.le_refl _) b3
 have c3:Ev.look muB n=some (msgC m (.osl idp 0 m.batch.length (m.batch.length+2) 3) (.osl ide 0 m.log.ents.length (m.log.ents.length+1) 5)):=by rw[hB,Qen,if_pos rfl,b3];rfl
 have c4:Ev.look muB (n+1)=some [I 0,I 0,I 0,I 0,I 0,I 0,I 0,I 0,I 0,I 0,I 0,I 0,I 0,I 0,.str 0 0,.nsl,I 0,.str 0 0,.nsl,.str 0 0]:=by rw[hB,Qen,if_neg (by omega),b4]
 have hGB:LentP (with' muB fz) idp m.batch:=by unfold LentP;rw[hB,Qet b3,if_neg (by omega)];exact g2.old gb.free hGA
 have hLB:LentE n1 (with' muB fz) ide m.log.ents:=hL.up λj B hj g=>by rw[hB,Qet b3,if_neg (by omega)];exact g
 unfold msgC at hB c3;have w3:=Qem (fz:=fz) b3;simp only[↓E1,E2,seval, *,Qfk,Qen,Option.isSome_some,Option.map_some,List.append_assoc];rw[<-hB];clear w3 w1 hB;have w1:=Qem (fz:=fz) c3;have w2:=Qem (fz:=fz) c4;have ge:Gr n fz mu (putS muB (n+1) (msgC m (.osl idp 0 m.batch.length (m.batch.length+2) 3) (.osl ide 0 m.log.ents.length (m.log.ents.length+1) 5))) n n2:=gd.put (by omega) c4;have hF:LentM (with' (putS muB (n+1) (msgC m (.osl idp 0 m.batch.length (m.batch.length+2) 3) (.osl ide 0 m.log.ents.length (m.log.ents.length+1) 5))) fz) m idp ide:=⟨by unfold LentP;rw[Qet c4,if_neg (by omega)];exact hGB,n1,hLB.up λj B hj g=>by rw[Qet c4,if_neg (by omega)];exact g⟩
 have hk2:=hkH.out _ _ _ ge ⟨idp,ide,rfl,hF⟩;unfold msgC at hk2;try simp only[↓E1,E2,seval, *,Qfk,Qen,Option.isSome_some,Option.map_some,List.append_assoc]
 all_goals exact hk2
theorem law0_KeptMessage (m:Msg) (idp ide:Nat) (zb zm:SV) (hz:LndM m):BoolC P n_Qbo [.ag (msgC m (.osl idp 0 m.batch.length (m.batch.length+2) 3) (.osl ide 0 m.log.ents.length (m.log.ents.length+1) 5)),.ag (msgC m zb zm)] (λM=>LentM M m idp ide/\MsgS M m zb zm) true:=boolC H.mx H.Qbo 0 λfz mu n k hfr g0 hx h=>by
 obtain⟨⟨hp,lo,he⟩,s1,s2⟩:=hx;obtain⟨zbl,zbs,zbk,zbm⟩:=s1.len;obtain⟨zml,zms,zmk,zmm⟩:=s2.len;have hP:=law0_KeptPoints H idp zb m.batch (by have:=hz.bat;omega);have hE:=law0_KeptLog H m.log ide lo zm hz.log;have hkH:=Hide.mk h;clear h;rw[dY a_Qbo.eq_1 b_Qbo.eq_1];unfold msgC lgC at*
 have gA:=gr2 (c:=[I m.kind,I m.frm,I m.to,I m.view,I m.normal,I m.at',I m.commit,I m.round,I m.client,I m.session,I m.number,I m.code,I m.agg,I m.until',m.series.sv,.osl idp 0 m.batch.length (m.batch.length+2) 3,I m.log.base,m.log.snap.sv,.osl ide 0 m.log.ents.length (m.log.ents.length+1) 5,m.text.sv]) (d:=[I m.kind,I m.frm,I m.to,I m.view,I m.normal,I m.at',I m.commit,I m.round,I m.client,I m.session,I m.number,I m.code,I m.agg,I m.until',m.series.sv,zb,I m.log.base,m.log.snap.sv,zm,m.text.sv]) hfr;have uA:=gA.sub hfr (Nat.le_refl _);simp only[↓E1,E2,seval, *];refine hP.c1 gA.free ⟨uA _ _ hp,PtsR.mono uA s1⟩ ?_;rintro v mu2 n2 g2 rfl;have b1:=(g2.own n (by omega)).trans (by rw[Qer,if_neg (by omega),Qer,if_pos rfl]);have b2:=(g2.own (n+1) (by omega)).trans (by rw[Qer,if_pos rfl]);have w1:=Qem (fz:=fz) b1;have w2:=Qem (fz:=fz) b2;have l2:=g2.le;have gB:=gA.trans (g2.weaken (show n<=n+1+1 by omega));have uB:=gB.sub hfr (Nat.le_refl _);simp only[↓E1,E2,seval, *];refine hE.c1 gB.free ⟨he.mono uB,EntsR.mono uB s2⟩ ?_;rintro v mu3 n3 g3 rfl;have hk2:=hkH.out _ _ (gB.trans (g3.weaken (by omega)));simp only[↓E1,E2,seval, *];all_goals exact hk2
end
theorem Rg.mono {lo hi:Nat} {M M':Fz} (h:Sub M M'):Sub (Rg lo hi M) (Rg lo hi M'):=λj B g=>Rg.at (Rg.el g).1 (Rg.el g).2.1 (h _ _ (Rg.el g).2.2)
theorem SpR.gr1 {lo hi:Nat} {fz:Fz} {mu mu':St} {n n':Nat} (h:SpR lo hi fz mu mu' n n') (hl:lo<=n):Gr lo fz mu mu' n n':=
 ⟨h.le,λid hi=>Qeu (h.out id (by omega) (by omega)),λid hi=>h.out id (by omega) (by omega),h.free⟩
section
variable {P:Program} (H:Fs P)
include H
end
theorem SpR.sub {lo hi lo2 hi2:Nat} {fz:Fz} {mu mu':St} {n n':Nat} (h:SpR lo hi fz mu mu' n n') (hd:hi2<=lo\/hi<=lo2) (hn:hi2<=n):Sub (Rg lo2 hi2 (with' mu fz)) (Rg lo2 hi2 (with' mu' fz)):=λj B hj=>by
 obtain⟨h1,h2,h3⟩:=Rg.el hj;exact Rg.at h1 h2 (by rw[Qeu (h.out j (by omega) (by omega))];exact h3)
section
variable {P:Program} (H:Fs P)
include H
end
theorem Qsb {r:Rep} {m:Msg} {N:Nat} (h:MsgSz m):∀x∈allM r m N,MsgSz x:=λx hx=>by
 unfold allM at hx;obtain⟨j,-,rfl⟩:=List.mem_map.1 hx;exact⟨h.bat,h.log⟩
theorem Qyb {r r1:Rep} {l:Lg} {c:Int} {N:Nat} (hN:N<=7) (hl:LgSz l) (h:takeR r l c N=some r1):RepSz r1:=by
 unfold takeR at h;split at h
 ·cases h
 ·rename_i g hg;split at h
  ·cases h
  ·cases h;exact⟨inst_sz hl hg,by simp[tk0,anewR];omega,by simp[tk0,anewR],by simp[tk0,anewR],λd hd=>by simp[tk0,anewR]at hd⟩
theorem best_sz {r:Rep} (hz:RepSz r):LgSz (bestD r).log:=by
 obtain⟨h,e⟩:=Qrr r;rw[e];rcases List.mem_append.1 (List.getElem_mem h)with h1|h1
 ·exact hz.dlog _ h1
 ·rw[List.mem_singleton.1 h1];exact hz.log
theorem Qpp {r:Rep} {N:Nat} (hz:RepSz r) (hN:N<=7):RepSz (Qfs r N).1/\(∀m∈(Qfs r N).2.1,MsgSz m)/\(Qfs r N).2.1.length<=7:=by
 rcases Qjh r N with⟨-,hR⟩|⟨-,-,hR⟩|⟨-,-,hR⟩
 ·rw[hR];exact⟨hz,(λm hm=>by cases hm),by simp⟩
 ·rw[hR];exact⟨hz,(λm hm=>by cases hm),by simp⟩
 ·rw[hR];cases hT:takeR r (bestD r).log (Qib (allD r) (allD r).length) N with
  |none=>exact⟨hz,(λm hm=>by cases hm),by simp[chose]⟩
  |some r1=>
   have h1:=Qyb hN (best_sz hz) hT;exact⟨⟨h1.log,h1.acks,h1.starts,h1.dos,h1.dlog⟩,Qsb (sz_set h1.log),Nat.le_trans (Qf4 _ _ _) hN⟩
section
variable {P:Program} (H:Fs P)
include H
theorem law17_ReplicaReceives (hS:SortC P) (hI:InsC P) (hID:InsDC P n_Qal) (aw:BoolC P n_Qdn [] (λ_=>True) true) (r:Rep) (xe xa xs xd:SV) (m:Msg) (zb zm:SV) (hz:RepSz r) (hmz:MsgSz m) (hl:LndSz r) (hlm:LndM m) (hok1:Ok r.log) (hok2:∀d∈r.dos,Ok d.log) (hok3:Ok m.log)
 {ra:Rep} {pa:List Msg} (hta:Qfo r m=(ra,pa)) (za:RepSz ra) (hpa:∀m∈pa,MsgSz m) (hpl:pa.length<=1000):BoolC P n_Qar [.ag (repC r xe xa xs xd),.ag (msgC m zb zm)] (λM=>RepS M r xe xa xs xd/\MsgS M m zb zm) true:=boolC H.mx H.Qar 0 λfz mu n k hfr gg s hk=>by
 obtain⟨s1,s2⟩:=s;obtain⟨-,-,xek,xem⟩:=s1.1.len;obtain⟨-,-,xak,xam⟩:=s1.2.1.len;obtain⟨-,-,xsk,xsm⟩:=s1.2.2.1.len;obtain⟨-,-,xdk,xdm⟩:=s1.2.2.2.len;obtain⟨-,-,zbk,zbm⟩:=s2.1.len;obtain⟨-,-,zmk,zmm⟩:=s2.2.len;have hkH:=Hide.mk hk;clear hk;have hLR:=law0_LendReplica H r xe xa xs xd hl;have hLM:=law0_LendMessage H m zb zm hlm;rw[dY a_Qar.eq_1 b_Qar.eq_1];have gA:Gr n fz mu ((n+1,msgC m zb zm)::(n,repC r xe xa xs xd)::mu) n (n+1+1):=gr2 hfr;have b1:Ev.look ((n+1,msgC m zb zm)::(n,repC r xe xa xs xd)::mu) n=some (repC r xe xa xs xd):=by rw[Qer,if_neg (by omega),Qer,if_pos rfl]
 have b2:Ev.look ((n+1,msgC m zb zm)::(n,repC r xe xa xs xd)::mu) (n+1)=some (msgC m zb zm):=by rw[Qer,if_pos rfl]
 have t1:=RepS.mono (gA.sub hfr (Nat.le_refl _)) s1;have t2:=MsgS.mono (gA.sub hfr (Nat.le_refl _)) s2;unfold repC msgC at*
 simp only[↓E1,E2,seval, *];generalize hm1:((n+1,_)::_:St)=m1 at gA b1 b2 t1 t2⊢;clear hm1;have wb1:=Qem (fz:=fz) b1;have wb2:=Qem (fz:=fz) b2;try simp only[↓E1,E2,seval, *]
 refine hLR.d4 gA.free t1 ?_;rintro v new n2 g2 i2 ⟨ide,ida,ids,xd1,rfl,hX⟩;have l2:=g2.le;simp only[↓E1,E2,seval, *];refine hLM.d4 g2.free (MsgS.mono (g2.sub gA.free (Nat.le_refl _)) t2) ?_;rintro v new2 n3 g3 i3 ⟨idp,idm,rfl,hY⟩;have l3:=g3.le;have hXr:=hX.rs;obtain⟨-,-,yek,yem⟩:=hXr.2.2.2.len;have gY:Gr n fz mu (new2++(new++m1)) n n3:=(gA.trans (g2.weaken (by omega))).trans (g3.weaken (by omega));have hW:∀id,Ev.look (new++(new2++[(n3+1,[I 0,I 0,I 0,I 0,I 0,I 0,I 0,I 0,I 0,I 0,I 0,I 0,I 0,I 0,.str 0 0,.nsl,I 0,.str 0 0,.nsl,.str 0 0])])++m1) id=Ev.look (new2++((n3+1,[I 0,I 0,I 0,I 0,I 0,I 0,I 0,I 0,I 0,I 0,I 0,I 0,I 0,I 0,.str 0 0,.nsl,I 0,.str 0 0,.nsl,.str 0 0])::(new++m1))) id:=λid=>by
  rw[List.append_assoc,Qkr (a:=new) (b:=new2++[(n3+1,[I 0,I 0,I 0,I 0,I 0,I 0,I 0,I 0,I 0,I 0,I 0,I 0,I 0,I 0,.str 0 0,.nsl,I 0,.str 0 0,.nsl,.str 0 0])])]
  ·simp
  ·intro hn;have h1:=i2 id hn;rw[Qe1,i2.apart i3 (.inl (by omega)) hn];exact(Qer ..).trans (if_neg (by omega))
 have hn2:Ev.look new2 (n3+1)=none:=by
  cases e:Ev.look new2 (n3+1)with
  |none=>rfl
  |some c=>have:=i3 (n3+1) (by rw[e];simp);omega
 have hW1:Ev.look (new++(new2++[(n3+1,[I 0,I 0,I 0,I 0,I 0,I 0,I 0,I 0,I 0,I 0,I 0,I 0,I 0,I 0,.str 0 0,.nsl,I 0,.str 0 0,.nsl,.str 0 0])])++m1) (n3+1)=some [I 0,I 0,I 0,I 0,I 0,I 0,I 0,I 0,I 0,I 0,I 0,I 0,I 0,I 0,.str 0 0,.nsl,I 0,.str 0 0,.nsl,.str 0 0]:=by
  rw[hW,Qe1,hn2];exact(Qer ..).trans (if_pos rfl)
 have hW2:∀id,id≠n3+1->Ev.look (new++(new2++[(n3+1,[I 0,I 0,I 0,I 0,I 0,I 0,I 0,I 0,I 0,I 0,I 0,I 0,I 0,I 0,.str 0 0,.nsl,I 0,.str 0 0,.nsl,.str 0 0])])++m1) id=Ev.look (new2++(new++m1)) id:=λid hid=>by
  rw[hW,Qe1,Qe1,Qer,if_neg (λe=>hid e.symm)]
 clear hW hn2;obtain⟨W,hWe⟩:∃W,new++(new2++[(n3+1,[I 0,I 0,I 0,I 0,I 0,I 0,I 0,I 0,I 0,I 0,I 0,I 0,I 0,I 0,.str 0 0,.nsl,I 0,.str 0 0,.nsl,.str 0 0])])++m1=W:=⟨_,rfl⟩
 rw[hWe]at hW1 hW2;try simp only[↓E1,E2,seval, *]
 clear hWe;have wm:with' (putS W (n3+1) [I m.kind,I m.frm,I m.to,I m.view,I m.normal,I m.at',I m.commit,I m.round,I m.client,I m.session,I m.number,I m.code,I m.agg,I m.until',m.series.sv,(.osl idp 0 m.batch.length (m.batch.length+2) 3),I m.log.base,m.log.snap.sv,(.osl idm 0 m.log.ents.length (m.log.ents.length+1) 5),m.text.sv]) fz (n3+1)=some [I m.kind,I m.frm,I m.to,I m.view,I m.normal,I m.at',I m.commit,I m.round,I m.client,I m.session,I m.number,I m.code,I m.agg,I m.until',m.series.sv,(.osl idp 0 m.batch.length (m.batch.length+2) 3),I m.log.base,m.log.snap.sv,(.osl idm 0 m.log.ents.length (m.log.ents.length+1) 5),m.text.sv]:=Qem (by rw[Qen,if_pos rfl,hW1];rfl);try simp only[↓E1,E2,seval, *]
 clear wm;obtain⟨M0,hM0⟩:∃z,(n3,[I r.me,I r.nodes,I r.view,I r.normal,I r.status,I r.commit,.bool r.sent,I r.log.base,r.log.snap.sv,(.osl ide 0 r.log.ents.length (r.log.ents.length+1) 5),(.osl ida 0 r.acks.length (r.acks.length+2) 1),(.osl ids 0 r.starts.length (r.starts.length+2) 1),xd1])::putS W (n3+1) [I m.kind,I m.frm,I m.to,I m.view,I m.normal,I m.at',I m.commit,I m.round,I m.client,I m.session,I m.number,I m.code,I m.agg,I m.until',m.series.sv,(.osl idp 0 m.batch.length (m.batch.length+2) 3),I m.log.base,m.log.snap.sv,(.osl idm 0 m.log.ents.length (m.log.ents.length+1) 5),m.text.sv]=z:=⟨_,rfl⟩
 try rw[hM0]
 have hZ:∀id,Ev.look M0 id=Ev.look ((n3+1,[I m.kind,I m.frm,I m.to,I m.view,I m.normal,I m.at',I m.commit,I m.round,I m.client,I m.session,I m.number,I m.code,I m.agg,I m.until',m.series.sv,(.osl idp 0 m.batch.length (m.batch.length+2) 3),I m.log.base,m.log.snap.sv,(.osl idm 0 m.log.ents.length (m.log.ents.length+1) 5),m.text.sv])::(n3,[I r.me,I r.nodes,I r.view,I r.normal,I r.status,I r.commit,.bool r.sent,I r.log.base,r.log.snap.sv,(.osl ide 0 r.log.ents.length (r.log.ents.length+1) 5),(.osl ida 0 r.acks.length (r.acks.length+2) 1),(.osl ids 0 r.starts.length (r.starts.length+2) 1),xd1])::(new2++(new++m1))) id:=λid=>by
  rw[<-hM0,Qer,Qer,Qer,Qen];by_cases h1:n3=id
  ·rw[if_pos h1,if_neg (by omega),if_pos h1]
  ·rw[if_neg h1,if_neg h1];by_cases h2:n3+1=id
   ·rw[if_pos h2,if_pos h2,hW1];rfl
   ·rw[if_neg h2,if_neg h2];exact hW2 id (λe=>h2 e.symm)
 have gZ:=(gY.cons (by omega) [I r.me,I r.nodes,I r.view,I r.normal,I r.status,I r.commit,.bool r.sent,I r.log.base,r.log.snap.sv,(.osl ide 0 r.log.ents.length (r.log.ents.length+1) 5),(.osl ida 0 r.acks.length (r.acks.length+2) 1),(.osl ids 0 r.starts.length (r.starts.length+2) 1),xd1]).cons (by omega) [I m.kind,I m.frm,I m.to,I m.view,I m.normal,I m.at',I m.commit,I m.round,I m.client,I m.session,I m.number,I m.code,I m.agg,I m.until',m.series.sv,(.osl idp 0 m.batch.length (m.batch.length+2) 3),I m.log.base,m.log.snap.sv,(.osl idm 0 m.log.ents.length (m.log.ents.length+1) 5),m.text.sv];have G:=gZ.congr hZ;have b1:Ev.look M0 n=_:=(hZ n).trans ((Qer ..).trans ((if_neg (by omega)).trans ((Qer ..).trans ((if_neg (by omega)).trans ((g3.own n (by omega)).trans ((g2.own n (by omega)).trans b1))))));have b2:Ev.look M0 (n+1)=_:=(hZ (n+1)).trans ((Qer ..).trans ((if_neg (by omega)).trans ((Qer ..).trans ((if_neg (by omega)).trans ((g3.own (n+1) (by omega)).trans ((g2.own (n+1) (by omega)).trans b2))))));have b3:Ev.look M0 n3=some [I r.me,I r.nodes,I r.view,I r.normal,I r.status,I r.commit,.bool r.sent,I r.log.base,r.log.snap.sv,(.osl ide 0 r.log.ents.length (r.log.ents.length+1) 5),(.osl ida 0 r.acks.length (r.acks.length+2) 1),(.osl ids 0 r.starts.length (r.starts.length+2) 1),xd1]:=(hZ n3).trans ((Qer ..).trans ((if_neg (by omega)).trans ((Qer ..).trans (if_pos rfl))));have b4:Ev.look M0 (n3+1)=some [I m.kind,I m.frm,I m.to,I m.view,I m.normal,I m.at',I m.commit,I m.round,I m.client,I m.session,I m.number,I m.code,I m.agg,I m.until',m.series.sv,(.osl idp 0 m.batch.length (m.batch.length+2) 3),I m.log.base,m.log.snap.sv,(.osl idm 0 m.log.ents.length (m.log.ents.length+1) 5),m.text.sv]:=(hZ (n3+1)).trans ((Qer ..).trans (if_pos rfl));have uZ:Sub (with' (new2++(new++m1)) fz) (with' M0 fz):=by
  rw[Ql3 (fz:=fz) hZ];exact(((Gr.refl (lo:=n3) gY.free).cons (Nat.le_refl _) [I r.me,I r.nodes,I r.view,I r.normal,I r.status,I r.commit,.bool r.sent,I r.log.base,r.log.snap.sv,(.osl ide 0 r.log.ents.length (r.log.ents.length+1) 5),(.osl ida 0 r.acks.length (r.acks.length+2) 1),(.osl ids 0 r.starts.length (r.starts.length+2) 1),xd1]).cons (by omega) [I m.kind,I m.frm,I m.to,I m.view,I m.normal,I m.at',I m.commit,I m.round,I m.client,I m.session,I m.number,I m.code,I m.agg,I m.until',m.series.sv,(.osl idp 0 m.batch.length (m.batch.length+2) 3),I m.log.base,m.log.snap.sv,(.osl idm 0 m.log.ents.length (m.log.ents.length+1) 5),m.text.sv]).sub gY.free (Nat.le_refl _)
 have hX:=LentR.mono ((g3.sub g2.free (Nat.le_refl _)).trans uZ) hX;have hY:=LentM.mono uZ hY;have s0:=s1;have hX1:=hX;have G1:=G;have Gx:=Gr.refl (lo:=n3+1+1) G.free;have s1:=RepS.mono (G.sub hfr (Nat.le_refl _)) s1;have s2:=MsgS.mono (G.sub hfr (Nat.le_refl _)) s2;clear wb1 wb2 t1 t2 hM0 hZ gZ uZ gY gA g2 g3 i2 i3 hW1 hW2 hLR hLM hXr yek yem;clear W;have vb1:=Qem (fz:=fz) b1;have vb2:=Qem (fz:=fz) b2;have vb3:=Qem (fz:=fz) b3;have vb4:=Qem (fz:=fz) b4;obtain⟨-,-,yek,yem⟩:=hX.rs.2.2.2.len;have cA:=replica_Receive H hS hI (Qt4 H hS hID) r (.osl ide 0 r.log.ents.length (r.log.ents.length+1) 5) (.osl ida 0 r.acks.length (r.acks.length+2) 1) (.osl ids 0 r.starts.length (r.starts.length+2) 1) xd1 m (.osl idp 0 m.batch.length (m.batch.length+2) 3) (.osl idm 0 m.log.ents.length (m.log.ents.length+1) 5) hz hmz;unfold repC msgC at cA;try simp only[↓E1,E2,seval, *]
 refine cA.c1 G.free ⟨hX.rs,hY.ms⟩ ?_;rintro v m4 n4 g4 hp;rw[hta]at hp;obtain⟨ye4,ya4,ys4,yd4,xo4,o4,rfl,ho4,hRT4,hOT4⟩:=hp;have l4:=g4.le;have u4:=g4.sub G.free (Nat.le_refl _);replace s1:=RepS.mono u4 s1;replace s2:=MsgS.mono u4 s2;replace hX:=LentR.mono u4 hX;replace hY:=LentM.mono u4 hY;replace b1:=(g4.own (n) (by omega)).trans b1;replace b2:=(g4.own (n+1) (by omega)).trans b2;replace b3:=(g4.own (n3) (by omega)).trans b3;replace b4:=(g4.own (n3+1) (by omega)).trans b4;have A4:=Qwm ho4 g4.free hRT4;have O4:=Qxq ho4 g4.free hOT4;obtain⟨-,-,ek4,em4⟩:=A4.1.len;obtain⟨-,-,ak4,am4⟩:=A4.2.1.len;obtain⟨-,-,sk4,sm4⟩:=A4.2.2.1.len;obtain⟨-,-,dk4,dm4⟩:=A4.2.2.2.len;obtain⟨-,-,ok4,om4⟩:=Qjv O4;clear hRT4 hOT4 ho4;clear vb1 vb2 vb3 vb4;have vb1:=Qem (fz:=fz) b1;have vb2:=Qem (fz:=fz) b2;have vb3:=Qem (fz:=fz) b3;have vb4:=Qem (fz:=fz) b4;have kb1:(n4=n)=False:=by simp;omega
 have kb2:(n4=n+1)=False:=by simp;omega
 have kb3:(n4=n3)=False:=by simp;omega
 have kb4:(n4=n3+1)=False:=by simp;omega
 try unfold repC
 simp only[↓E1,E2,seval, *];clear kb1 kb2 kb3 kb4;have gc:=(Gr.refl (lo:=n4) g4.free).cons (Nat.le_refl _) [I ra.me,I ra.nodes,I ra.view,I ra.normal,I ra.status,I ra.commit,.bool ra.sent,I ra.log.base,ra.log.snap.sv,ye4,ya4,ys4,yd4];have uc:=gc.sub g4.free (Nat.le_refl _);have G:=(G.trans (g4.weaken (by omega))).trans (gc.weaken (by omega));have Gx:=(Gx.trans (g4.weaken (by omega))).trans (gc.weaken (by omega));replace s1:=RepS.mono  uc s1;replace s2:=MsgS.mono  uc s2;replace hX:=LentR.mono  uc hX;replace hY:=LentM.mono  uc hY;replace A4:=RepS.mono (Rg.mono uc) A4;replace O4:=MsgsR.mono (Rg.mono uc) O4;replace b1:=(gc.own (n) (by omega)).trans b1;replace b2:=(gc.own (n+1) (by omega)).trans b2;replace b3:=(gc.own (n3) (by omega)).trans b3;replace b4:=(gc.own (n3+1) (by omega)).trans b4;have b5:Ev.look ((n4,[I ra.me,I ra.nodes,I ra.view,I ra.normal,I ra.status,I ra.commit,.bool ra.sent,I ra.log.base,ra.log.snap.sv,ye4,ya4,ys4,yd4])::m4) n4=some [I ra.me,I ra.nodes,I ra.view,I ra.normal,I ra.status,I ra.commit,.bool ra.sent,I ra.log.base,ra.log.snap.sv,ye4,ya4,ys4,yd4]:=Qnj;obtain⟨M4,hm⟩:∃z,((n4,[I ra.me,I ra.nodes,I ra.view,I ra.normal,I ra.status,I ra.commit,.bool ra.sent,I ra.log.base,ra.log.snap.sv,ye4,ya4,ys4,yd4])::m4)=z:=⟨_,rfl⟩
 rw[hm]at G Gx b1 b2 b3 b4 b5 s1 s2 hX hY A4 O4;try rw[hm]
 clear hm gc uc u4 g4 vb1 vb2 vb3 vb4;have vb1:=Qem (fz:=fz) b1;have vb2:=Qem (fz:=fz) b2;have vb3:=Qem (fz:=fz) b3;have vb4:=Qem (fz:=fz) b4;have vb5:=Qem (fz:=fz) b5;try simp only[↓E1,E2,seval, *]
 refine cA.c1 G.free ⟨hX.rs,hY.ms⟩ ?_;rintro v m5 n5 g5 hp;rw[hta]at hp;obtain⟨ye5,ya5,ys5,yd5,xo5,o5,rfl,ho5,hRT5,hOT5⟩:=hp;have l5:=g5.le;have u5:=g5.sub G.free (Nat.le_refl _);replace s1:=RepS.mono u5 s1;replace s2:=MsgS.mono u5 s2;replace hX:=LentR.mono u5 hX;replace hY:=LentM.mono u5 hY;replace A4:=RepS.mono (Rg.mono u5) A4;replace O4:=MsgsR.mono (Rg.mono u5) O4;replace b1:=(g5.own (n) (by omega)).trans b1;replace b2:=(g5.own (n+1) (by omega)).trans b2;replace b3:=(g5.own (n3) (by omega)).trans b3;replace b4:=(g5.own (n3+1) (by omega)).trans b4;replace b5:=(g5.own (n4) (by omega)).trans b5;have A5:=Qwm ho5 g5.free hRT5;have O5:=Qxq ho5 g5.free hOT5;obtain⟨-,-,ek5,em5⟩:=A5.1.len;obtain⟨-,-,ak5,am5⟩:=A5.2.1.len;obtain⟨-,-,sk5,sm5⟩:=A5.2.2.1.len;obtain⟨-,-,dk5,dm5⟩:=A5.2.2.2.len;obtain⟨-,-,ok5,om5⟩:=Qjv O5;clear hRT5 hOT5 ho5;clear vb1 vb2 vb3 vb4 vb5;have vb1:=Qem (fz:=fz) b1;have vb2:=Qem (fz:=fz) b2;have vb3:=Qem (fz:=fz) b3;have vb4:=Qem (fz:=fz) b4;have vb5:=Qem (fz:=fz) b5;have kb1:(n5=n)=False:=by simp;omega
 have kb2:(n5=n+1)=False:=by simp;omega
 have kb3:(n5=n3)=False:=by simp;omega
 have kb4:(n5=n3+1)=False:=by simp;omega
 have kb5:(n5=n4)=False:=by simp;omega
 try unfold repC
 simp only[↓E1,E2,seval, *];clear kb1 kb2 kb3 kb4 kb5;have gc:=(Gr.refl (lo:=n5) g5.free).cons (Nat.le_refl _) [I ra.me,I ra.nodes,I ra.view,I ra.normal,I ra.status,I ra.commit,.bool ra.sent,I ra.log.base,ra.log.snap.sv,ye5,ya5,ys5,yd5];have uc:=gc.sub g5.free (Nat.le_refl _);have G:=(G.trans (g5.weaken (by omega))).trans (gc.weaken (by omega));have Gx:=(Gx.trans (g5.weaken (by omega))).trans (gc.weaken (by omega));replace s1:=RepS.mono  uc s1;replace s2:=MsgS.mono  uc s2;replace hX:=LentR.mono  uc hX;replace hY:=LentM.mono  uc hY;replace A4:=RepS.mono (Rg.mono uc) A4;replace O4:=MsgsR.mono (Rg.mono uc) O4;replace A5:=RepS.mono (Rg.mono uc) A5;replace O5:=MsgsR.mono (Rg.mono uc) O5;replace b1:=(gc.own (n) (by omega)).trans b1;replace b2:=(gc.own (n+1) (by omega)).trans b2;replace b3:=(gc.own (n3) (by omega)).trans b3;replace b4:=(gc.own (n3+1) (by omega)).trans b4;replace b5:=(gc.own (n4) (by omega)).trans b5;have b6:Ev.look ((n5,[I ra.me,I ra.nodes,I ra.view,I ra.normal,I ra.status,I ra.commit,.bool ra.sent,I ra.log.base,ra.log.snap.sv,ye5,ya5,ys5,yd5])::m5) n5=some [I ra.me,I ra.nodes,I ra.view,I ra.normal,I ra.status,I ra.commit,.bool ra.sent,I ra.log.base,ra.log.snap.sv,ye5,ya5,ys5,yd5]:=Qnj;obtain⟨M5,hm⟩:∃z,((n5,[I ra.me,I ra.nodes,I ra.view,I ra.normal,I ra.status,I ra.commit,.bool ra.sent,I ra.log.base,ra.log.snap.sv,ye5,ya5,ys5,yd5])::m5)=z:=⟨_,rfl⟩
 rw[hm]at G Gx b1 b2 b3 b4 b5 b6 s1 s2 hX hY A4 O4 A5 O5;try rw[hm]
 clear hm gc uc u5 g5 vb1 vb2 vb3 vb4 vb5;have vb1:=Qem (fz:=fz) b1;have vb2:=Qem (fz:=fz) b2;have vb3:=Qem (fz:=fz) b3;have vb4:=Qem (fz:=fz) b4;have vb5:=Qem (fz:=fz) b5;have vb6:=Qem (fz:=fz) b6;try simp only[↓E1,E2,seval, *]
 have cC:=λ(k:KT Prop) (w:WK k) hk=>Qmw H r xe xa xs xd m zb zm hz hmz hok1 hok2 hok3 G.free s1 s2 (k:=k) (w:=w) hk;unfold repC msgC at cC;refine cC _ _ λv m6 n6 g6 hp=>?_;rw[hta]at hp;obtain⟨ye6,ya6,ys6,yd6,xo6,o6,rfl,ho6,hRT6,hOT6⟩:=hp;have l6:=g6.le;have u6:=g6.sub G.free (Nat.le_refl _);replace s1:=RepS.mono u6 s1;replace s2:=MsgS.mono u6 s2;replace hX:=LentR.mono u6 hX;replace hY:=LentM.mono u6 hY;replace A4:=RepS.mono (Rg.mono u6) A4;replace O4:=MsgsR.mono (Rg.mono u6) O4;replace A5:=RepS.mono (Rg.mono u6) A5;replace O5:=MsgsR.mono (Rg.mono u6) O5;replace b1:=(g6.own (n) (by omega)).trans b1;replace b2:=(g6.own (n+1) (by omega)).trans b2;replace b3:=(g6.own (n3) (by omega)).trans b3;replace b4:=(g6.own (n3+1) (by omega)).trans b4;replace b5:=(g6.own (n4) (by omega)).trans b5;replace b6:=(g6.own (n5) (by omega)).trans b6;have A6:=Qwm ho6 g6.free hRT6;have O6:=Qxq ho6 g6.free hOT6;obtain⟨-,-,ek6,em6⟩:=A6.1.len;obtain⟨-,-,ak6,am6⟩:=A6.2.1.len;obtain⟨-,-,sk6,sm6⟩:=A6.2.2.1.len;obtain⟨-,-,dk6,dm6⟩:=A6.2.2.2.len;obtain⟨-,-,ok6,om6⟩:=Qjv O6;clear hRT6 hOT6 ho6;clear vb1 vb2 vb3 vb4 vb5 vb6;have vb1:=Qem (fz:=fz) b1;have vb2:=Qem (fz:=fz) b2;have vb3:=Qem (fz:=fz) b3;have vb4:=Qem (fz:=fz) b4;have vb5:=Qem (fz:=fz) b5;have vb6:=Qem (fz:=fz) b6;have kb1:(n6=n)=False:=by simp;omega
 have kb2:(n6=n+1)=False:=by simp;omega
 have kb3:(n6=n3)=False:=by simp;omega
 have kb4:(n6=n3+1)=False:=by simp;omega
 have kb5:(n6=n4)=False:=by simp;omega
 have kb6:(n6=n5)=False:=by simp;omega
 try unfold repC
 simp only[↓E1,E2,seval, *];clear kb1 kb2 kb3 kb4 kb5 kb6;have gc:=(Gr.refl (lo:=n6) g6.free).cons (Nat.le_refl _) [I ra.me,I ra.nodes,I ra.view,I ra.normal,I ra.status,I ra.commit,.bool ra.sent,I ra.log.base,ra.log.snap.sv,ye6,ya6,ys6,yd6];have uc:=gc.sub g6.free (Nat.le_refl _);have G:=(G.trans (g6.weaken (by omega))).trans (gc.weaken (by omega));have Gx:=(Gx.trans (g6.weaken (by omega))).trans (gc.weaken (by omega));replace s1:=RepS.mono  uc s1;replace s2:=MsgS.mono  uc s2;replace hX:=LentR.mono  uc hX;replace hY:=LentM.mono  uc hY;replace A4:=RepS.mono (Rg.mono uc) A4;replace O4:=MsgsR.mono (Rg.mono uc) O4;replace A5:=RepS.mono (Rg.mono uc) A5;replace O5:=MsgsR.mono (Rg.mono uc) O5;replace A6:=RepS.mono (Rg.mono uc) A6;replace O6:=MsgsR.mono (Rg.mono uc) O6;replace b1:=(gc.own (n) (by omega)).trans b1;replace b2:=(gc.own (n+1) (by omega)).trans b2;replace b3:=(gc.own (n3) (by omega)).trans b3;replace b4:=(gc.own (n3+1) (by omega)).trans b4;replace b5:=(gc.own (n4) (by omega)).trans b5;replace b6:=(gc.own (n5) (by omega)).trans b6;have b7:Ev.look ((n6,[I ra.me,I ra.nodes,I ra.view,I ra.normal,I ra.status,I ra.commit,.bool ra.sent,I ra.log.base,ra.log.snap.sv,ye6,ya6,ys6,yd6])::m6) n6=some [I ra.me,I ra.nodes,I ra.view,I ra.normal,I ra.status,I ra.commit,.bool ra.sent,I ra.log.base,ra.log.snap.sv,ye6,ya6,ys6,yd6]:=Qnj;obtain⟨M6,hm⟩:∃z,((n6,[I ra.me,I ra.nodes,I ra.view,I ra.normal,I ra.status,I ra.commit,.bool ra.sent,I ra.log.base,ra.log.snap.sv,ye6,ya6,ys6,yd6])::m6)=z:=⟨_,rfl⟩
 rw[hm]at G Gx b1 b2 b3 b4 b5 b6 b7 s1 s2 hX hY A4 O4 A5 O5 A6 O6;try rw[hm]
 clear hm gc uc u6 g6 vb1 vb2 vb3 vb4 vb5 vb6;have vb1:=Qem (fz:=fz) b1;have vb2:=Qem (fz:=fz) b2;have vb3:=Qem (fz:=fz) b3;have vb4:=Qem (fz:=fz) b4;have vb5:=Qem (fz:=fz) b5;have vb6:=Qem (fz:=fz) b6;have vb7:=Qem (fz:=fz) b7;try simp only[↓E1,E2,seval, *]
 have c1:=ref16_Same H ra ye4 ya4 ys4 yd4 ye6 ya6 ys6 yd6 za;unfold repC at c1;refine c1.q0 G.free ⟨RepS.mono Rg.sub A4,RepS.mono Rg.sub A6⟩ ?_;rintro v j1 i1 rfl;clear c1;simp only[↓E1,E2,seval, *];have c2:=ref4_SameAll H pa xo4 xo6 (by omega) hpa;refine c2.q0 (G.free.le i1) ⟨MsgsR.mono Rg.sub O4,MsgsR.mono Rg.sub O6⟩ ?_;rintro v j2 i2 rfl;clear c2;simp only[↓E1,E2,seval, *];have c3:=law0_KeptReplica H r ide ida ids xd1 xe xa xs xd hl;unfold repC at c3;refine c3.q0 ((G.free.le i1).le i2) ⟨hX,s1⟩ ?_;rintro v j3 i3 rfl;clear c3;simp only[↓E1,E2,seval, *];have c4:=law0_KeptMessage H m idp idm zb zm hlm;unfold msgC at c4;refine c4.q0 (((G.free.le i1).le i2).le i3) ⟨hY,s2⟩ ?_;rintro v j4 i4 rfl;clear c4;simp only[↓E1,E2,seval, *];have G:=(((G.le2 i1).le2 i2).le2 i3).le2 i4;have K4:MsgsK (Rg (n3+1+1) n4 (with' M6 fz)) xo4 pa.length 4398046511104:=⟨pa,rfl,λm hm=>⟨(hpa m hm).bat,by have:=(hpa m hm).log.ents;omega,(hpa m hm).log.bat⟩,O4⟩
 clear O4 hY s2 hX s1;have cS:=λ(k:KT Prop) (w:WK k) hk=>Qok H (lo:=n3+1+1) (hi:=n4) (λj hj=>hfr.fz j (by omega)) ra (Le:=ra.log.ents.length) (Ld:=ra.dos.length) (bd:=4398046511104) (la:=ra.acks) (ls:=ra.starts) (by have:=za.log.ents;omega) (by have:=za.acks;omega) (by have:=za.starts;omega) (by have:=za.dos;omega) (by omega) G.free (by omega) ⟨_,rfl,za.log.bat,A4.1⟩ A4.2.1 A4.2.2.1 ⟨_,rfl,λm hm=>⟨by have:=(za.dlog m hm).ents;omega,(za.dlog m hm).bat⟩,A4.2.2.2⟩ (k:=k) (w:=w) hk;unfold repC at cS;refine cS _ _ λm7 n7 S7=>?_;clear cS;have l7:=S7.le;have G:=G.trans ((S7.gr1 (by omega)).weaken (by omega));have Gx:=(((Gx.le2 i1).le2 i2).le2 i3).le2 i4 |>.trans ((S7.gr1 (by omega)).weaken (by omega));have K4:=K4.sim (S7.sim (λj hj=>hfr.fz j (by omega)));replace A5:=RepS.mono (S7.sub (by omega) (by omega)) A5;replace O5:=MsgsR.mono (S7.sub (by omega) (by omega)) O5;replace A6:=RepS.mono (S7.sub (by omega) (by omega)) A6;replace O6:=MsgsR.mono (S7.sub (by omega) (by omega)) O6;replace b1:=(S7.out (n) (by omega) (by omega)).trans b1;replace vb1:=Qem (fz:=fz) b1;replace b2:=(S7.out (n+1) (by omega) (by omega)).trans b2;replace vb2:=Qem (fz:=fz) b2;replace b3:=(S7.out (n3) (by omega) (by omega)).trans b3;replace vb3:=Qem (fz:=fz) b3;replace b4:=(S7.out (n3+1) (by omega) (by omega)).trans b4;replace vb4:=Qem (fz:=fz) b4;replace b5:=(S7.out (n4) (by omega) (by omega)).trans b5;replace vb5:=Qem (fz:=fz) b5;replace b6:=(S7.out (n5) (by omega) (by omega)).trans b6;replace vb6:=Qem (fz:=fz) b6;replace b7:=(S7.out (n6) (by omega) (by omega)).trans b7;replace vb7:=Qem (fz:=fz) b7;try simp only[↓E1,E2,seval, *]
 have cS:=λ(k:KT Prop) (w:WK k) hk=>Qnf H (lo:=n3+1+1) (hi:=n4) (L:=pa.length) (bd:=4398046511104) (λj hj=>hfr.fz j (by omega)) (by omega) (by omega) S7.free (by omega) K4 (k:=k) (w:=w) hk;refine cS _ _ λm8 n8 S8=>?_;clear cS;have l8:=S8.le;have G:=G.trans ((S8.gr1 (by omega)).weaken (by omega));have Gx:=Gx.trans ((S8.gr1 (by omega)).weaken (by omega));replace A5:=RepS.mono (S8.sub (by omega) (by omega)) A5;replace O5:=MsgsR.mono (S8.sub (by omega) (by omega)) O5;replace A6:=RepS.mono (S8.sub (by omega) (by omega)) A6;replace O6:=MsgsR.mono (S8.sub (by omega) (by omega)) O6;replace b1:=(S8.out (n) (by omega) (by omega)).trans b1;replace vb1:=Qem (fz:=fz) b1;replace b2:=(S8.out (n+1) (by omega) (by omega)).trans b2;replace vb2:=Qem (fz:=fz) b2;replace b3:=(S8.out (n3) (by omega) (by omega)).trans b3;replace vb3:=Qem (fz:=fz) b3;replace b4:=(S8.out (n3+1) (by omega) (by omega)).trans b4;replace vb4:=Qem (fz:=fz) b4;replace b5:=(S8.out (n4) (by omega) (by omega)).trans b5;replace vb5:=Qem (fz:=fz) b5;replace b6:=(S8.out (n5) (by omega) (by omega)).trans b6;replace vb6:=Qem (fz:=fz) b6;replace b7:=(S8.out (n6) (by omega) (by omega)).trans b7;replace vb7:=Qem (fz:=fz) b7;have hX:=LentR.mono (Gx.sub G1.free (Nat.le_refl _)) hX1;have s1:=RepS.mono (G.sub hfr (Nat.le_refl _)) s0;try simp only[↓E1,E2,seval, *]
 have c5:=ref16_Same H ra ye5 ya5 ys5 yd5 ye6 ya6 ys6 yd6 za;unfold repC at c5;refine c5.q0 S8.free ⟨RepS.mono Rg.sub A5,RepS.mono Rg.sub A6⟩ ?_;rintro v j5 i5 rfl;clear c5;simp only[↓E1,E2,seval, *];have c6:=ref4_SameAll H pa xo5 xo6 (by omega) hpa;refine c6.q0 (S8.free.le i5) ⟨MsgsR.mono Rg.sub O5,MsgsR.mono Rg.sub O6⟩ ?_;rintro v j6 i6 rfl;clear c6;simp only[↓E1,E2,seval, *];have c7:=law0_KeptReplica H r ide ida ids xd1 xe xa xs xd hl;unfold repC at c7;refine c7.q0 ((S8.free.le i5).le i6) ⟨hX,s1⟩ ?_;rintro v j7 i7 rfl;clear c7;simp only[↓E1,E2,seval, *];have G:=((G.le2 i5).le2 i6).le2 i7;refine aw.c1 G.free trivial ?_;rintro v m14 n14 g14 rfl;have hk2:=hkH.out _ _ (G.trans (g14.weaken (by omega)));simp only[↓E1,E2,seval, *];all_goals exact hk2
end
def Sz (a:Rep) (p:List Msg) (k:Nat:=20):Prop:=RepSz a/\(∀m∈p,MsgSz m)/\p.length<=k
theorem Sz.one {a:Rep} {m:Msg} {k:Nat} (h:RepSz a) (hm:MsgSz m):Sz a [m] (k+1):=⟨h,λx hx=>by rw[List.mem_singleton.1 hx];exact hm,by simp⟩
theorem Sz.nil {a:Rep} {k:Nat} (h:RepSz a):Sz a [] k:=⟨h,(λx hx=>by cases hx),by simp⟩
theorem sz_to {m:Msg} {a b:Int} (h:MsgSz m):MsgSz {m with frm:=a,to:=b}:=⟨h.bat,h.log⟩
theorem Qj0 {r:Rep} {c:Int} (h:RepSz r):RepSz (Qe4 r c):=⟨h.log,h.acks,h.starts,h.dos,h.dlog⟩
theorem lag_sz {r:Rep} {v:Int} {N:Nat} (h:RepSz r) (hN:N<=7):RepSz (lagR r v N):=by
 unfold lagR;split
 ·exact⟨h.log,by simp[anewR];omega,by simp[anewR],by simp[anewR],λd hd=>by simp[anewR]at hd⟩
 ·exact h
theorem ahead_sz {r:Rep} {m:Msg} {N:Nat} (hz:RepSz r) (hm:MsgSz m) (hr:repB r=true) (hN:N<=7):Sz (Qg5 r m N).1 (Qg5 r m N).2:=by
 have hents:r.log.ents.length<=4096:=by
  have h:=hr;unfold repB at h;simp only[Bool.and_eq_true]at h;exact(Qji (by simp_all)).2.2
 unfold Qg5;split
 ·unfold Qf7;split
  ·refine⟨lag_sz hz hN,?_,?_⟩
   ·intro x hx;unfold lagO at hx;split at hx
    ·cases hx
    ·rw[List.mem_singleton.1 hx];exact⟨by simp,⟨by simp,by simp⟩⟩
   ·unfold lagO;split<;>simp
  ·split
   ·split
    ·have ha:RepSz (addE r (folE m)):=⟨⟨by simp[addE];omega,λe he=>by
      rcases List.mem_append.1 he with h|h
      ·exact hz.log.bat e h
      ·rw[List.mem_singleton.1 h];exact hm.bat⟩,hz.acks,hz.starts,hz.dos,hz.dlog⟩
     exact Sz.one (Qj0 ha) (sz_to (Qoc _))
    ·dsimp only;split
     ·exact Sz.one (Qj0 hz) (sz_to (Qm1 _))
     ·split
      ·exact Sz.one (Qj0 hz) (sz_to (Qoc _))
      ·exact Sz.nil (Qj0 hz)
   ·dsimp only;split
    ·exact Sz.one (Qj0 hz) (sz_to (Qm1 _))
    ·exact Sz.nil (Qj0 hz)
 ·exact Sz.nil hz
theorem acked_sz {r:Rep} {m:Msg} (hz:RepSz r):RepSz (Qie r m):=by
 unfold Qie;split
 ·exact⟨hz.log,by show(ackL r m.frm.toNat m.at').length<=_;unfold ackL;rw[List.length_set];exact hz.acks,hz.starts,hz.dos,hz.dlog⟩
 ·exact hz
theorem sent_sz {r:Rep} {N:Nat} (hz:RepSz r) (hN:N<=7):Sz (sentR r N).1 (sentR r N).2.1 10:=by
 have hs:RepSz {r with sent:=true}:=⟨hz.log,hz.acks,hz.starts,hz.dos,hz.dlog⟩
 rcases Qlg r N with⟨-,h⟩|⟨-,-,h⟩|⟨-,-,-,h⟩|⟨-,-,-,h⟩<;>rw[h]
 ·exact Sz.nil hz
 ·exact Sz.nil hz
 ·obtain⟨c1,c2,c3⟩:=Qpp hs hN;exact⟨c1,c2,by omega⟩
 ·exact Sz.one hs (sz_to (Qw0 hs.log))
theorem Qno {r:Rep} {m:Msg} {N:Nat} (hz:RepSz r) (hs:r.starts.length<=1000) (hN:N<=7):Sz (Qe6 r m N).1 (Qe6 r m N).2.1 10:=by
 unfold Qe6;split
 ·exact sent_sz ⟨hz.log,hz.acks,by have:=Qm2 (xs:=r.starts) (x:=m.frm);show(putL r.starts m.frm).length<=_;omega,hz.dos,hz.dlog⟩ hN
 ·exact Sz.nil hz
theorem start_sz {r:Rep} {m:Msg} {N:Nat} (hz:RepSz r) (hs:r.starts.length<=1000) (hN:N<=7):Sz (Qg1 r m N).1 (Qg1 r m N).2.1:=by
 unfold Qg1;split
 ·obtain⟨c1,c2,c3⟩:=Qno (m:=m) (Qjo hz m.view hN) (by simp[Qfg,anewR]) hN;have hA:=Qf4 r (Qg3 m.view) N;refine⟨c1,λx hx=>?_,by simp only[List.length_append];omega⟩;rcases List.mem_append.1 hx with h|h
  ·exact Qsb (Ql4 _) x h
  ·exact c2 x h
 ·obtain⟨c1,c2,c3⟩:=Qno (m:=m) hz hs hN;exact⟨c1,c2,by omega⟩
theorem Qs1 {r:Rep} {m:Msg} {N:Nat} (hz:RepSz r) (hm:MsgSz m) (hs:r.dos.length<=1000) (hN:N<=7):Sz (Qfw r m N).1 (Qfw r m N).2.1 10:=by
 unfold Qfw;split
 ·have hpl:(putD r.dos (voteD m)).length<=1002:=by
   have:=Qk1 r.dos (voteD m) _ (Nat.le_refl _);have:=Qwp (putDt r.dos (voteD m) r.dos.length).1;unfold putD;split
   ·omega
   ·rw[List.length_append,List.length_singleton];omega
  obtain⟨c1,c2,c3⟩:=Qpp (r:={r with dos:=putD r.dos (voteD m)}) ⟨hz.log,hz.acks,hz.starts,by show(putD r.dos (voteD m)).length<=_;omega,λd hd=>by
   rcases Qor hd with rfl|hd
   ·exact hm.log
   ·exact hz.dlog d hd⟩ hN
  exact⟨c1,c2,by omega⟩
 ·exact Sz.nil hz
theorem do_sz {r:Rep} {m:Msg} {N:Nat} (hz:RepSz r) (hm:MsgSz m) (hs:r.dos.length<=1000) (hN:N<=7):Sz (doG r m N).1 (doG r m N).2.1:=by
 unfold doG;split
 ·unfold doS;split
  ·obtain⟨c1,c2,c3⟩:=Qs1 (m:=m) (Qjo hz m.view hN) hm (by simp[Qfg,anewR]) hN;have hA:=Qf4 r (Qg3 m.view) N;refine⟨c1,λx hx=>?_,by simp only[List.length_append];omega⟩;rcases List.mem_append.1 hx with h|h
   ·exact Qsb (Ql4 _) x h
   ·exact c2 x h
  ·obtain⟨c1,c2,c3⟩:=Qs1 (m:=m) hz hm hs hN;exact⟨c1,c2,by omega⟩
 ·exact Sz.nil hz
theorem set_sz {r:Rep} {m:Msg} {N:Nat} (hz:RepSz r) (hm:MsgSz m) (hN:N<=7):Sz (setS r m N).1 (setS r m N).2.1:=by
 have hv:RepSz {r with view:=m.view}:=⟨hz.log,hz.acks,hz.starts,hz.dos,hz.dlog⟩
 unfold setS;split
 ·unfold Qhp;split
  ·exact Sz.nil hz
  ·split
   ·exact Sz.nil hv
   ·rename_i r1 h1;exact Sz.one (Qyb hN hm.log h1) (sz_to (Qoc _))
 ·exact Sz.nil hz
theorem ask_sz {r:Rep} {m:Msg} (hz:RepSz r):Sz r (askS r m):=by
 unfold askS;split
 ·exact Sz.one hz (sz_to (Qv6 hz.log))
 ·exact Sz.nil hz
theorem Qtv {r:Rep} {m:Msg} (hz:RepSz r) (hm:MsgSz m):RepSz (Qfo r m).1/\(∀x∈(Qfo r m).2,MsgSz x)/\(Qfo r m).2.length<=1000:=by
 have key:Sz (Qfo r m).1 (Qfo r m).2:=by
  unfold Qfo;split
  ·rename_i h;have hr:repB r=true:=by unfold okB at h;simp only[Bool.and_eq_true]at h;simp_all
   obtain⟨N,hN,hN1,h1N,hN7⟩:=rep_N hr;obtain⟨⟨hs,hd,-⟩,-,-⟩:=Qmb hr;rw[hN1];split
   ·exact Sz.nil hz
   ·unfold actS;split
    ·exact ahead_sz hz hm hr hN7
    ·split
     ·exact Sz.nil (acked_sz hz)
     ·split
      ·exact start_sz hz hs hN7
      ·split
       ·exact do_sz hz hm hd hN7
       ·split
        ·exact set_sz hz hm hN7
        ·split
         ·exact ask_sz hz
         ·exact Sz.nil hz
  ·exact Sz.nil hz
 exact⟨key.1,key.2.1,Nat.le_trans key.2.2 (by decide)⟩
section
variable {P:Program} (H:Fs P)
include H
theorem Qii (hS:SortC P) (hI:InsC P) (hID:InsDC P n_Qal) (aw:BoolC P n_Qdn [] (λ_=>True) true) (r:Rep) (xe xa xs xd:SV) (m:Msg) (zb zm:SV) (hl:LndSz r) (hlm:LndM m):
 BoolC P n_Qar [.ag (repC r xe xa xs xd),.ag (msgC m zb zm)] (λM=>RepS M r xe xa xs xd/\MsgS M m zb zm) true:=by
 have hz:=hl.rs;have hm:=hlm.ms;obtain⟨a1,a2,a3⟩:=Qtv hz hm;exact law17_ReplicaReceives H hS hI hID aw r xe xa xs xd m zb zm hz hm hl hlm (λe he=>by have:=hz.log.bat e he;omega) (λd hd e he=>by have:=(hz.dlog d hd).bat e he;omega) (λe he=>by have:=hm.log.bat e he;omega) rfl a1 a2 a3
end
end Go.Proofs.YtnnjlnkoomeadaaGreat.Pv
namespace Go.Ev
structure Imp (w:World) (n:Nat) (fz:Fz) (ρ:Rho):Prop where
 fr:∀id,n<=id->fz id=none/\ρ id=none
 own:∀id cs,fz id=some cs->OwnR v0 ρ w id cs
theorem Imp.nil (w:World):Imp w 0 (λ_=>none) (λ_=>none):=⟨λ_ _=>⟨rfl,rfl⟩,λ_ _ h=>by cases h⟩
theorem Imp.rel {w:World} {n:Nat} {fz:Fz} {ρ:Rho} (h:Imp w n fz ρ):Rel v0 ρ fz [] w:=
 ⟨λid cs hh=>.inl (h.own id cs hh),λid cs h=>(by cases h),λid cs h=>(by cases h),λid id' p p' h=>(by cases h)⟩
theorem Imp.free {w:World} {n:Nat} {fz:Fz} {ρ:Rho} (h:Imp w n fz ρ):Free fz [] n:=λj=>(h.fr _ (by omega)).1
theorem Imp.fresh {w:World} {n n':Nat} {fz:Fz} {ρ:Rho} (h:Imp w n fz ρ):Qgi ρ n n':=λid h1 _=>(h.fr id h1).2
structure ImpX (n:Nat) (fz:Fz) (ρ:Rho) (n':Nat) (fz':Fz) (ρ':Rho):Prop where
 le:n<=n'
 fz:Sub fz fz'
 rho:∀id p,ρ id=some p->ρ' id=some p
theorem ImpX.refl {n:Nat} {fz:Fz} {ρ:Rho}:ImpX n fz ρ n fz ρ:=⟨Nat.le_refl _,Sub.refl _,λ_ _ h=>h⟩
theorem ImpX.trans {n n' n'':Nat} {fz fz' fz'':Fz} {ρ ρ' ρ'':Rho} (h:ImpX n fz ρ n' fz' ρ') (k:ImpX n' fz' ρ' n'' fz'' ρ''):ImpX n fz ρ n'' fz'' ρ'':=
 ⟨Nat.le_trans h.le k.le,h.fz.trans k.fz,λ_ _ g=>k.rho _ _ (h.rho _ _ g)⟩
theorem ImpX.vr {n n':Nat} {fz fz':Fz} {ρ ρ':Rho} (h:ImpX n fz ρ n' fz' ρ') {w:World} {s:SV} {v:Value} (g:VR v0 ρ w s v):VR v0 ρ' w s v:=g.mono h.rho λ_=>Nat.le_refl _
theorem ImpX.vrs {n n':Nat} {fz fz':Fz} {ρ ρ':Rho} (h:ImpX n fz ρ n' fz' ρ') {w:World} {s:List SV} {v:List Value} (g:All2 (VR v0 ρ w) s v):All2 (VR v0 ρ' w) s v:=g.imp λ_ _ g=>h.vr g
def Im (w:World) (n:Nat) (fz:Fz) (ρ:Rho) (vs:List Value) (q:Fz->List SV->Prop):Prop:=
 ∃n' fz' ρ' c,Imp w n' fz' ρ'/\ImpX n fz ρ n' fz' ρ'/\All2 (VR v0 ρ' w) c vs/\Qeq c=true/\q fz' c
theorem Im.seq {w:World} {n:Nat} {fz:Fz} {ρ:Rho} {vs us:List Value} {q r:Fz->List SV->Prop} (hq:∀{M M' c},Sub M M'->q M c->q M' c) (h:Im w n fz ρ vs q) (k:∀n fz ρ,Imp w n fz ρ->Im w n fz ρ us r):
 Im w n fz ρ (vs++us) λM c=>∃a b,c=a++b/\q M a/\r M b:=by
 obtain⟨n1,fz1,ρ1,a,h1,h2,h3,h4,h5⟩:=h;obtain⟨n2,fz2,ρ2,b,k1,k2,k3,k4,k5⟩:=k n1 fz1 ρ1 h1;exact⟨n2,fz2,ρ2,a++b,k1,h2.trans k2,(k2.vrs h3).append k3,by rw[Qlp,h4,k4];rfl,a,b,rfl,hq k2.fz h5,k5⟩
theorem Im.one {w:World} {n:Nat} {fz:Fz} {ρ:Rho} (h:Imp w n fz ρ) {c:List SV} {vs:List Value} (hv:∀ρ,All2 (VR v0 ρ w) c vs) (hk:Qeq c=true):Im w n fz ρ vs λ_ d=>d=c:=
 ⟨n,fz,ρ,c,h,.refl,hv ρ,hk,rfl⟩
theorem Im.mono {w:World} {n:Nat} {fz:Fz} {ρ:Rho} {vs:List Value} {q r:Fz->List SV->Prop} (h:Im w n fz ρ vs q) (hq:∀M c,q M c->r M c):Im w n fz ρ vs r:=
 let⟨n',fz',ρ',c,h1,h2,h3,h4,h5⟩:=h;⟨n',fz',ρ',c,h1,h2,h3,h4,hq _ _ h5⟩
theorem Qvs {w:World} {s:Nat} (hs:0<s) {a:Addr} {len cap:Nat} {C:Nat->List Value} (hcells:∀i,i<cap->w.cells? 0 (a.add (i*s)) s=some (C i)) (hle:len<=cap) (hcap:cap<=maxLen)
 {El:Fz->List SV->Nat->Prop} (hm:∀{M M' c i},Sub M M'->El M c i->El M' c i) (hel:∀i,i<len->∀n fz ρ,Imp w n fz ρ->Im w n fz ρ (C i) λM c=>El M c i)
 {n:Nat} {fz:Fz} {ρ:Rho} (h:Imp w n fz ρ):Im w n fz ρ [.slice (some a) len cap] λM c=>∃x css,c=[x]/\Sl M s x css/\css.length=len/\∀i (hi:i<css.length),El M css[i] i:=by
 have hlen:∀i,i<cap->(C i).length=s:=λi hi=>by
  have:=hcells i hi;unfold World.cells? at this;rw[if_pos (Nat.zero_le _)]at this;have:=Go.mapM_some_length this;simpa using this
 have hcell:∀i j,i<cap->j<s->w.cell? ((a.add (i*s)).add j)=(C i)[j]?:=λi j hi hj=>by
  have:=hcells i hi;unfold World.cells? at this;rw[if_pos (Nat.zero_le _)]at this;exact Go.mapM_some_get this j j (by simp[hj])
 -- the elements
 have key:∀m,m<=len->∃(n':Nat) (fz':Fz) (ρ':Rho) (css:List (List SV)),Imp w n' fz' ρ'/\ImpX n fz ρ n' fz' ρ'/\css.length=m/\(∀i (hi:i<css.length),All2 (VR v0 ρ' w) css[i] (C i))/\(∀i (hi:i<css.length),Qeq css[i]=true)/\∀i (hi:i<css.length),El fz' css[i] i:=by
  intro m;induction m with
  |zero=>exactλ_=>⟨n,fz,ρ,[],h,.refl,rfl,λi hi=>(by simp at hi),λi hi=>(by simp at hi),λi hi=>(by simp at hi)⟩
  |succ m ih=>
   intro hm1;obtain⟨n1,fz1,ρ1,css,g1,g2,g3,g4,g5,g6⟩:=ih (by omega);obtain⟨n2,fz2,ρ2,c,k1,k2,k3,k4,k5⟩:=hel m (by omega) n1 fz1 ρ1 g1;refine⟨n2,fz2,ρ2,css++[c],k1,g2.trans k2,by simp[g3],λi hi=>?_,λi hi=>?_,λi hi=>?_⟩;all_goals
    rcases Nat.lt_or_ge i css.length with h1|h1
    ·rw[List.getElem_append_left h1];first|exact k2.vrs (g4 i h1)|exact g5 i h1|exact hm k2.fz (g6 i h1)
    ·have:i=m:=by simp at hi;omega
     subst this;rw[List.getElem_append_right h1];simp only[g3,Nat.sub_self,List.getElem_cons_zero];first|exact k3|exact k4|exact k5
 obtain⟨n1,fz1,ρ1,css,g1,g2,g3,g4,g5,g6⟩:=key len (Nat.le_refl _);rcases Nat.eq_zero_or_pos len with h0|h0
 ·subst h0;exact⟨n1,fz1,ρ1,[.zsl],g1,g2,⟨⟨a,cap,rfl⟩,trivial⟩,rfl,.zsl,css,rfl,.inl ⟨.inr (.inr rfl),List.length_eq_zero_iff.1 g3⟩,g3,g6⟩
 ·have hls:∀e∈css,e.length=s/\Qeq e=true:=λe he=>by
   obtain⟨i,hi,rfl⟩:=List.getElem_of_mem he;exact⟨by rw[(g4 i hi).length,hlen i (by omega)],g5 i hi⟩
  have hfl:css.flatten.length=len*s:=by rw[Qfr λe he=>(hls e he).1,g3]
  -- the block
  obtain⟨B,ty,fr,hB,hsp⟩:∃B ty fr,w.heap[a.block]?=some (.cells B ty fr)/\a.spot=none:=by
   have:=hcell 0 0 (by omega) hs;rw[List.getElem?_eq_getElem (by rw[hlen 0 (by omega)];exact hs),Nat.zero_mul]at this;have ha:(a.add 0).add 0=a:=by simp[Addr.add]
   rw[ha]at this;unfold World.cell? at this;split at this
   ·rename_i c t f hc;refine⟨c,t,f,hc,?_⟩;split at this
    ·cases this
    ·rename_i hns;simpa using hns
   ·cases this
  have hadd:∀k,a.add k=⟨a.block,a.off+k,none⟩:=λk=>by
   cases a with|mk b o sp=>
   simp only at hsp;subst hsp;simp only[Addr.add];split
   ·rename_i h;subst h;rfl
   ·rfl
  have hB2:∀i j,i<cap->j<s->B[a.off+(i*s+j)]?=(C i)[j]?:=λi j hi hj=>by
   rw[<-hcell i j hi hj,hadd];have:(⟨a.block,a.off+i*s,none⟩:Addr).add j=⟨a.block,a.off+i*s+j,none⟩:=by
    simp only[Addr.add];split
    ·rename_i h;subst h;rfl
    ·rfl
   rw[this,Nat.add_assoc];simp only[World.cell?,hB];rfl
  have hsz:a.off+cap*s<=B.size:=by
   have h1:=hB2 (cap-1) (s-1) (by omega) (by omega);rw[List.getElem?_eq_getElem (by rw[hlen _ (by omega)];omega)]at h1;have h2:=(Array.getElem?_eq_some_iff.1 h1).1;have h3:(cap-1)*s+(s-1)+1=cap*s:=by
    obtain⟨c,rfl⟩:∃c,cap=c+1:=⟨cap-1,by omega⟩
    rw[Nat.add_sub_cancel,Nat.add_mul];omega
   omega
  have hdiv:∀k,k<len*s->k/s<len/\k%s<s/\k=k/s*s+k%s:=λk hk=>⟨Nat.div_lt_of_lt_mul (by rw[Nat.mul_comm];exact hk),Nat.mod_lt _ hs,by rw[Nat.mul_comm];exact(Nat.div_add_mod k s).symm⟩
  let ρ2:Rho:=upd ρ1 n1 (a.block,a.off)
  let fz2:Fz:=λid=>if id=n1 then some css.flatten else fz1 id
  have hup:∀id p,ρ1 id=some p->ρ2 id=some p:=λid p hp=>Qk7 (p:=(a.block,a.off)) (g1.fr n1 (Nat.le_refl _)).2 id p hp;have hx:ImpX n1 fz1 ρ1 (n1+1) fz2 ρ2:=⟨by omega,λid B hb=>by
   show(if id=n1 then _ else _)=_;rw[if_neg (λe=>by subst e;rw[(g1.fr id (Nat.le_refl _)).1]at hb;cases hb)];exact hb,hup⟩
  refine⟨n1+1,fz2,ρ2,[.osl n1 0 len len s],⟨λid hi=>⟨?_,?_⟩,λid cs hcs=>?_⟩,g2.trans hx,⟨⟨(a.block,a.off),cap,upd_same _ _ _,?_,Nat.le_refl _,hle,?_,?_⟩,trivial⟩,rfl,_,css,rfl,.inr ⟨n1,0,len,css.flatten,by rw[g3],by omega,?_,Qfu (Qe3 hls),by rw[hfl,g3];omega,?_,hls⟩,g3,λi hi=>hm hx.fz (g6 i hi)⟩
  ·show(if id=n1 then _ else _)=none;rw[if_neg (by omega)];exact(g1.fr id (by omega)).1
  ·show upd ρ1 n1 _ id=none;unfold upd;rw[if_neg (by omega)];exact(g1.fr id (by omega)).2
  ·have hcs':(if id=n1 then some css.flatten else fz1 id)=some cs:=hcs;split at hcs'
   ·rename_i e;subst e;cases hcs';refine⟨(a.block,a.off),B,ty,fr,upd_same _ _ _,hB,?_,λk sv hk=>?_⟩
    ·show a.off+css.flatten.length<=B.size;have:len*s<=cap*s:=Nat.mul_le_mul_right _ hle;omega
    ·have hkl:k<len*s:=by rw[<-hfl];exact(List.getElem?_eq_some_iff.1 hk).1
     obtain⟨d1,d2,d3⟩:=hdiv k hkl;have hci:k/s<css.length:=by omega
     have h1:=Qop (es:=css) (i:=k/s) (k:=k%s) (m:=1) (λe he=>(hls e he).1) hci (by omega);rw[<-d3]at h1;have h2:css.flatten[k]?=(css[k/s])[k%s]?:=by
      have:=congrArg List.head? h1;rwa [List.head?_take,List.head?_take,if_neg (by omega),if_neg (by omega),List.head?_drop,List.head?_drop]at this
     rw[h2]at hk;obtain⟨v,hv,hr⟩:=(g4 _ hci).get hk;refine⟨v,?_,VR.mono hr hup λ_=>Nat.le_refl _⟩;rw[show(a.block,a.off).2+k=a.off+(k/s*s+k%s) by show a.off+k=_;omega,hB2 _ _ (by omega) d2];exact hv
   ·exact OwnR.mono (g1.own id cs hcs') hup (λ_=>Nat.le_refl _) λ_ _=>rfl
  ·show Value.slice (some a) len cap=.slice (some ⟨a.block,a.off+0,none⟩) len cap;rw[<-hadd 0];rfl
  ·show a.off+0+cap*s<=bsize w a.block;unfold bsize;rw[hB];show _<=B.size;omega
  ·unfold maxLen at hcap;omega
  ·show(if n1=n1 then some css.flatten else fz1 n1)=some _;rw[if_pos rfl]
  ·rw[List.drop_zero,List.take_of_length_le];rw[hfl,g3];omega
end Go.Ev
namespace Go.Ev
section
variable {H:Type} {enc:TypeId×Value->H} {P:Program} {w:World}
def ImpT {H:Type} (enc:TypeId×Value->H) (P:Program) (w:World) (T:TypeId) (q:Fz->List SV->Prop):Prop:=
 ∀fuel cs d ps,DataW.trod enc P w 0 (λ_=>true) true fuel T cs=some (d,ps)->(∀k∈d.weights P T,k<=reachBytes)->∀n fz ρ,Imp w n fz ρ->Im w n fz ρ cs q
def Mono (q:Fz->List SV->Prop):Prop:=∀M M' c,Sub M M'->q M c->q M' c
theorem ImpT.mono {T:TypeId} {q r:Fz->List SV->Prop} (h:ImpT enc P w T q) (hq:∀M c,q M c->r M c):ImpT enc P w T r:=λfuel cs d ps h1 h2 n fz ρ h3=>(h fuel cs d ps h1 h2 n fz ρ h3).mono hq
theorem impT_int {T:TypeId} (ht:P.underlying T=some (.int .i64)):ImpT enc P w T λ_ c=>∃i:Int,(Lit.int .i64 i).wf=true/\c=[.int .i64 i]:=λfuel cs d ps h _ n fz ρ hi=>by
 obtain⟨i,rfl,_,hw⟩:=DataW.trod_int ht h;exact(Im.one hi (c:=[.int .i64 i]) (vs:=[.int .i64 i]) (λ_=>⟨rfl,trivial⟩) rfl).mono λ_ _ h=>⟨i,hw,h⟩
theorem Qw2 {T:TypeId} (ht:P.underlying T=some .bool):ImpT enc P w T λ_ c=>∃b,c=[.bool b]:=λfuel cs d ps h _ n fz ρ hi=>by
 obtain⟨b,rfl,_⟩:=DataW.trod_bool ht h;exact(Im.one hi (c:=[.bool b]) (vs:=[.bool b]) (λ_=>⟨rfl,trivial⟩) rfl).mono λ_ _ h=>⟨b,h⟩
theorem impT_str {T:TypeId} (ht:P.underlying T=some .string):ImpT enc P w T λ_ c=>∃l m,m<256^l/\l<=reachBytes/\c=[.str l m]:=λfuel cs d ps h hwt n fz ρ hi=>by
 obtain⟨s,rfl,hx,_⟩:=DataW.trod_string ht h;have hd:d=.lit (.string s.data.toList):=congrArg Prod.fst hx;subst hd;have hb:=hwt s.data.toList.length (by simp[DataW.weights]);have hs:sOf s.data.toList.length (nOf s.data.toList)=s:=by
  apply ByteArray.ext;apply Array.ext';show sB _ _=_;rw[nOf_eq]
 exact(Im.one hi (c:=[.str s.data.toList.length (nOf s.data.toList)]) (vs:=[.string s]) (λ_=>⟨⟨Qqm _,by rw[hs]⟩,trivial⟩) rfl).mono λ_ _ h=>⟨_,_,Qqm _,hb,h⟩
theorem Qob:∀(ts:List (TypeId×(Fz->List SV->Prop))) (segs:List (List Value)),(∀p∈ts,Mono p.2)->All2 (λp cs=>∀n fz ρ,Imp w n fz ρ->Im w n fz ρ cs p.2) ts segs->∀n fz ρ,Imp w n fz ρ->Im w n fz ρ segs.flatten λM c=>∃cs,c=cs.flatten/\All2 (λp d=>p.2 M d) ts cs
 |[],[],_,_,n,fz,ρ,h=>(Im.one h (c:=[]) (vs:=[]) (λ_=>trivial) rfl).mono λ_ _ h=>⟨[],h,trivial⟩
 |[],_::_,_,h,_,_,_,_=>h.elim
 |_::_,[],_,h,_,_,_,_=>h.elim
 |p::ts,s::segs,hm,h,n,fz,ρ,hi=>by
  refine(Im.seq (q:=p.2) (λhs hq=>hm p (by simp) _ _ _ hs hq) (h.1 n fz ρ hi) λn fz ρ hi=>Qob ts segs (λp hp=>hm p (by simp[hp])) h.2 n fz ρ hi).mono ?_;rintro M c ⟨a,b,rfl,h1,cs,rfl,h2⟩;exact⟨a::cs,rfl,h1,h2⟩
def Qj3 (P:Program):List TypeId->List Value->List (List Value)
 |[],_=>[]
 |t::ts,cs=>cs.take (P.cellsOf t)::Qj3 P ts (cs.drop (P.cellsOf t))
theorem Qpe:∀(ts:List TypeId) (cs:List Value),cs.length=(ts.map P.cellsOf).sum->(Qj3 P ts cs).flatten=cs
 |[],cs,h=>by simp at h;simp[Qj3,h]
 |t::ts,cs,h=>by
  simp only[List.map_cons,List.sum_cons]at h;simp only[Qj3,List.flatten_cons];rw[Qpe ts _ (by simp;omega),List.take_append_drop]
theorem Qjj {ts:List TypeId} {ds:List (DataW H)} {i:Nat} {t:TypeId} {d:DataW H} (ht:ts[i]?=some t) (hd:ds[i]?=some d):∀k∈d.weights P t,k∈DataW.weightsEach P ts ds:=λk hk=>DataW.weights_mem_each ht hd k hk
theorem Qmg {e:TypeId}:∀{ds:List (DataW H)} {d:DataW H},d∈ds->∀k∈d.weights P e,k∈DataW.weightsAll P e ds
 |[],_,h,_,_=>by cases h
 |x::ds,d,h,k,hk=>by
  simp only[DataW.weightsAll,List.mem_append];rcases List.mem_cons.1 h with rfl|h
  ·exact .inl hk
  ·exact .inr (Qmg h k hk)
theorem Qhg {T:TypeId} {fs:Array Field} (ht:P.underlying T=some (.struct fs)) (ts:List (TypeId×(Fz->List SV->Prop))) (hts:fs.toList.map (·.type)=ts.map (·.1)) (hoff:fs.toList.map (·.offset)=(List.range ts.length).map fun i=>(((ts.map (·.1)).take i).map P.cellsOf).sum)
 (hsz:P.cellsOf T=((ts.map (·.1)).map P.cellsOf).sum) (hm:∀p∈ts,Mono p.2) (hi:∀p∈ts,ImpT enc P w p.1 p.2):ImpT enc P w T λM c=>∃cs,c=cs.flatten/\All2 (λp d=>p.2 M d) ts cs:=λfuel cs d ps h hwt n fz ρ himp=>by
 obtain⟨xs,m,_,hx,hlen,hxl,hf⟩:=DataW.trod_struct ht h;have hd:d=.agg (xs.map (·.1)):=congrArg Prod.fst hx;subst hd;have hfl:fs.toList.length=ts.length:=by have:=congrArg List.length hts;simpa using this
 rw[show cs=(Qj3 P (ts.map (·.1)) cs).flatten from(Qpe _ _ (by rw[hlen,hsz])).symm];have hseg:∀(us:List TypeId) (cs:List Value) (i:Nat) (h:i<us.length),(Qj3 P us cs)[i]?=some ((cs.drop ((us.take i).map P.cellsOf).sum).take (P.cellsOf us[i])):=by
  intro us;induction us with
  |nil=>intro cs i h;simp at h
  |cons u us ih=>
   intro cs i h;cases i with
   |zero=>simp[Qj3]
   |succ i=>
    have:=ih (cs.drop (P.cellsOf u)) i (by simpa using h);simp only[Qj3,List.getElem?_cons_succ,this,List.drop_drop,List.take_succ_cons,List.map_cons,List.sum_cons,List.getElem_cons_succ]
 have hsl:∀(us:List TypeId) (cs:List Value),(Qj3 P us cs).length=us.length:=by
  intro us;induction us with
  |nil=>intro cs;rfl
  |cons u us ih=>intro cs;simp[Qj3,ih]
 refine Qob ts _ hm (All2.Qlq (by rw[hsl];simp) λi p sg hp hsg n fz ρ himp=>?_) n fz ρ himp;have hil:i<ts.length:=(List.getElem?_eq_some_iff.1 hp).1;have hpe:ts[i]=p:=(List.getElem?_eq_some_iff.1 hp).2;obtain⟨f,hfi⟩:∃f,fs[i]?=some f:=⟨fs[i]'(by have:fs.size=fs.toList.length:=rfl;omega),Array.getElem?_eq_getElem _⟩
 have hfi':fs.toList[i]?=some f:=by simpa using hfi
 have e1:f.type=p.1:=by
  have:=congrArg (·[i]?) hts;simp only[List.getElem?_map,hfi',hp,Option.map_some]at this;exact Option.some.inj this
 have e2:f.offset=(((ts.map (·.1)).take i).map P.cellsOf).sum:=by
  have:=congrArg (·[i]?) hoff;simp only[List.getElem?_map,hfi',List.getElem?_range hil,Option.map_some]at this;exact Option.some.inj this
 have h1:=hf i f hfi;rw[hseg _ _ i (by simpa using hil)]at hsg;cases hsg;have hxi:i<xs.length:=by rw[hxl];have:fs.size=fs.toList.length:=rfl;omega
 rw[List.getElem?_eq_getElem hxi,e1,e2]at h1;rw[List.getElem_map,hpe];refine hi p (List.mem_of_getElem? hp) m _ xs[i].1 xs[i].2 h1 (λk hk=>hwt k ?_) n fz ρ himp;simp only[DataW.weights,ht];exact Qjj (i:=i) (t:=p.1) (d:=xs[i].1) (by rw[List.getElem?_map,hfi',Option.map_some,e1]) (by rw[List.getElem?_map,List.getElem?_eq_getElem hxi,Option.map_some]) k hk
theorem Qjk {T e:TypeId} (ht:P.underlying T=some (.slice e)) {s b:Nat} (hs:P.cellsOf e=s) (hs0:0<s) (hb:P.bytesOf e=b) {q:Fz->List SV->Prop} (hm:Mono q) (hi:ImpT enc P w e q):
 ImpT enc P w T λM c=>∃x css,c=[x]/\Sl M s x css/\css.length*b<=reachBytes/\∀d∈css,q M d:=λfuel cs d ps h hwt n fz ρ himp=>by
 rcases Go.Deep.open_slice ht h with⟨rfl,_⟩|⟨a,len,cap,m,k,D,Pl,rfl,_,hle,hcap,hmm,hx,hel⟩
 ·exact(Im.one himp (c:=[.nsl]) (vs:=[.slice none 0 0]) (λ_=>⟨rfl,trivial⟩) rfl).mono λM c hc=>⟨.nsl,[],hc,.inl ⟨.inl rfl,rfl⟩,by simp,λd hd=>(by cases hd)⟩
 ·have hmm:m=cap:=hmm;rw[hmm]at hx hel;have hd:d=.slice ((List.range len).map D) ((List.range (cap-len)).map λj=>D (len+j)):=congrArg Prod.fst hx;subst hd;have hel':∀i,i<cap->∃cs',w.cells? 0 (a.add (i*s)) s=some cs'/\DataW.trod enc P w 0 (λ_=>true) true k e cs'=some (D i,Pl i):=λi hi=>by rw[<-hs];exact hel i hi
  have hC:∃C:Nat->List Value,∀i,i<cap->w.cells? 0 (a.add (i*s)) s=some (C i)/\DataW.trod enc P w 0 (λ_=>true) true k e (C i)=some (D i,Pl i):=by
   refine⟨λi=>((w.cells? 0 (a.add (i*s)) s).getD []),λi hi=>?_⟩;obtain⟨cs',h1,h2⟩:=hel' i hi;simp only[h1,Option.getD_some];exact⟨trivial,h2⟩
  obtain⟨C,hC⟩:=hC;have hw1:∀i,i<len->∀k∈(D i).weights P e,k<=reachBytes:=λi hi k hk=>hwt k (by
   simp only[DataW.weights,ht,List.mem_cons,List.mem_append];exact .inr (.inl (Qmg (List.mem_map.2 ⟨i,by simpa using hi,rfl⟩) k hk)))
  have hw2:len*b<=reachBytes:=by
   have:=hwt _ (by simp only[DataW.weights,ht,List.mem_cons];exact .inl rfl);simp only[List.length_map,List.length_range,hb]at this;have h3:len*b<=(len+(cap-len))*b:=Nat.mul_le_mul_right _ (by omega);omega
  refine(Qvs hs0 (C:=C) (λi hi=>(hC i hi).1) hle hcap (El:=λM c _=>q M c) (λhs hq=>hm _ _ _ hs hq) (λi hi' n fz ρ h=>hi k (C i) _ _ (hC i (by omega)).2 (hw1 i hi') n fz ρ h) himp).mono ?_;rintro M c ⟨x,css,rfl,h1,h2,h3⟩;refine⟨x,css,rfl,h1,by rw[h2];exact hw2,λd hd=>?_⟩;obtain⟨i,hi,rfl⟩:=List.getElem_of_mem hd;exact h3 i hi
end
end Go.Ev
namespace Go.Ev
theorem Qrj {P:Program} {f:Nat} (hb:Qgw P f=true) (h:Qsi P f):Ctr P f [] (λ_=>True) λ_ _ _ v=>v=.one (.bool true):=λfz mu n k hfr _ hk=>
 ⟨.one (.bool true),mu,n,hk _ _ _ (Gr.refl hfr) rfl,hb,Nat.le_refl _,λρ w xs hr hx hf=>by
  cases xs with
  |cons _ _=>exact hx.elim
  |nil=>exact(h w).mono λe w' ⟨he,hf⟩=>⟨_,he,ρ,Ext.refl _ _ _,hr.grow hf,rfl,hf.any,λid p hl hp=>.inr ⟨id,p,hl,hp,rfl⟩,NewI.refl⟩⟩
theorem Qrt {P:Program} {f:Nat} {avs:List AV} {fz:Fz} {n:Nat} {ρ:Rho} {w:World} {xs:List Value} (h:CP P f avs fz [] n λv _ _=>v=.one (.bool true)) (hi:Imp w n fz ρ) (hx:All2 (AVR v0 ρ w) avs xs):
 Calls P f xs.toArray w λe w'=>e=.returned (.bool true)/\Fr ρ [] w w':=by
 obtain⟨v,mu',n',rfl,hb,hle,hc⟩:=h;refine(hc ρ w xs hi.rel hx hi.fresh).mono λe w' ⟨x,he,ρ',h1,h2,h3,h4,_⟩=>⟨?_,h4⟩
 have:x=.bool true:=h3;rw[he,this]
section
open Go.ChangeShapes Go.WideShapes Go.RowKit
variable {H:Type} {enc:TypeId×Value->H} {P:Program}
theorem Qkv (hl:laidOutB P=true) {W W':World} (hb:Below W.heap.size W W') {sp:Nat->Bool}:∀{ts:List TypeId} {vs:List Value} {ds:List (DataW H)} {ps:List MemPlace},(∀t∈ts,P.readableRec t=true/\t<P.types.size)->
 DataW.TrodAll enc P W 0 (λ_=>true) true ts vs ds ps->(∀x∈ps,x.block<W.heap.size)->(∀p∈ps,sp p.block=true)->DataW.TrodAll enc P W' 0 sp true ts vs ds ps
 |[],[],[],_,_,h,_,_=>h
 |t::ts,v::vs,d::ds,ps,ht,⟨p,q,h1,h2,he⟩,hlt,hs=>⟨p,q,WideElems.Trod_stays hl (ht t (by simp)).1 (ht t (by simp)).2 h1 (fun x hx=>hb.same (hlt x (by rw[he];simp[hx]))) (fun x hx=>hs x (by rw[he];simp[hx])),
   Qkv hl hb (λt h=>ht t (by simp[h])) h2 (λx hx=>hlt x (by rw[he];simp[hx])) (λx hx=>hs x (by rw[he];simp[hx])),he⟩
 |[],_::_,_,_,_,h,_,_=>h.elim
 |[],[],_::_,_,_,h,_,_=>h.elim
 |_::_,[],_,_,_,h,_,_=>h.elim
 |_::_,_::_,[],_,_,h,_,_=>h.elim
theorem Fr.below {ρ:Rho} {w w':World} (h:Fr ρ [] w w'):Below w.heap.size w w':=⟨h.os,h.tape,h.output,h.size,λk hk=>h.keep k hk λid p hl=>by cases hl⟩
theorem post_law {f:Func} {s:ChangeSpec} {apart fresh handsOn again:Bool} {W W':World} {args:Array Value} {ds gs:List (DataW H)} {before:List MemPlace} {ρ:Rho} {tb:TypeId} (hl:laidOutB P=true) (hts:∀t∈f.params.toList,P.readableRec t=true/\t<P.types.size)
 (hv:s.vars=[]) (hr:f.resultTypes=#[tb]) (htb:P.underlying tb=some .bool) (hs:(s.fn H (ds++gs)).results=[.lit (.bool true)]) (hs2:(s.fn H (ds++gs)).args=ds) (hs3:(s.fn H (ds++gs)).vars=[])
 (hW:DataW.Whole enc P f.params.toList s.vars apart W args.toList ds gs before) (hf:Fr ρ [] W W'):s.post enc P f apart fresh handsOn again W args (.bool true) W':=by
 have hlt:=hW.lt;have hW':=hW;obtain⟨p,q,hA,hV,rfl,hfz,hnd⟩:=hW;have hq:q=[]:=by
  rw[hv]at hV;cases gs with
  |nil=>exact hV
  |cons g gs=>exact hV.elim
 subst hq;have hg:=hf.grown;refine Qou (pa:=p) (pv:=[]) hW' (λb sp hd=>?_) (λsp hsp=>?_) (λsp hsp=>?_) rfl (hg.frame _) hg.2.1 ?_
 ·rw[hs,hr];exact trodAll_cons_mk (shut_bool htb _) trodAll_mk0
 ·rw[hs2];exact Qkv hl (Fr.below hf) hts hA (λx hx=>hlt x (by simp[hx])) (λx hx=>hsp x (by simp[hx]))
 ·rw[hs3,hv];exact rfl
 ·exact ok_one hr rfl (okWide_bool_mk htb _)
end
end Go.Ev
set_option maxRecDepth 1000000
namespace Go.Proofs.YtnnjlnkoomeadaaGreat.Pv
open Go.Ev
def ml:List Nat:=[12,13,36,42,45,46,47,55,56,58,59,62,66,67,71,72,73,74,75,77,78,79,80,81,82,101,102,106,107,110,120,121,124,126,128,136,143,154,157,161,162,163,164,165,166,167,168,171,172,173,176,177,178,179]
theorem kk {f:Nat} {fn:Func} {a:AFunc} (h:Tryz.prog.funcs[f]?=some fn) (e:Qgw Tryz.prog f=true:=by kernel_rfl) (e2:Ql2 Tryz.prog (Qep ml false) fn=some a:=by kernel_rfl):FOk Tryz.prog f a:=⟨e,fn,_,h,e2⟩
theorem fs:Fs Tryz.prog:=⟨by kernel_rfl,kk Tryz.func5,kk Tryz.func6,kk Tryz.func7,kk Tryz.func10,kk Tryz.func11,kk Tryz.func12,kk Tryz.func13,kk Tryz.func14,kk Tryz.func15,kk Tryz.func23,kk Tryz.func24,kk Tryz.func25,kk Tryz.func26,kk Tryz.func27,kk Tryz.func28,kk Tryz.func29,kk Tryz.func30,kk Tryz.func31,kk Tryz.func32,kk Tryz.func33,kk Tryz.func34,kk Tryz.func35,kk Tryz.func36,kk Tryz.func37,kk Tryz.func39,kk Tryz.func40,kk Tryz.func41,kk Tryz.func42,kk Tryz.func43,kk Tryz.func44,kk Tryz.func45,kk Tryz.func46,kk Tryz.func47,kk Tryz.func48,kk Tryz.func49,kk Tryz.func50,kk Tryz.func53,kk Tryz.func54,kk Tryz.func55,kk Tryz.func56,kk Tryz.func57,kk Tryz.func58,kk Tryz.func59,kk Tryz.func60,kk Tryz.func61,kk Tryz.func62,kk Tryz.func63,kk Tryz.func64,kk Tryz.func65,kk Tryz.func66,kk Tryz.func67,kk Tryz.func68,kk Tryz.func69,kk Tryz.func70,kk Tryz.func71,kk Tryz.func72,kk Tryz.func73,kk Tryz.func74,kk Tryz.func75,kk Tryz.func76,kk Tryz.func77,kk Tryz.func78,kk Tryz.func79,kk Tryz.func80,kk Tryz.func81,kk Tryz.func82,kk Tryz.func83,kk Tryz.func84,kk Tryz.func85,kk Tryz.func86,kk Tryz.func87,kk Tryz.func88,kk Tryz.func89,kk Tryz.func90,kk Tryz.func91,kk Tryz.func92,kk Tryz.func93,kk Tryz.func94,kk Tryz.func95,kk Tryz.func96,kk Tryz.func97,kk Tryz.func98,kk Tryz.func99,kk Tryz.func100,kk Tryz.func102,kk Tryz.func103,kk Tryz.func104,kk Tryz.func105,kk Tryz.func106,kk Tryz.func107,kk Tryz.func108,kk Tryz.func109,kk Tryz.func110,kk Tryz.func111,kk Tryz.func112,kk Tryz.func113,kk Tryz.func114,kk Tryz.func115,kk Tryz.func116,kk Tryz.func117,kk Tryz.func118,kk Tryz.func119,kk Tryz.func120,kk Tryz.func121,kk Tryz.func122,kk Tryz.func123,kk Tryz.func125,kk Tryz.func126,kk Tryz.func127,kk Tryz.func129,kk Tryz.func130,kk Tryz.func131,kk Tryz.func132,kk Tryz.func133,kk Tryz.func134,kk Tryz.func135,kk Tryz.func136,kk Tryz.func137,kk Tryz.func138,kk Tryz.func139,kk Tryz.func140,kk Tryz.func141,kk Tryz.func142,kk Tryz.func145,kk Tryz.func146,kk Tryz.func147,kk Tryz.func148,kk Tryz.func149,kk Tryz.func150,kk Tryz.func151,kk Tryz.func152,kk Tryz.func155,kk Tryz.func158,kk Tryz.func159,kk Tryz.func160⟩
end Go.Proofs.YtnnjlnkoomeadaaGreat.Pv
set_option maxRecDepth 1000000
set_option maxHeartbeats 4000000
namespace Go.Proofs.YtnnjlnkoomeadaaGreat.Pv
open Go.Ev
theorem mixedV:Tryz.prog.follows .mixedOrders=true:=by kernel_rfl
def FA:FTree:=(.node n_Qcl a_Qcl (.node n_Qb5 a_Qb5 (.node n_Qaw a_Qaw (.node n_Qcw a_Qcw (.node n_Qdd a_Qdd (.node n_Qdn a_Qdn .nil .nil) .nil) (.node n_Qdo a_Qdo .nil .nil)) (.node n_Qdp a_Qdp (.node n_Qbq a_Qbq .nil .nil) (.node n_Qeh a_Qeh .nil .nil))) (.node n_Qa5 a_Qa5 (.node n_Qbs a_Qbs (.node n_Qa3 a_Qa3 (.node n_Qbd a_Qbd .nil .nil) .nil) (.node n_Qa4 a_Qa4 .nil .nil)) (.node n_Qc0 a_Qc0 (.node n_Qbf a_Qbf .nil .nil) (.node n_Qdi a_Qdi .nil .nil)))) (.node n_Qby a_Qby (.node n_Qaz a_Qaz (.node n_Qaj a_Qaj (.node n_Qdr a_Qdr (.node n_Qcm a_Qcm .nil .nil) .nil) (.node n_Qc3 a_Qc3 .nil .nil)) (.node n_Qan a_Qan (.node n_Qbh a_Qbh .nil .nil) (.node n_Qc6 a_Qc6 .nil .nil))) (.node n_Qdm a_Qdm (.node n_Qap a_Qap (.node n_Qaq a_Qaq (.node n_Qau a_Qau .nil .nil) .nil) (.node n_Qc8 a_Qc8 .nil .nil)) (.node n_Qaf a_Qaf (.node n_Qdb a_Qdb .nil .nil) (.node n_Qcf a_Qcf .nil .nil)))))
theorem faOk:FA.Ok Tryz.prog:=⟨(kk Tryz.func86),⟨(kk Tryz.func53),⟨(kk Tryz.func32),⟨(kk Tryz.func30),⟨(kk Tryz.func17),⟨(kk Tryz.func16),trivial,trivial⟩,trivial⟩,⟨(kk Tryz.func31),trivial,trivial⟩⟩,⟨(kk Tryz.func51),⟨(kk Tryz.func36),trivial,trivial⟩,⟨(kk Tryz.func52),trivial,trivial⟩⟩⟩,⟨(kk Tryz.func61),⟨(kk Tryz.func57),⟨(kk Tryz.func55),⟨(kk Tryz.func54),trivial,trivial⟩,trivial⟩,⟨(kk Tryz.func60),trivial,trivial⟩⟩,⟨(kk Tryz.func68),⟨(kk Tryz.func62),trivial,trivial⟩,⟨(kk Tryz.func85),trivial,trivial⟩⟩⟩⟩,⟨(kk Tryz.func113),⟨(kk Tryz.func101),⟨(kk Tryz.func89),⟨(kk Tryz.func88),⟨(kk Tryz.func87),trivial,trivial⟩,trivial⟩,⟨(kk Tryz.func90),trivial,trivial⟩⟩,⟨(kk Tryz.func104),⟨(kk Tryz.func102),trivial,trivial⟩,⟨(kk Tryz.func112),trivial,trivial⟩⟩⟩,⟨(kk Tryz.func151),⟨(kk Tryz.func143),⟨(kk Tryz.func138),⟨(kk Tryz.func114),trivial,trivial⟩,trivial⟩,⟨(kk Tryz.func144),trivial,trivial⟩⟩,⟨(kk Tryz.func161),⟨(kk Tryz.func155),trivial,trivial⟩,⟨(kk Tryz.func170),trivial,trivial⟩⟩⟩⟩⟩
theorem Qro:vcall (noOrc false) false (λ_=>none) FA.find 300 16 n_Qdn [] (λ_=>none) [] 0 isT=true:=by kernel_rfl
theorem awake17:Qsi Tryz.prog n_Qdn:=λw=>law_true (T:=λb:Bool=>b=true) (val:=v0) (by decide) (λ_ _ _ h=>isT_elim h) (noOrc_ok (by decide) _) mixedV (λf c h=>by cases h) (FTree.ok faOk) Qro w [] trivial
end Go.Proofs.YtnnjlnkoomeadaaGreat.Pv
namespace Go.Ev
section
variable {val:Nat->Int} {fz:Fz}
structure Stp (val:Nat->Int) (fz:Fz) (ρ:Rho) (mu:St) (n:Nat) (w:World) (ρ':Rho) (mu':St) (n':Nat) (w':World):Prop where
 le:n<=n'
 ext:Ext ρ ρ' n n'
 rel:Rel val ρ' fz mu' w'
 fr:Fr ρ mu w w'
 nb:NewB ρ ρ' mu mu' w
 ni:NewI mu mu' n n'
variable {ρ ρ' ρ'':Rho} {mu mu' mu'':St} {n n' n'':Nat} {w w' w'':World}
theorem Stp.trans (h:Stp val fz ρ mu n w ρ' mu' n' w') (k:Stp val fz ρ' mu' n' w' ρ'' mu'' n'' w''):Stp val fz ρ mu n w ρ'' mu'' n'' w'':=
 ⟨Nat.le_trans h.le k.le,h.ext.trans k.ext h.le k.le,k.rel,h.fr.trans h.nb k.fr,h.nb.trans k.nb h.fr.size,h.ni.trans k.ni h.le k.le⟩
theorem Stp.post (h:Stp val fz ρ mu n w ρ' mu' n' w') {v:AV} {x:Value} (hv:AVR val ρ' w' v x):Post val ρ fz mu n w v mu' n' x w':=⟨ρ',h.ext,h.rel,hv,h.fr,h.nb,h.ni⟩
theorem Stp.put {id:Nat} {cs cs':List SV} {p:Nat×Nat} (hr:Rel val ρ fz mu w) (hl:look mu id=some cs) (hp:ρ id=some p) (hos:w'.os=w.os) (htp:w'.tape=w.tape) (hou:w'.output=w.output)
 (hsz:w'.heap.size=w.heap.size) (hother:∀b,b≠p.1->w'.heap[b]?=w.heap[b]?) (hbs:∀b,bsize w b<=bsize w' b) (hown:OwnG val ρ w' id cs'):
 Stp val fz ρ mu n w ρ (putS mu id cs') n w':=
 let⟨a1,a2,a3,a4⟩:=Qtt hr hl hp hos htp hou hsz hother hbs hown
 ⟨Nat.le_refl _,Ext.refl _ _ _,a1,a2,a3,a4⟩
end
end Go.Ev
namespace Go.Ev
open Go.Shelf Go.Proofs Go.Sort Go.RowKit
section
variable {val:Nat->Int} {fz:Fz} {ρ:Rho} {mu:St} {n:Nat} {w w':World}
theorem Qi9 (hb:Below w.heap.size w w') (b:Nat):bsize w b<=bsize w' b:=by
 unfold bsize;by_cases h:b<w.heap.size
 ·rw[hb.block b h];exact Nat.le_refl _
 ·rw[show w.heap[b]?=none from by simp;omega];exact Nat.zero_le _
theorem Rel.Qve (hr:Rel val ρ fz mu w) (hb:Below w.heap.size w w'):Rel val ρ fz mu w':=
 ⟨fun id cs h=>(hr.rf id cs h).mono (fun _ _ h=>h) (Qi9 hb) fun p hp=>hb.block _ ((hr.rf id cs h).lt hp),
  λid cs h=>(hr.rm id cs h).mono (λ_ _ h=>h) (Qi9 hb) λp hp=>hb.block _ ((hr.rm id cs h).lt hp),hr.dm,hr.dj⟩
theorem Stp.Qve (hr:Rel val ρ fz mu w) (hb:Below w.heap.size w w'):Stp val fz ρ mu n w ρ mu n w':=
 ⟨Nat.le_refl _,Ext.refl _ _ _,hr.Qve hb,⟨hb.os,hb.tape,hb.output,hb.size,λb h _=>hb.block b h,Qi9 hb⟩,NewB.refl,NewI.refl⟩
end
theorem Qu2 {w:World} {g m off:Nat} {cur:Array Value} {e:TypeId} {fr:Nat×Nat} (d:Array Int) (hb:w.heap[g]?=some (.cells cur e fr)):
 (putRow (Value.int .i64) (Sort.ahead w m) g off d).heap[g]?=some (.cells (putCells (Value.int .i64) off d cur) e fr):=by
 simp[putRow,mapBlock,Sort.ahead,Array.getElem?_modify,hb,onCells]
theorem Qmn {w:World} {g m off b:Nat} (d:Array Int) (h:b≠g):(putRow (Value.int .i64) (Sort.ahead w m) g off d).heap[b]?=w.heap[b]?:=by
 simp[putRow,mapBlock,Sort.ahead,Array.getElem?_modify,Ne.symm h]
theorem Qpz {P:Program} {f:FuncId} {B:Func} (hf:P.funcs[f]?=some B) (hb:B.body.isSome=true) (hn:(B.name== "runtime.NumGoroutine")=false):Qgw P f=true:=by
 unfold Qgw;rw[hf];show(B.body.isSome&&!(B.name== "runtime.NumGoroutine"))=true;rw[hb,hn];rfl
theorem Qwb {P:Program} {ren:Ren} {f:FuncId} (hf0:ren.f 189=f) (L:Lays.n189 P ren) {id cap:Nat} {l:List Int} {fz:Fz} {mu:St} {n:Nat} {k:AV->St->Nat->Prop}
 (hl:look mu id=some (l.map (SV.int .i64))) (hs:l.length<4611686018427387904)
 (h:k (.tp []) (putS mu id ((srt l).map (SV.int .i64))) n):CP P f [.one (.osl id 0 l.length cap 1)] fz mu n k:=by
 subst hf0;refine⟨_,_,_,h,Qpz L.f189 rfl (show("slices.Sort[[]int,int]" == "runtime.NumGoroutine")=false by decide),Nat.le_refl _,fun ρ w xs hr hx hf=>?_⟩;match xs,hx with
 |[x],hx=>
 obtain⟨q,c,hq,hxe,_⟩:=(show VR v0 ρ w (.osl id 0 l.length cap 1) x from hx.1)
 subst hxe;obtain⟨p,C,ty,fr,hp,hC,hfr,hsz,hcs⟩:=(hr.rm id _ hl).plain (by cases l<;>rfl);rw[hq]at hp;cases hp;have hsz:q.2+l.length<=C.size:=by simpa using hsz
 have hcell:∀j (hj:j<l.length),C[q.2+j]?=some (.int .i64 l[j]):=λj hj=>by
  obtain⟨v,e1,e2⟩:=hcs j (.int .i64 l[j]) (by simp[hj]);rw[e1,show v=.int .i64 l[j]from e2]
 have hH:Holds (Value.int .i64) w q.1 q.2 l.toArray:=by
  intro j hj;have hj:j<l.length:=by simpa using hj
  refine⟨?_,?_⟩
  ·simp only[World.cell?,hC,Option.isSome_none,Bool.false_eq_true,if_false];rw[hcell j hj];simp[hj]
  ·simp only[World.frozen?,hC];exact hfr.no (by omega)
 have hlt:q.1<w.heap.size:=(Array.getElem?_eq_some_iff.1 hC).1;refine(Any.slices_Sort_int L q.1 q.2 c l w hH hlt hs).mono ?_;rintro e w' ⟨rfl,m,os,rfl⟩;refine⟨_,rfl,?_⟩;have hdl:(srt l).toArray.size=l.length:=by simp[Qg2]
 have hself:=Qu2 (m:=m) (off:=q.2) (srt l).toArray hC;have hother:∀b,b≠q.1->(putRow (Value.int .i64) (Sort.ahead w m) q.1 q.2 (srt l).toArray).heap[b]?=w.heap[b]?:=λb hb=>Qmn _ hb;have hsize:(putRow (Value.int .i64) (Sort.ahead w m) q.1 q.2 (srt l).toArray).heap.size=w.heap.size:=by simp[Sort.ahead]
 have hbs:∀b,bsize w b<=bsize (putRow (Value.int .i64) (Sort.ahead w m) q.1 q.2 (srt l).toArray) b:=λb=>by
  unfold bsize;by_cases hb:b=q.1
  ·subst hb;rw[hself,hC];simp[putCells]
  ·rw[hother b hb];exact Nat.le_refl _
 have h1:Stp v0 fz ρ mu n w ρ (putS mu id ((srt l).map (SV.int .i64))) n (putRow (Value.int .i64) (Sort.ahead w m) q.1 q.2 (srt l).toArray):=by
  refine Stp.put hr hl hq rfl rfl rfl hsize hother hbs (.inl ⟨q,_,ty,fr,hq,hself,by simpa[putCells]using hfr,by simpa[putCells,Qg2]using hsz,λi s hi=>?_⟩);simp only[List.getElem?_map,Option.map_eq_some_iff]at hi;obtain⟨z,hz,rfl⟩:=hi;obtain⟨hzl,rfl⟩:=List.getElem?_eq_some_iff.1 hz;have hil:i<l.length:=by rw[<-Qg2 l];exact hzl
  refine⟨.int .i64 (srt l)[i],?_,rfl⟩;have:q.2+i<C.size:=by omega
  simp[putCells,this,Qg2,hil,hzl]
 have hb:Below (putRow (Value.int .i64) (Sort.ahead w m) q.1 q.2 (srt l).toArray).heap.size (putRow (Value.int .i64) (Sort.ahead w m) q.1 q.2 (srt l).toArray) (grow (putRow (Value.int .i64) (Sort.ahead w m) q.1 q.2 (srt l).toArray) os):=
  ⟨rfl,rfl,rfl,by simp[grow],λb hb=>heap_grow_old _ _ hb⟩
 exact(h1.trans (Stp.Qve h1.rel hb)).post ⟨_,rfl,trivial⟩
end Go.Ev
set_option maxRecDepth 1000000
namespace Go.Proofs.YtnnjlnkoomeadaaGreat.Ev
open Go.Ev Go.Shelf
theorem Qwz:Tryz.prog.follows .mixedOrders=true:=by kernel_rfl
def Qwr:Ren:=⟨λk=>if k=189 then 101 else if k=125 then 144 else if k=257 then 143 else if k=128 then 169 else if k=129 then 170 else if k=294 then 161 else if k=295 then 162 else if k=296 then 163 else if k=297 then 164 else if k=298 then 165 else if k=299 then 166 else if k=216 then 151 else if k=300 then 167 else if k=301 then 168 else if k=328 then 173 else if k=329 then 174 else if k=330 then 175 else if k=331 then 176 else if k=332 then 177 else if k=215 then 155 else if k=343 then 180 else k,λk=>if k=28 then 25 else if k=3 then 3 else if k=46 then 125 else if k=0 then 0 else if k=51 then 144 else if k=53 then 146 else if k=4 then 4 else if k=183 then 138 else if k=182 then 137 else if k=131 then 111 else if k=5 then 5 else if k=9 then 9 else if k=218 then 147 else if k=222 then 107 else if k=228 then 153 else if k=229 then 99 else k,λk=>k⟩
theorem laysSort:Lays.n189 Tryz.prog Qwr where
 mixed:=Qwz
 f125:=by kernel_rfl
 f128:=by kernel_rfl
 f129:=by kernel_rfl
 f189:=by kernel_rfl
 f215:=by kernel_rfl
 f216:=by kernel_rfl
 f257:=by kernel_rfl
 f294:=by kernel_rfl
 f295:=by kernel_rfl
 f296:=by kernel_rfl
 f297:=by kernel_rfl
 f298:=by kernel_rfl
 f299:=by kernel_rfl
 f300:=by kernel_rfl
 f301:=by kernel_rfl
 f328:=by kernel_rfl
 f329:=by kernel_rfl
 f330:=by kernel_rfl
 f331:=by kernel_rfl
 f332:=by kernel_rfl
 f343:=by kernel_rfl
 t0:=by kernel_rfl
 a0:=λw=>by kernel_rfl
 z0:=λw=>by kernel_rfl
 v0:=λw=>by kernel_rfl
 t3:=by kernel_rfl
 a3:=λw=>by kernel_rfl
 z3:=λw=>by kernel_rfl
 v3:=λw=>by kernel_rfl
 t4:=by kernel_rfl
 a4:=λw=>by kernel_rfl
 z4:=λw=>by kernel_rfl
 v4:=λw=>by kernel_rfl
 t5:=by kernel_rfl
 a5:=λw=>by kernel_rfl
 z5:=λw=>by kernel_rfl
 v5:=λw=>by kernel_rfl
 t9:=by kernel_rfl
 a9:=λw=>by kernel_rfl
 z9:=λw=>by kernel_rfl
 v9:=λw=>by kernel_rfl
 t28:=by kernel_rfl
 a28:=λw=>by kernel_rfl
 z28:=λw=>by kernel_rfl
 v28:=λw=>by kernel_rfl
 t46:=by kernel_rfl
 a46:=λw=>by kernel_rfl
 z46:=λw=>by kernel_rfl
 v46:=λw=>by kernel_rfl
 t51:=by kernel_rfl
 a51:=λw=>by kernel_rfl
 z51:=λw=>by kernel_rfl
 v51:=λw=>by kernel_rfl
 t53:=by kernel_rfl
 a53:=λw=>by kernel_rfl
 z53:=λw=>by kernel_rfl
 v53:=λw=>by kernel_rfl
 t131:=by kernel_rfl
 a131:=λw=>by kernel_rfl
 z131:=λw=>by kernel_rfl
 v131:=λw=>by kernel_rfl
 t182:=by kernel_rfl
 a182:=λw=>by kernel_rfl
 z182:=λw=>by kernel_rfl
 v182:=λw=>by kernel_rfl
 t183:=by kernel_rfl
 a183:=λw=>by kernel_rfl
 z183:=λw=>by kernel_rfl
 v183:=λw=>by kernel_rfl
 t218:=by kernel_rfl
 a218:=λw=>by kernel_rfl
 z218:=λw=>by kernel_rfl
 v218:=λw=>by kernel_rfl
 t222:=by kernel_rfl
 a222:=λw=>by kernel_rfl
 z222:=λw=>by kernel_rfl
 v222:=λw=>by kernel_rfl
 t228:=by kernel_rfl
 a228:=λw=>by kernel_rfl
 z228:=λw=>by kernel_rfl
 v228:=λw=>by kernel_rfl
 t229:=by kernel_rfl
 a229:=λw=>by kernel_rfl
 z229:=λw=>by kernel_rfl
 v229:=λw=>by kernel_rfl
theorem sortC:Pv.SortC Tryz.prog:=λid cap l fz mu n k hl hs h=>Qwb (ren:=Qwr) rfl laysSort hl hs h
end Go.Proofs.YtnnjlnkoomeadaaGreat.Ev
set_option maxRecDepth 1000000
namespace Go.Proofs.YtnnjlnkoomeadaaGreat.Ev
open Go.Ev Go.Shelf
theorem mixedIns:Tryz.prog.follows .mixedOrders=true:=by kernel_rfl
def renIns:Ren:=⟨λk=>if k=21 then 124 else if k=27 then 153 else if k=28 then 154 else if k=35 then 171 else 178,λk=>if k=22 then 25 else k,λk=>k⟩
theorem laysIns:Lays2.n21 Tryz.prog renIns where
 mixed:=mixedIns
 f21:=by kernel_rfl
 f27:=by kernel_rfl
 f28:=by kernel_rfl
 f35:=by kernel_rfl
 f39:=by kernel_rfl
 t0:=by kernel_rfl
 a0:=λw=>by kernel_rfl
 z0:=λw=>by kernel_rfl
 v0:=λw=>by kernel_rfl
 t3:=by kernel_rfl
 a3:=λw=>by kernel_rfl
 z3:=λw=>by kernel_rfl
 v3:=λw=>by kernel_rfl
 t4:=by kernel_rfl
 a4:=λw=>by kernel_rfl
 z4:=λw=>by kernel_rfl
 v4:=λw=>by kernel_rfl
 t22:=by kernel_rfl
 a22:=λw=>by kernel_rfl
 z22:=λw=>by kernel_rfl
 v22:=λw=>by kernel_rfl
 i3:=by kernel_rfl
theorem insOk {R:Type} {T:R->Prop} {z:R} (hz:¬T z) (val:Nat->Int):Qjw T Tryz.prog val 124 (insK z):=insK_ok (ren:=renIns) rfl hz laysIns (by kernel_rfl)
theorem insC:Pv.InsC Tryz.prog:=λargs fz mu n k h=>by
 obtain⟨v,mu',n',h1,h2⟩:=insOk (T:=λp:Prop=>p) (λh=>h) Go.Ev.v0 args fz mu n k h;exact⟨v,mu',n',h1,h2⟩
end Go.Proofs.YtnnjlnkoomeadaaGreat.Ev
set_option maxRecDepth 1000000
namespace Go.Proofs.YtnnjlnkoomeadaaGreat.Ev
open Go.Ev Go.Shelf
def renInsD:Ren:=⟨λk=>if k=22 then 128 else if k=29 then 156 else if k=30 then 157 else if k=36 then 172 else if k=17 then 179 else k,λk=>if k=9 then 56 else if k=24 then 26 else k,λk=>k⟩
def zDo:Value:=.agg #[.int .i64 0,.int .i64 0,.int .i64 0,.int .i64 0,.string ⟨#[]⟩,.slice none 0 0]
theorem mixedD:Tryz.prog.follows .mixedOrders=true:=by kernel_rfl
theorem laysInsD:∃dt,LaysD Tryz.prog renInsD dt zDo "slices.Insert[[]cachet/api.Do,cachet/api.Do]" :=⟨_,{
 mixed:=mixedD
 f22:=by kernel_rfl
 f29:=by kernel_rfl
 t0:=by kernel_rfl
 a0:=λw=>by kernel_rfl
 z0:=λw=>by kernel_rfl
 v0:=λw=>by kernel_rfl
 t3:=by kernel_rfl
 a3:=λw=>by kernel_rfl
 z3:=λw=>by kernel_rfl
 v3:=λw=>by kernel_rfl
 t4:=by kernel_rfl
 a4:=λw=>by kernel_rfl
 z4:=λw=>by kernel_rfl
 v4:=λw=>by kernel_rfl
 t9:=rfl
 a9:=λw=>by kernel_rfl
 z9:=λw=>by kernel_rfl
 v9:=λw=>by kernel_rfl
 t24:=by kernel_rfl
 a24:=λw=>by kernel_rfl
 z24:=λw=>by kernel_rfl
 v24:=λw=>by kernel_rfl
 i9:=by kernel_rfl
 zc:=by kernel_rfl}⟩
theorem insDC:InsDC Tryz.prog 128:=by
 obtain⟨dt,h⟩:=laysInsD;exact insDC_ok rfl h (by kernel_rfl)
end Go.Proofs.YtnnjlnkoomeadaaGreat.Ev
namespace Go.Proofs.YtnnjlnkoomeadaaGreat.Pv
open Go.Ev Go.Ev.Rp
set_option maxRecDepth 100000
def qI:Fz->List SV->Prop:=λ_ c=>∃i:Int,(Lit.int .i64 i).wf=true/\c=[I i]
def qS:Fz->List SV->Prop:=λ_ c=>∃t:Tx,t.l<=reachBytes/\c=[t.sv]
def qB:Fz->List SV->Prop:=λ_ c=>∃b,c=[SV.bool b]
structure LgW (l:Lg):Prop where
 snap:l.snap.l<=reachBytes
 ents:l.ents.length*56<=reachBytes
 bat:∀e∈l.ents,e.batch.length*32<=reachBytes
structure MsgW (m:Msg):Prop where
 bat:m.batch.length*32<=reachBytes
 log:LgW m.log
structure RepW (r:Rep):Prop where
 log:LgW r.log
 acks:r.acks.length*8<=reachBytes
 starts:r.starts.length*8<=reachBytes
 dos:r.dos.length*72<=reachBytes
 dlog:∀d∈r.dos,LgW d.log
def qP:Fz->List SV->Prop:=λ_ c=>∃p:Pt,c=ptC p
def qPs:Fz->List SV->Prop:=λM c=>∃x l,c=[x]/\PtsR M x l/\l.length*32<=reachBytes
def qE:Fz->List SV->Prop:=λM c=>∃b e,c=entC e b/\PtsR M b e.batch/\e.batch.length*32<=reachBytes
def qEs:Fz->List SV->Prop:=λM c=>∃x l,c=[x]/\EntsR M x l/\l.length*56<=reachBytes/\∀e∈l,e.batch.length*32<=reachBytes
def qL:Fz->List SV->Prop:=λM c=>∃x l,c=lgC l x/\EntsR M x l.ents/\LgW l
def qIs:Fz->List SV->Prop:=λM c=>∃x l,c=[x]/\IntsR M x l/\l.length*8<=reachBytes
def qD:Fz->List SV->Prop:=λM c=>∃x d,c=dvC d x/\EntsR M x d.log.ents/\LgW d.log
def qDs:Fz->List SV->Prop:=λM c=>∃x l,c=[x]/\DvsR M x l/\l.length*72<=reachBytes/\∀d∈l,LgW d.log
def qR:Fz->List SV->Prop:=λM c=>∃xe xa xs xd r,c=repC r xe xa xs xd/\RepS M r xe xa xs xd/\RepW r
def qM:Fz->List SV->Prop:=λM c=>∃xb xe m,c=msgC m xb xe/\MsgS M m xb xe/\MsgW m
theorem qI_m:Mono qI:=λ_ _ _ _ h=>h
theorem qS_m:Mono qS:=λ_ _ _ _ h=>h
theorem qB_m:Mono qB:=λ_ _ _ _ h=>h
theorem qP_m:Mono qP:=λ_ _ _ _ h=>h
theorem qPs_m:Mono qPs:=λ_ _ _ s ⟨x,l,h1,h2,h3⟩=>⟨x,l,h1,PtsR.mono s h2,h3⟩
theorem qE_m:Mono qE:=λ_ _ _ s ⟨b,e,h1,h2,h3⟩=>⟨b,e,h1,PtsR.mono s h2,h3⟩
theorem qEs_m:Mono qEs:=λ_ _ _ s ⟨x,l,h1,h2,h3⟩=>⟨x,l,h1,EntsR.mono s h2,h3⟩
theorem qL_m:Mono qL:=λ_ _ _ s ⟨x,l,h1,h2,h3⟩=>⟨x,l,h1,EntsR.mono s h2,h3⟩
theorem qIs_m:Mono qIs:=λ_ _ _ s ⟨x,l,h1,h2,h3⟩=>⟨x,l,h1,IntsR.mono s h2,h3⟩
theorem qD_m:Mono qD:=λ_ _ _ s ⟨x,d,h1,h2,h3⟩=>⟨x,d,h1,EntsR.mono s h2,h3⟩
theorem qDs_m:Mono qDs:=λ_ _ _ s ⟨x,l,h1,h2,h3⟩=>⟨x,l,h1,DvsR.mono s h2,h3⟩
section
variable {H:Type} {enc:TypeId×Value->H} {w:World}
theorem Qmp:ImpT enc Tryz.prog w 3 qI:=impT_int Tryz.underlying3
theorem im_bool:ImpT enc Tryz.prog w 4 qB:=Qw2 Tryz.underlying4
theorem Qya:ImpT enc Tryz.prog w 9 qS:=(impT_str Tryz.underlying9).mono λ_ _ ⟨l,m,h1,h2,h3⟩=>⟨⟨l,m,h1⟩,h2,h3⟩
theorem im_pt:ImpT enc Tryz.prog w 88 qP:=by
 refine(Qhg Tryz.underlying88 [(9,qS),(3,qI),(3,qI)] rfl (by decide+kernel) (by decide+kernel) ?_ ?_).mono ?_
 ·intro p hp;simp only[List.mem_cons,List.not_mem_nil,or_false]at hp;rcases hp with rfl|rfl|rfl<;>first|exact qS_m|exact qI_m
 ·intro p hp;simp only[List.mem_cons,List.not_mem_nil,or_false]at hp;rcases hp with rfl|rfl|rfl<;>first|exact Qya|exact Qmp
 ·rintro M c ⟨cs,rfl,h⟩;obtain⟨c0,c1,c2,rfl⟩:∃c0 c1 c2,cs=[c0,c1,c2]:=by
   have hl:=h.length;rcases cs with _|⟨c0,cs⟩
   ·simp at hl
   rcases cs with _|⟨c1,cs⟩
   ·simp at hl
   rcases cs with _|⟨c2,cs⟩
   ·simp at hl
   rcases cs with _|⟨c,cs⟩
   ·exact⟨c0,c1,c2,rfl⟩
   ·simp at hl
  obtain⟨h0,h1,h2,-⟩:=h;obtain⟨s,-,rfl⟩:=h0;obtain⟨a,-,rfl⟩:=h1;obtain⟨b,-,rfl⟩:=h2;exact⟨⟨s,a,b⟩,rfl⟩
theorem im_pts:ImpT enc Tryz.prog w 29 qPs:=by
 refine(Qjk Tryz.underlying29 (s:=3) (b:=32) (by decide+kernel) (by decide) (by decide+kernel) qP_m im_pt).mono ?_;rintro M c ⟨x,css,rfl,h1,h2,h3⟩;have hl:∃l:List Pt,css=l.map ptC:=by
  clear h1 h2;induction css with
  |nil=>exact⟨[],rfl⟩
  |cons d css ih=>
   obtain⟨l,hl⟩:=ih λd hd=>h3 d (by simp[hd]);obtain⟨p,rfl⟩:=h3 d (by simp);exact⟨p::l,by rw[hl];rfl⟩
 obtain⟨l,rfl⟩:=hl;exact⟨x,l,rfl,h1,by simpa using h2⟩
theorem im_ent:ImpT enc Tryz.prog w 31 qE:=by
 refine(Qhg Tryz.underlying31 [(3,qI),(3,qI),(3,qI),(3,qI),(29,qPs)] rfl (by decide+kernel) (by decide+kernel) ?_ ?_).mono ?_
 ·intro p hp;simp only[List.mem_cons,List.not_mem_nil,or_false]at hp;rcases hp with rfl|rfl|rfl|rfl|rfl<;>first|exact qI_m|exact qPs_m
 ·intro p hp;simp only[List.mem_cons,List.not_mem_nil,or_false]at hp;rcases hp with rfl|rfl|rfl|rfl|rfl<;>first|exact Qmp|exact im_pts
 ·rintro M c ⟨cs,rfl,h⟩;obtain⟨c0,c1,c2,c3,c4,rfl⟩:∃c0 c1 c2 c3 c4,cs=[c0,c1,c2,c3,c4]:=by
   have hl:=h.length;rcases cs with _|⟨c0,cs⟩
   ·simp at hl
   rcases cs with _|⟨c1,cs⟩
   ·simp at hl
   rcases cs with _|⟨c2,cs⟩
   ·simp at hl
   rcases cs with _|⟨c3,cs⟩
   ·simp at hl
   rcases cs with _|⟨c4,cs⟩
   ·simp at hl
   rcases cs with _|⟨c,cs⟩
   ·exact⟨c0,c1,c2,c3,c4,rfl⟩
   ·simp at hl
  obtain⟨h0,h1,h2,h3,h4,-⟩:=h;obtain⟨a,-,rfl⟩:=h0;obtain⟨b,-,rfl⟩:=h1;obtain⟨c,-,rfl⟩:=h2;obtain⟨d,-,rfl⟩:=h3;obtain⟨x,l,rfl,g1,g2⟩:=h4;exact⟨x,⟨a,b,c,d,l⟩,rfl,g1,g2⟩
theorem im_ents:ImpT enc Tryz.prog w 22 qEs:=by
 refine(Qjk Tryz.underlying22 (s:=5) (b:=56) (by decide+kernel) (by decide) (by decide+kernel) qE_m im_ent).mono ?_;rintro M c ⟨x,css,rfl,h1,h2,h3⟩;have hl:∃l:List Ent,All2 (EntR M) css l/\∀e∈l,e.batch.length*32<=reachBytes:=by
  clear h1 h2;induction css with
  |nil=>exact⟨[],trivial,λe he=>(by cases he)⟩
  |cons d css ih=>
   obtain⟨l,hl⟩:=ih λd hd=>h3 d (by simp[hd]);obtain⟨b,e,rfl,g1,g2⟩:=h3 d (by simp);exact⟨e::l,⟨⟨b,rfl,g1⟩,hl.1⟩,λe he=>by rcases List.mem_cons.1 he with rfl|he;exact g2;exact hl.2 e he⟩
 obtain⟨l,hl,hb⟩:=hl;exact⟨x,l,rfl,⟨css,h1,hl⟩,by rw[<-hl.length];exact h2,hb⟩
theorem Qva:ImpT enc Tryz.prog w 24 qL:=by
 refine(Qhg Tryz.underlying24 [(3,qI),(9,qS),(22,qEs)] rfl (by decide+kernel) (by decide+kernel) ?_ ?_).mono ?_
 ·intro p hp;simp only[List.mem_cons,List.not_mem_nil,or_false]at hp;rcases hp with rfl|rfl|rfl<;>first|exact qI_m|exact qS_m|exact qEs_m
 ·intro p hp;simp only[List.mem_cons,List.not_mem_nil,or_false]at hp;rcases hp with rfl|rfl|rfl<;>first|exact Qmp|exact Qya|exact im_ents
 ·rintro M c ⟨cs,rfl,h⟩;obtain⟨c0,c1,c2,rfl⟩:∃c0 c1 c2,cs=[c0,c1,c2]:=by
   have hl:=h.length;rcases cs with _|⟨c0,cs⟩
   ·simp at hl
   rcases cs with _|⟨c1,cs⟩
   ·simp at hl
   rcases cs with _|⟨c2,cs⟩
   ·simp at hl
   rcases cs with _|⟨c,cs⟩
   ·exact⟨c0,c1,c2,rfl⟩
   ·simp at hl
  obtain⟨h0,h1,h2,-⟩:=h;obtain⟨a,-,rfl⟩:=h0;obtain⟨s,hs,rfl⟩:=h1;obtain⟨x,l,rfl,g1,g2,g3⟩:=h2;exact⟨x,⟨a,s,l⟩,rfl,g1,hs,g2,g3⟩
theorem im_ints:ImpT enc Tryz.prog w 25 qIs:=by
 refine(Qjk Tryz.underlying25 (s:=1) (b:=8) (by decide+kernel) (by decide) (by decide+kernel) qI_m Qmp).mono ?_;rintro M c ⟨x,css,rfl,h1,h2,h3⟩;have hl:∃l:List Int,css=l.map intC:=by
  clear h1 h2;induction css with
  |nil=>exact⟨[],rfl⟩
  |cons d css ih=>
   obtain⟨l,hl⟩:=ih λd hd=>h3 d (by simp[hd]);obtain⟨i,-,rfl⟩:=h3 d (by simp);exact⟨i::l,by rw[hl];rfl⟩
 obtain⟨l,rfl⟩:=hl;exact⟨x,l,rfl,h1,by simpa using h2⟩
theorem im_do:ImpT enc Tryz.prog w 56 qD:=by
 refine(Qhg Tryz.underlying56 [(3,qI),(3,qI),(3,qI),(24,qL)] rfl (by decide+kernel) (by decide+kernel) ?_ ?_).mono ?_
 ·intro p hp;simp only[List.mem_cons,List.not_mem_nil,or_false]at hp;rcases hp with rfl|rfl|rfl|rfl<;>first|exact qI_m|exact qL_m
 ·intro p hp;simp only[List.mem_cons,List.not_mem_nil,or_false]at hp;rcases hp with rfl|rfl|rfl|rfl<;>first|exact Qmp|exact Qva
 ·rintro M c ⟨cs,rfl,h⟩;obtain⟨c0,c1,c2,c3,rfl⟩:∃c0 c1 c2 c3,cs=[c0,c1,c2,c3]:=by
   have hl:=h.length;rcases cs with _|⟨c0,cs⟩
   ·simp at hl
   rcases cs with _|⟨c1,cs⟩
   ·simp at hl
   rcases cs with _|⟨c2,cs⟩
   ·simp at hl
   rcases cs with _|⟨c3,cs⟩
   ·simp at hl
   rcases cs with _|⟨c,cs⟩
   ·exact⟨c0,c1,c2,c3,rfl⟩
   ·simp at hl
  obtain⟨h0,h1,h2,h3,-⟩:=h;obtain⟨a,-,rfl⟩:=h0;obtain⟨b,-,rfl⟩:=h1;obtain⟨c,-,rfl⟩:=h2;obtain⟨x,l,rfl,g1,g2⟩:=h3;exact⟨x,⟨a,b,c,l⟩,rfl,g1,g2⟩
theorem im_dos:ImpT enc Tryz.prog w 26 qDs:=by
 refine(Qjk Tryz.underlying26 (s:=6) (b:=72) (by decide+kernel) (by decide) (by decide+kernel) qD_m im_do).mono ?_;rintro M c ⟨x,css,rfl,h1,h2,h3⟩;have hl:∃l:List Dv,All2 (DvR M) css l/\∀d∈l,LgW d.log:=by
  clear h1 h2;induction css with
  |nil=>exact⟨[],trivial,λe he=>(by cases he)⟩
  |cons d css ih=>
   obtain⟨l,hl⟩:=ih λd hd=>h3 d (by simp[hd]);obtain⟨b,e,rfl,g1,g2⟩:=h3 d (by simp);exact⟨e::l,⟨⟨b,rfl,g1⟩,hl.1⟩,λe he=>by rcases List.mem_cons.1 he with rfl|he;exact g2;exact hl.2 e he⟩
 obtain⟨l,hl,hb⟩:=hl;exact⟨x,l,rfl,⟨css,h1,hl⟩,by rw[<-hl.length];exact h2,hb⟩
theorem im_rep:ImpT enc Tryz.prog w 28 qR:=by
 refine(Qhg Tryz.underlying28 [(3,qI),(3,qI),(3,qI),(3,qI),(3,qI),(3,qI),(4,qB),(24,qL),(25,qIs),(25,qIs),(26,qDs)] rfl (by decide+kernel) (by decide+kernel) ?_ ?_).mono ?_
 ·intro p hp;simp only[List.mem_cons,List.not_mem_nil,or_false]at hp;rcases hp with rfl|rfl|rfl|rfl|rfl|rfl|rfl|rfl|rfl|rfl|rfl<;>first|exact qI_m|exact qB_m|exact qL_m|exact qIs_m|exact qDs_m
 ·intro p hp;simp only[List.mem_cons,List.not_mem_nil,or_false]at hp;rcases hp with rfl|rfl|rfl|rfl|rfl|rfl|rfl|rfl|rfl|rfl|rfl<;>first|exact Qmp|exact im_bool|exact Qva|exact im_ints|exact im_dos
 ·rintro M c ⟨cs,rfl,h⟩;obtain⟨c0,c1,c2,c3,c4,c5,c6,c7,c8,c9,c10,rfl⟩:∃c0 c1 c2 c3 c4 c5 c6 c7 c8 c9 c10,cs=[c0,c1,c2,c3,c4,c5,c6,c7,c8,c9,c10]:=by
   have hl:=h.length;rcases cs with _|⟨c0,cs⟩
   ·simp at hl
   rcases cs with _|⟨c1,cs⟩
   ·simp at hl
   rcases cs with _|⟨c2,cs⟩
   ·simp at hl
   rcases cs with _|⟨c3,cs⟩
   ·simp at hl
   rcases cs with _|⟨c4,cs⟩
   ·simp at hl
   rcases cs with _|⟨c5,cs⟩
   ·simp at hl
   rcases cs with _|⟨c6,cs⟩
   ·simp at hl
   rcases cs with _|⟨c7,cs⟩
   ·simp at hl
   rcases cs with _|⟨c8,cs⟩
   ·simp at hl
   rcases cs with _|⟨c9,cs⟩
   ·simp at hl
   rcases cs with _|⟨c10,cs⟩
   ·simp at hl
   rcases cs with _|⟨c,cs⟩
   ·exact⟨c0,c1,c2,c3,c4,c5,c6,c7,c8,c9,c10,rfl⟩
   ·simp at hl
  obtain⟨h0,h1,h2,h3,h4,h5,h6,h7,h8,h9,h10,-⟩:=h;obtain⟨a0,-,rfl⟩:=h0;obtain⟨a1,-,rfl⟩:=h1;obtain⟨a2,-,rfl⟩:=h2;obtain⟨a3,-,rfl⟩:=h3;obtain⟨a4,-,rfl⟩:=h4;obtain⟨a5,-,rfl⟩:=h5;obtain⟨b,rfl⟩:=h6;obtain⟨xe,l,rfl,g1,g2⟩:=h7;obtain⟨xa,la,rfl,g3,g4⟩:=h8;obtain⟨xs,ls,rfl,g5,g6⟩:=h9;obtain⟨xd,ld,rfl,g7,g8,g9⟩:=h10;exact⟨xe,xa,xs,xd,⟨a0,a1,a2,a3,a4,a5,b,l,la,ls,ld⟩,rfl,⟨g1,g3,g5,g7⟩,⟨g2,g4,g6,g8,g9⟩⟩
theorem im_msg:ImpT enc Tryz.prog w 48 qM:=by
 refine(Qhg Tryz.underlying48 [(3,qI),(3,qI),(3,qI),(3,qI),(3,qI),(3,qI),(3,qI),(3,qI),(3,qI),(3,qI),(3,qI),(3,qI),(3,qI),(3,qI),(9,qS),(29,qPs),(24,qL),(9,qS)] rfl (by decide+kernel) (by decide+kernel) ?_ ?_).mono ?_
 ·intro p hp;simp only[List.mem_cons,List.not_mem_nil,or_false]at hp;rcases hp with rfl|rfl|rfl|rfl|rfl|rfl|rfl|rfl|rfl|rfl|rfl|rfl|rfl|rfl|rfl|rfl|rfl|rfl<;>first|exact qI_m|exact qS_m|exact qPs_m|exact qL_m
 ·intro p hp;simp only[List.mem_cons,List.not_mem_nil,or_false]at hp;rcases hp with rfl|rfl|rfl|rfl|rfl|rfl|rfl|rfl|rfl|rfl|rfl|rfl|rfl|rfl|rfl|rfl|rfl|rfl<;>first|exact Qmp|exact Qya|exact im_pts|exact Qva
 ·rintro M c ⟨cs,rfl,h⟩;obtain⟨c0,c1,c2,c3,c4,c5,c6,c7,c8,c9,c10,c11,c12,c13,c14,c15,c16,c17,rfl⟩:∃c0 c1 c2 c3 c4 c5 c6 c7 c8 c9 c10 c11 c12 c13 c14 c15 c16 c17,cs=[c0,c1,c2,c3,c4,c5,c6,c7,c8,c9,c10,c11,c12,c13,c14,c15,c16,c17]:=by
   have hl:=h.length;rcases cs with _|⟨c0,cs⟩
   ·simp at hl
   rcases cs with _|⟨c1,cs⟩
   ·simp at hl
   rcases cs with _|⟨c2,cs⟩
   ·simp at hl
   rcases cs with _|⟨c3,cs⟩
   ·simp at hl
   rcases cs with _|⟨c4,cs⟩
   ·simp at hl
   rcases cs with _|⟨c5,cs⟩
   ·simp at hl
   rcases cs with _|⟨c6,cs⟩
   ·simp at hl
   rcases cs with _|⟨c7,cs⟩
   ·simp at hl
   rcases cs with _|⟨c8,cs⟩
   ·simp at hl
   rcases cs with _|⟨c9,cs⟩
   ·simp at hl
   rcases cs with _|⟨c10,cs⟩
   ·simp at hl
   rcases cs with _|⟨c11,cs⟩
   ·simp at hl
   rcases cs with _|⟨c12,cs⟩
   ·simp at hl
   rcases cs with _|⟨c13,cs⟩
   ·simp at hl
   rcases cs with _|⟨c14,cs⟩
   ·simp at hl
   rcases cs with _|⟨c15,cs⟩
   ·simp at hl
   rcases cs with _|⟨c16,cs⟩
   ·simp at hl
   rcases cs with _|⟨c17,cs⟩
   ·simp at hl
   rcases cs with _|⟨c,cs⟩
   ·exact⟨c0,c1,c2,c3,c4,c5,c6,c7,c8,c9,c10,c11,c12,c13,c14,c15,c16,c17,rfl⟩
   ·simp at hl
  obtain⟨h0,h1,h2,h3,h4,h5,h6,h7,h8,h9,h10,h11,h12,h13,h14,h15,h16,h17,-⟩:=h;obtain⟨a0,-,rfl⟩:=h0;obtain⟨a1,-,rfl⟩:=h1;obtain⟨a2,-,rfl⟩:=h2;obtain⟨a3,-,rfl⟩:=h3;obtain⟨a4,-,rfl⟩:=h4;obtain⟨a5,-,rfl⟩:=h5;obtain⟨a6,-,rfl⟩:=h6;obtain⟨a7,-,rfl⟩:=h7;obtain⟨a8,-,rfl⟩:=h8;obtain⟨a9,-,rfl⟩:=h9;obtain⟨a10,-,rfl⟩:=h10;obtain⟨a11,-,rfl⟩:=h11;obtain⟨a12,-,rfl⟩:=h12;obtain⟨a13,-,rfl⟩:=h13;obtain⟨s,-,rfl⟩:=h14;obtain⟨xb,lb,rfl,g1,g2⟩:=h15;obtain⟨xe,l,rfl,g3,g4⟩:=h16;obtain⟨s2,-,rfl⟩:=h17;exact⟨xb,xe,⟨a0,a1,a2,a3,a4,a5,a6,a7,a8,a9,a10,a11,a12,a13,s,lb,l,s2⟩,rfl,⟨g1,g3⟩,⟨g2,g4⟩⟩
end
end Go.Proofs.YtnnjlnkoomeadaaGreat.Pv
