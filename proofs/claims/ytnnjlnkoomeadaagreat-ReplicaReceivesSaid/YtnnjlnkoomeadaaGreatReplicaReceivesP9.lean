/-
  ReplicaReceives: part 9 of what the proof is made of.
-/
import Derived.Test.YtnnjlnkoomeadaaGreatReplicaReceivesP8
set_option linter.unusedVariables false
set_option linter.unusedSimpArgs false
set_option linter.unusedSectionVars false
noncomputable section
namespace Go.Proofs.YtnnjlnkoomeadaaGreat.Pv
open Go.Ev Go.Ev.Rp
set_option maxRecDepth 100000
set_option maxHeartbeats 4000000
def folE (m:Msg):Ent:=⟨m.view,m.client,m.session,m.number,m.batch⟩
def Qf7 (r:Rep) (m:Msg) (N:Nat):Rep×List Msg:=
 if decide (r.view<m.view)||!decide (r.status=0)then(lagR r m.view N,lagO r m.view)
 else if decide (m.kind=4)then
  if decide (m.at'=last r.log+1)&&decide (last r.log<4096)then(Qe4 (addE r (folE m)) m.commit,[{ackG (Qe4 (addE r (folE m)) m.commit)with frm:=r.me,to:=m.frm}])
  else(Qe4 r m.commit,if decide (last r.log+1<m.at')then[{askG r with frm:=r.me,to:=m.frm}]else if decide (m.at'<=last r.log)then[{ackG (Qe4 r m.commit)with frm:=r.me,to:=m.frm}]else[])
 else(Qe4 r m.commit,if decide (last r.log<m.at')then[{askG r with frm:=r.me,to:=m.frm}]else[])
def T71 (t:Nat):Prop:=t=7\/t=1
theorem Qiw {r:Rep} (h:repB r=true):last r.log=r.log.base+r.log.ents.length/\0<=r.log.base/\r.log.base<=2147483647/\r.log.ents.length<=4096:=by
 have:lgB r.log=true:=by
  cases e:lgB r.log with
  |true=>rfl
  |false=>unfold repB at h;rw[e]at h;simp only[Bool.and_false,Bool.false_and]at h;cases h
 exact⟨Qrv this,Qji this⟩
theorem Qpy {r:Rep} (h:repB r=true) (e:Ent):last (addE r e).log=last r.log+1:=by
 obtain⟨h1,h2,h3,h4⟩:=Qiw h;rw[h1];unfold last addE;simp only[List.length_append,List.length_singleton];rw[wrap64 (by omega) (by omega)];omega
theorem Qqy {r:Rep} (m:Msg) (N:Nat) (hr:repB r=true):IntKind.i64.wrap (last r.log+1)=last r.log+1/\(
 (decide (r.view<m.view)=true/\Qf7 r m N=(lagR r m.view N,lagO r m.view))\/
 (decide (r.view<m.view)=false/\decide (r.status=0)=false/\Qf7 r m N=(lagR r m.view N,lagO r m.view))\/
 (decide (r.view<m.view)=false/\decide (r.status=0)=true/\decide (m.kind=4)=false/\decide (last r.log<m.at')=true/\Qf7 r m N=(Qe4 r m.commit,[{askG r with frm:=r.me,to:=m.frm}]))\/
 (decide (r.view<m.view)=false/\decide (r.status=0)=true/\decide (m.kind=4)=false/\decide (last r.log<m.at')=false/\Qf7 r m N=(Qe4 r m.commit,[]))\/
 (decide (r.view<m.view)=false/\decide (r.status=0)=true/\decide (m.kind=4)=true/\decide (last r.log+1<m.at')=true/\decide (m.at'=last r.log+1)=false/\decide (m.at'<=last r.log)=false/\decide (last r.log<m.at')=true/\Qf7 r m N=(Qe4 r m.commit,[{askG r with frm:=r.me,to:=m.frm}]))\/
 (decide (r.view<m.view)=false/\decide (r.status=0)=true/\decide (m.kind=4)=true/\decide (last r.log+1<m.at')=false/\decide (m.at'=last r.log+1)=true/\decide (last r.log<4096)=true/\decide (last r.log<m.at')=true/\Qf7 r m N=(Qe4 (addE r (folE m)) m.commit,[{ackG (Qe4 (addE r (folE m)) m.commit)with frm:=r.me,to:=m.frm}]))\/
 (decide (r.view<m.view)=false/\decide (r.status=0)=true/\decide (m.kind=4)=true/\decide (last r.log+1<m.at')=false/\decide (m.at'=last r.log+1)=true/\decide (last r.log<4096)=false/\decide (m.at'<=last r.log)=false/\decide (last r.log<m.at')=true/\Qf7 r m N=(Qe4 r m.commit,[]))\/
 (decide (r.view<m.view)=false/\decide (r.status=0)=true/\decide (m.kind=4)=true/\decide (last r.log+1<m.at')=false/\decide (m.at'=last r.log+1)=false/\decide (m.at'<=last r.log)=true/\decide (last r.log<m.at')=false/\Qf7 r m N=(Qe4 r m.commit,[{ackG (Qe4 r m.commit)with frm:=r.me,to:=m.frm}]))):=by
 obtain⟨a1,a2,a3,a4⟩:=Qiw hr;refine⟨wrap64 (by omega) (by omega),?_⟩;unfold Qf7;cases h1:decide (r.view<m.view)
 ·cases h2:decide (r.status=0)
  ·exact .inr (.inl ⟨rfl,rfl,by simp⟩)
  ·cases h3:decide (m.kind=4)
   ·cases h4:decide (last r.log<m.at')
    ·exact .inr (.inr (.inr (.inl ⟨rfl,rfl,rfl,rfl,by simp⟩)))
    ·exact .inr (.inr (.inl ⟨rfl,rfl,rfl,rfl,by simp⟩))
   ·rcases Int.lt_trichotomy m.at' (last r.log+1)with h4|h4|h4
    ·exact .inr (.inr (.inr (.inr (.inr (.inr (.inr ⟨rfl,rfl,rfl,decide_eq_false (by omega),decide_eq_false (by omega),decide_eq_true (by omega),decide_eq_false (by omega),by
     rw[decide_eq_false (show¬(m.at'=last r.log+1) by omega),decide_eq_false (show¬(last r.log+1<m.at') by omega),decide_eq_true (show m.at'<=last r.log by omega)];simp⟩))))))
    ·cases h5:decide (last r.log<4096)
     ·exact .inr (.inr (.inr (.inr (.inr (.inr (.inl ⟨rfl,rfl,rfl,decide_eq_false (by omega),decide_eq_true h4,rfl,decide_eq_false (by omega),decide_eq_true (by omega),by
      rw[decide_eq_true h4,decide_eq_false (show¬(last r.log+1<m.at') by omega),decide_eq_false (show¬(m.at'<=last r.log) by omega)];simp⟩))))))
     ·exact .inr (.inr (.inr (.inr (.inr (.inl ⟨rfl,rfl,rfl,decide_eq_false (by omega),decide_eq_true h4,rfl,decide_eq_true (by omega),by rw[decide_eq_true h4];simp⟩)))))
    ·exact .inr (.inr (.inr (.inr (.inl ⟨rfl,rfl,rfl,decide_eq_true (by omega),decide_eq_false (by omega),decide_eq_false (by omega),decide_eq_true (by omega),by
     rw[decide_eq_false (show¬(m.at'=last r.log+1) by omega),decide_eq_true (show last r.log+1<m.at' by omega)];simp⟩))))
 ·exact .inl ⟨rfl,by simp⟩
section
variable {P:Program} (H:Fs P)
include H
theorem Qm7 {lo:Nat} {fz:Fz} {s:Nat} {o:Nat->Nat} {mu:St} {n:Nat} {r:Rep} {out:List Msg} {vd:Bool} {xe xa xs xd xo:SV} (S:SW lo fz s o mu n r out vd xe xa xs xd xo) (m:Msg) (yb ye:SV)
 (hm:MsgS (with' mu fz) m yb ye) (hmz:MsgSz m) (hr:repB r=true) (hv:r.view<=m.view) {N:Nat} (hN:r.nodes=(N:Int)) (hN7:N<=7) (hl:out.length<=800) {k:KT Prop} {w:WK k}
 (hk:∀mu' n' o' xe' xa' xs' xd' xo',SW lo fz s o' mu' n' (Qf7 r m N).1 (out++(Qf7 r m N).2) vd xe' xa' xs' xd' xo'->Kp T71 s o o' mu n mu' n'->k noVal mu' n'):CPh P n_Qay [.one (.optr s 0),.ag (msgC m yb ye)] fz mu n k w:=by
 refine CP_of H.Qay H.mx 0 ?_;obtain⟨-,-,ybk,ybm⟩:=hm.1.len;obtain⟨-,-,yek,yem⟩:=hm.2.len;have hsn:s<n:=S.slt;have gA:=(Gr.refl (lo:=n) S.free).cons (Nat.le_refl _) (msgC m yb ye);have S1:=S.trim.gr gA;have b1:Ev.look ((n,msgC m yb ye)::mu) n=some (msgC m yb ye):=by rw[Qer,if_pos rfl]
 have K1:Kp T71 s (trim o n) (trim o n) mu n ((n,msgC m yb ye)::mu) (n+1):=Gr.kp gA;have hm1:=MsgS.mono (gA.sub S.free (Nat.le_refl _)) hm;have hon:trim o n n=0:=Qhr (Nat.le_refl _);have hlon:=S.lon;obtain⟨m1,hm1e⟩:∃mz:St,((n,msgC m yb ye)::mu)=mz:=⟨_,rfl⟩
 rw[hm1e]at gA S1 b1 K1 hm1;obtain⟨⟨xek,xem⟩,⟨xak,xam⟩,⟨xsk,xsm⟩,⟨xdk,xdm⟩,xok,xom⟩:=S1.ks;have ws1:=Qem (fz:=fz) S1.cells;have wb1:=Qem (fz:=fz) b1;have hkH:=Hide.mk hk;have hNH:=Hide.mk hN;clear hk hN;have hvH:=Hide.mk hv;have hrH:=Hide.mk hr;clear hr hv;rw[dY a_Qay.eq_1 b_Qay.eq_1];unfold msgC at hm1e wb1⊢;unfold stepC repC at ws1;obtain⟨hw,hcs⟩:=Qqy m N hrH.out;rcases hcs with⟨h1,hT⟩|⟨h1,h2,hT⟩|⟨h1,h2,h3,h4,hT⟩|⟨h1,h2,h3,h4,hT⟩|⟨h1,h2,h3,h4,h5,h6,h7,hT⟩|⟨h1,h2,h3,h4,h5,h6,h7,hT⟩|⟨h1,h2,h3,h4,h5,h6,h7,h8,hT⟩|⟨h1,h2,h3,h4,h5,h6,h7,hT⟩
 ·have hTH:=Hide.mk hT;clear hT;try simp only[↓E1,E4,seval, *]
  refine Qs2 H S1 m.view hvH.out hNH.out hN7 (by omega) λm2 n2 o2 xa2 xs2 xd2 xo2 S2 K2=>?_;have hk:=hkH.out;rw[hTH.out]at hk;have hk2:=hk _ _ _ _ _ _ _ _ S2 (K1.trans (K2.weaken (T':=T71) (λt h=>.inl h))).trim;clear hk;try simp only[↓E1,E4,seval, *]
  all_goals exact hk2
 ·have hTH:=Hide.mk hT;clear hT;try simp only[↓E1,E4,seval, *]
  refine Qs2 H S1 m.view hvH.out hNH.out hN7 (by omega) λm2 n2 o2 xa2 xs2 xd2 xo2 S2 K2=>?_;have hk:=hkH.out;rw[hTH.out]at hk;have hk2:=hk _ _ _ _ _ _ _ _ S2 (K1.trans (K2.weaken (T':=T71) (λt h=>.inl h))).trim;clear hk;try simp only[↓E1,E4,seval, *]
  all_goals exact hk2
 ·have hTH:=Hide.mk hT;clear hT;try simp only[↓E1,E4,seval, *]
  refine(replica_step_last H s r xe xa xs xd xo vd).q0 S1.free ⟨Qem S1.cells,S1.rs.1⟩ ?_;rintro _ n2 l2 rfl;have S3:=S1.le l2;have K3:=K1.le2 l2;try simp only[↓E1,E4,seval, *]
  have hV4:=Qkk H (s:=s) (r:=r) (xe:=xe) (xa:=xa) (xs:=xs) (xd:=xd) (xo:=xo) (vd:=vd);unfold msgC askG at hV4;try simp only[↓E1,E4,seval, *]
  refine hV4.q1 S3.free ⟨Qem S3.cells,S3.rs.1⟩ ?_;rintro _ n4 l4 rfl;clear hV4;have S5:=S3.le l4;have K5:=K3.le2 l4;try simp only[↓E1,E4,seval, *]
  have hSd:=λ(k:KT Prop) (w:WK k)=>Qgc H S5 m.frm (askG r) .nsl .nsl ⟨nilP _,nilE _⟩ (Qm1 r) (by omega) (k:=k) (w:=w);refine hSd _ _ λm6 n6 o6 xo6 S6 J6=>?_;clear hSd;have hz6:o6 n=0:=by rw[J6.tags n (by have:=K5.le;omega)];exact hon
  have lt6:n<n6:=by have:=J6.le;omega
  have K6:=K5.trans (J6.weaken (T':=T71) (λt h=>.inl h));have b6:=(J6.keep n (by have:=K5.le;omega) (by omega) (by rw[hon];omega)).trans b1;have ws6:=Qem (fz:=fz) S6.cells;have wb6:=Qem (fz:=fz) b6;obtain⟨⟨ek6,em6⟩,⟨ak6,am6⟩,⟨sk6,sm6⟩,⟨dk6,dm6⟩,ok6,om6⟩:=S6.ks;unfold msgC at wb6;unfold stepC repC at ws6;clear ws1 wb1;try simp only[↓E1,E4,seval, *]
  refine Qhy H S6 m.commit λm7 n7 S7 J7=>?_;have K7:=K6.trans (J7.weaken (T':=T71) (λt h=>h.elim));have b7:=(J7.keep n (by have:=K6.le;omega) (by omega) (λh=>h)).trans b6;obtain⟨rk7,hrk7⟩:∃z,Qe4 r m.commit=z:=⟨_,rfl⟩
  rw[hrk7]at S7;have hrH7:=Hide.mk hrk7;have hme7:=Hide.mk (show r.me=rk7.me by rw[<-hrk7];rfl);have hlg7:rk7.log=r.log:=by rw[<-hrk7];rfl
  have hll7:last rk7.log=last r.log:=by rw[hlg7]
  clear hrk7 hlg7;clear hll7;have lt7:n<n7:=by have:=J7.le;omega
  have ws7:=Qem (fz:=fz) S7.cells;have wb7:=Qem (fz:=fz) b7;obtain⟨⟨ek7,em7⟩,⟨ak7,am7⟩,⟨sk7,sm7⟩,⟨dk7,dm7⟩,ok7,om7⟩:=S7.ks;unfold msgC at wb7;unfold stepC repC at ws7;clear ws6 wb6;try simp only[↓E1,E4,seval, *]
  have hk:=hkH.out;rw[hTH.out,hrH7.out]at hk;try simp only[List.append_nil]at hk
  have hk2:=hk _ _ _ _ _ _ _ _ S7 K7.trim;clear hk;try simp only[↓E1,E4,seval, *]
  all_goals exact hk2
 ·have hTH:=Hide.mk hT;clear hT;try simp only[↓E1,E4,seval, *]
  refine(replica_step_last H s r xe xa xs xd xo vd).q0 S1.free ⟨Qem S1.cells,S1.rs.1⟩ ?_;rintro _ n2 l2 rfl;have S3:=S1.le l2;have K3:=K1.le2 l2;try simp only[↓E1,E4,seval, *]
  refine Qhy H S3 m.commit λm4 n4 S4 J4=>?_;have K4:=K3.trans (J4.weaken (T':=T71) (λt h=>h.elim));have b4:=(J4.keep n (by have:=K3.le;omega) (by omega) (λh=>h)).trans b1;obtain⟨rk4,hrk4⟩:∃z,Qe4 r m.commit=z:=⟨_,rfl⟩
  rw[hrk4]at S4;have hrH4:=Hide.mk hrk4;have hme4:=Hide.mk (show r.me=rk4.me by rw[<-hrk4];rfl);have hlg4:rk4.log=r.log:=by rw[<-hrk4];rfl
  have hll4:last rk4.log=last r.log:=by rw[hlg4]
  clear hrk4 hlg4;clear hll4;have lt4:n<n4:=by have:=J4.le;omega
  have ws4:=Qem (fz:=fz) S4.cells;have wb4:=Qem (fz:=fz) b4;obtain⟨⟨ek4,em4⟩,⟨ak4,am4⟩,⟨sk4,sm4⟩,⟨dk4,dm4⟩,ok4,om4⟩:=S4.ks;unfold msgC at wb4;unfold stepC repC at ws4;clear ws1 wb1;try simp only[↓E1,E4,seval, *]
  have hk:=hkH.out;rw[hTH.out,hrH4.out]at hk;try simp only[List.append_nil]at hk
  have hk2:=hk _ _ _ _ _ _ _ _ S4 K4.trim;clear hk;try simp only[↓E1,E4,seval, *]
  all_goals exact hk2
 ·have hTH:=Hide.mk hT;clear hT;try simp only[↓E1,E4,seval, *]
  refine(replica_step_last H s r xe xa xs xd xo vd).q0 S1.free ⟨Qem S1.cells,S1.rs.1⟩ ?_;rintro _ n2 l2 rfl;have S3:=S1.le l2;have K3:=K1.le2 l2;try simp only[↓E1,E4,seval, *]
  have hV4:=Qkk H (s:=s) (r:=r) (xe:=xe) (xa:=xa) (xs:=xs) (xd:=xd) (xo:=xo) (vd:=vd);unfold msgC askG at hV4;try simp only[↓E1,E4,seval, *]
  refine hV4.q1 S3.free ⟨Qem S3.cells,S3.rs.1⟩ ?_;rintro _ n4 l4 rfl;clear hV4;have S5:=S3.le l4;have K5:=K3.le2 l4;try simp only[↓E1,E4,seval, *]
  have hSd:=λ(k:KT Prop) (w:WK k)=>Qgc H S5 m.frm (askG r) .nsl .nsl ⟨nilP _,nilE _⟩ (Qm1 r) (by omega) (k:=k) (w:=w);refine hSd _ _ λm6 n6 o6 xo6 S6 J6=>?_;clear hSd;have hz6:o6 n=0:=by rw[J6.tags n (by have:=K5.le;omega)];exact hon
  have lt6:n<n6:=by have:=J6.le;omega
  have K6:=K5.trans (J6.weaken (T':=T71) (λt h=>.inl h));have b6:=(J6.keep n (by have:=K5.le;omega) (by omega) (by rw[hon];omega)).trans b1;have ws6:=Qem (fz:=fz) S6.cells;have wb6:=Qem (fz:=fz) b6;obtain⟨⟨ek6,em6⟩,⟨ak6,am6⟩,⟨sk6,sm6⟩,⟨dk6,dm6⟩,ok6,om6⟩:=S6.ks;unfold msgC at wb6;unfold stepC repC at ws6;clear ws1 wb1;try simp only[↓E1,E4,seval, *]
  refine Qhy H S6 m.commit λm7 n7 S7 J7=>?_;have K7:=K6.trans (J7.weaken (T':=T71) (λt h=>h.elim));have b7:=(J7.keep n (by have:=K6.le;omega) (by omega) (λh=>h)).trans b6;obtain⟨rk7,hrk7⟩:∃z,Qe4 r m.commit=z:=⟨_,rfl⟩
  rw[hrk7]at S7;have hrH7:=Hide.mk hrk7;have hme7:=Hide.mk (show r.me=rk7.me by rw[<-hrk7];rfl);have hlg7:rk7.log=r.log:=by rw[<-hrk7];rfl
  have hll7:last rk7.log=last r.log:=by rw[hlg7]
  clear hrk7 hlg7;have gg7:decide (m.at'<=last rk7.log)=false:=by rw[hll7];exact h6
  clear hll7;have lt7:n<n7:=by have:=J7.le;omega
  have ws7:=Qem (fz:=fz) S7.cells;have wb7:=Qem (fz:=fz) b7;obtain⟨⟨ek7,em7⟩,⟨ak7,am7⟩,⟨sk7,sm7⟩,⟨dk7,dm7⟩,ok7,om7⟩:=S7.ks;unfold msgC at wb7;unfold stepC repC at ws7;clear ws6 wb6;try simp only[↓E1,E4,seval, *]
  refine(replica_step_last H s rk7 xe xa xs xd xo6 vd).q1 S7.free ⟨Qem S7.cells,S7.rs.1⟩ ?_;rintro _ n8 l8 rfl;have S9:=S7.le l8;have K9:=K7.le2 l8;try simp only[↓E1,E4,seval, *]
  have hk:=hkH.out;rw[hTH.out,hrH7.out]at hk;try simp only[List.append_nil]at hk
  have hk2:=hk _ _ _ _ _ _ _ _ S9 K9.trim;clear hk;try simp only[↓E1,E4,seval, *]
  all_goals exact hk2
 ·have hTH:=Hide.mk hT;clear hT;try simp only[↓E1,E4,seval, *]
  refine(replica_step_last H s r xe xa xs xd xo vd).q0 S1.free ⟨Qem S1.cells,S1.rs.1⟩ ?_;rintro _ n2 l2 rfl;have S3:=S1.le l2;have K3:=K1.le2 l2;try simp only[↓E1,E4,seval, *]
  refine(replica_step_last H s r xe xa xs xd xo vd).q0 S3.free ⟨Qem S3.cells,S3.rs.1⟩ ?_;rintro _ n4 l4 rfl;have S5:=S3.le l4;have K5:=K3.le2 l4;try simp only[↓E1,E4,seval, *]
  have hCE:=message_CloneEntry H (folE m) yb hmz.bat;unfold entC folE at hCE;refine hCE.d2 S5.free hm1.1 ?_;rintro v new n50 g50 ⟨b',rfl,hb'⟩;have l50:=g50.le;have l51:=K5.le;obtain⟨-,-,bk50,bm50⟩:=SlX.len hb';have gB:Gr n4 fz m1 ((n50,[I m.view,I m.client,I m.session,I m.number,b'])::(new++m1)) n4 (n50+1):=g50.cons (by omega) _;have wB:=Qem (fz:=fz) (show Ev.look ((n50,[I m.view,I m.client,I m.session,I m.number,b'])::(new++m1)) n50=some [I m.view,I m.client,I m.session,I m.number,b'] by rw[Qer,if_pos rfl]);have hbF:PtsX (F2 (trim o n) n4 (with' ((n50,[I m.view,I m.client,I m.session,I m.number,b'])::(new++m1)) fz)) b' (folE m).batch:=PtsX.mono (λj B hj=>by
   obtain⟨p1,p2⟩:=From.el hj;have p3:=g50.free.lt p2;exact F2.at (.inl p1) (by rw[Qfl,if_neg (by omega)];exact p2)) hb'
  have hs5:=((gB.own s (by omega)).trans S5.cells)
  have ws50:=Qem (fz:=fz) hs5;have wm50:=Qem (fz:=fz) ((gB.own n (by omega)).trans b1);unfold stepC repC at ws50;unfold msgC at wm50;have hlen:r.log.ents.length<=1000000:=by have:=Qiw hrH.out;omega
  clear hCE;try simp only[↓E1,E4,seval, *]
  refine SW.appE S5 gB (e:=folE m) hbF hlen λm60 o60 xe60 hko hs60 S60 J60 hb60 hnew=>?_;have hkom:=Qhm hko;unfold stepC repC at hs60;clear hnew hb60 hbF gB wB ws50 wm50 hs5;have hcell:stepC (addE r (folE m)) xe60 xa xs xd xo vd=[I r.me,I r.nodes,I r.view,I r.normal,I r.status,I r.commit,.bool r.sent,I r.log.base,r.log.snap.sv,xe60,xa,xs,xd,xo,.bool vd]:=rfl;rw[hcell]at S60 J60;clear hcell;have hm60:=(J60.keep n (by have:=K5.le;omega) (by omega) (by rw[hon];omega)).trans b1;rw[Qen,if_neg (by omega)]at hm60;have wm60:=Qem (fz:=fz) hm60;unfold msgC at wm60;have hsn2:(s=n)=False:=by simp;omega
  clear hm60;try simp only[↓E1,E4,seval, *]
  obtain⟨m70,hm70⟩:∃z,putS m60 s [I r.me,I r.nodes,I r.view,I r.normal,I r.status,I r.commit,.bool r.sent,I r.log.base,r.log.snap.sv,xe60,xa,xs,xd,xo,.bool vd]=z:=⟨_,rfl⟩
  rw[hm70]at S60 J60;try rw[hm70]
  clear hm70 hs60 wm60 hsn2;obtain⟨ra,hra⟩:∃z,addE r (folE m)=z:=⟨_,rfl⟩
  rw[hra]at S60;have hla:last ra.log=last r.log+1:=by rw[<-hra];exact Qpy hrH.out _
  have ggA:m.at'<=last ra.log:=by rw[hla];have:=of_decide_eq_true h5;omega
  have ggA:=decide_eq_true ggA;have hma:=Hide.mk (show r.me=ra.me by rw[<-hra];rfl);have hraH:=Hide.mk hra;clear hra hla h6;have hz60:o60 n=0:=by rw[J60.tags n (by have:=K5.le;omega)];exact hon
  have lt60:n<n50+1+1:=by omega
  have K60:=K5.trans (J60.weaken (T':=T71) (λt h=>.inr h));have b60:=(J60.keep n (by have:=K5.le;omega) (by omega) (by rw[hon];omega)).trans b1;have ws60:=Qem (fz:=fz) S60.cells;have wb60:=Qem (fz:=fz) b60;obtain⟨⟨ek60,em60⟩,⟨ak60,am60⟩,⟨sk60,sm60⟩,⟨dk60,dm60⟩,ok60,om60⟩:=S60.ks;unfold msgC at wb60;unfold stepC repC at ws60;clear ws1 wb1;try simp only[↓E1,E4,seval, *]
  refine Qhy H S60 m.commit λm62 n62 S62 J62=>?_;have K62:=K60.trans (J62.weaken (T':=T71) (λt h=>h.elim));have b62:=(J62.keep n (by have:=K60.le;omega) (by omega) (λh=>h)).trans b60;obtain⟨rk62,hrk62⟩:∃z,Qe4 ra m.commit=z:=⟨_,rfl⟩
  rw[hrk62]at S62;have hrH62:=Hide.mk hrk62;have hme62:=Hide.mk (show ra.me=rk62.me by rw[<-hrk62];rfl);have hlg62:rk62.log=ra.log:=by rw[<-hrk62];rfl
  have hll62:last rk62.log=last ra.log:=by rw[hlg62]
  clear hrk62 hlg62;have gg62:decide (m.at'<=last rk62.log)=true:=by rw[hll62];exact ggA
  clear hll62;have lt62:n<n62:=by have:=J62.le;omega
  have ws62:=Qem (fz:=fz) S62.cells;have wb62:=Qem (fz:=fz) b62;obtain⟨⟨ek62,em62⟩,⟨ak62,am62⟩,⟨sk62,sm62⟩,⟨dk62,dm62⟩,ok62,om62⟩:=S62.ks;unfold msgC at wb62;unfold stepC repC at ws62;clear ws60 wb60;try simp only[↓E1,E4,seval, *]
  refine(replica_step_last H s rk62 xe60 xa xs xd xo vd).q1 S62.free ⟨Qem S62.cells,S62.rs.1⟩ ?_;rintro _ n63 l63 rfl;have S64:=S62.le l63;have K64:=K62.le2 l63;try simp only[↓E1,E4,seval, *]
  have hV65:=Qol H (s:=s) (r:=rk62) (xe:=xe60) (xa:=xa) (xs:=xs) (xd:=xd) (xo:=xo) (vd:=vd);unfold msgC ackG at hV65;try simp only[↓E1,E4,seval, *]
  refine hV65.q1 S64.free ⟨Qem S64.cells,S64.rs.1⟩ ?_;rintro _ n65 l65 rfl;clear hV65;have S66:=S64.le l65;have K66:=K64.le2 l65;try simp only[↓E1,E4,seval, *]
  have hSd:=λ(k:KT Prop) (w:WK k)=>Qgc H S66 m.frm (ackG rk62) .nsl .nsl ⟨nilP _,nilE _⟩ (Qoc rk62) (by omega) (k:=k) (w:=w);refine hSd _ _ λm67 n67 o67 xo67 S67 J67=>?_;clear hSd;have hz67:o67 n=0:=by rw[J67.tags n (by have:=K66.le;omega)];exact hz60
  have lt67:n<n67:=by have:=J67.le;omega
  have K67:=K66.trans (J67.weaken (T':=T71) (λt h=>.inl h));have b67:=(J67.keep n (by have:=K66.le;omega) (by omega) (by rw[hz60];omega)).trans b62;have ws67:=Qem (fz:=fz) S67.cells;have wb67:=Qem (fz:=fz) b67;obtain⟨⟨ek67,em67⟩,⟨ak67,am67⟩,⟨sk67,sm67⟩,⟨dk67,dm67⟩,ok67,om67⟩:=S67.ks;unfold msgC at wb67;unfold stepC repC at ws67;clear ws62 wb62;have hk:=hkH.out;rw[hTH.out,hraH.out,hrH62.out,hma.out,hme62.out]at hk;try simp only[List.append_nil]at hk
  have hk2:=hk _ _ _ _ _ _ _ _ S67 K67.trim;clear hk;try simp only[↓E1,E4,seval, *]
  all_goals exact hk2
 ·have hTH:=Hide.mk hT;clear hT;try simp only[↓E1,E4,seval, *]
  refine(replica_step_last H s r xe xa xs xd xo vd).q0 S1.free ⟨Qem S1.cells,S1.rs.1⟩ ?_;rintro _ n2 l2 rfl;have S3:=S1.le l2;have K3:=K1.le2 l2;try simp only[↓E1,E4,seval, *]
  refine(replica_step_last H s r xe xa xs xd xo vd).q0 S3.free ⟨Qem S3.cells,S3.rs.1⟩ ?_;rintro _ n4 l4 rfl;have S5:=S3.le l4;have K5:=K3.le2 l4;try simp only[↓E1,E4,seval, *]
  refine Qhy H S5 m.commit λm6 n6 S6 J6=>?_;have K6:=K5.trans (J6.weaken (T':=T71) (λt h=>h.elim));have b6:=(J6.keep n (by have:=K5.le;omega) (by omega) (λh=>h)).trans b1;obtain⟨rk6,hrk6⟩:∃z,Qe4 r m.commit=z:=⟨_,rfl⟩
  rw[hrk6]at S6;have hrH6:=Hide.mk hrk6;have hme6:=Hide.mk (show r.me=rk6.me by rw[<-hrk6];rfl);have hlg6:rk6.log=r.log:=by rw[<-hrk6];rfl
  have hll6:last rk6.log=last r.log:=by rw[hlg6]
  clear hrk6 hlg6;have gg6:decide (m.at'<=last rk6.log)=false:=by rw[hll6];exact h7
  clear hll6;have lt6:n<n6:=by have:=J6.le;omega
  have ws6:=Qem (fz:=fz) S6.cells;have wb6:=Qem (fz:=fz) b6;obtain⟨⟨ek6,em6⟩,⟨ak6,am6⟩,⟨sk6,sm6⟩,⟨dk6,dm6⟩,ok6,om6⟩:=S6.ks;unfold msgC at wb6;unfold stepC repC at ws6;clear ws1 wb1;try simp only[↓E1,E4,seval, *]
  refine(replica_step_last H s rk6 xe xa xs xd xo vd).q1 S6.free ⟨Qem S6.cells,S6.rs.1⟩ ?_;rintro _ n7 l7 rfl;have S8:=S6.le l7;have K8:=K6.le2 l7;try simp only[↓E1,E4,seval, *]
  have hk:=hkH.out;rw[hTH.out,hrH6.out]at hk;try simp only[List.append_nil]at hk
  have hk2:=hk _ _ _ _ _ _ _ _ S8 K8.trim;clear hk;try simp only[↓E1,E4,seval, *]
  all_goals exact hk2
 ·have hTH:=Hide.mk hT;clear hT;try simp only[↓E1,E4,seval, *]
  refine(replica_step_last H s r xe xa xs xd xo vd).q0 S1.free ⟨Qem S1.cells,S1.rs.1⟩ ?_;rintro _ n2 l2 rfl;have S3:=S1.le l2;have K3:=K1.le2 l2;try simp only[↓E1,E4,seval, *]
  refine Qhy H S3 m.commit λm4 n4 S4 J4=>?_;have K4:=K3.trans (J4.weaken (T':=T71) (λt h=>h.elim));have b4:=(J4.keep n (by have:=K3.le;omega) (by omega) (λh=>h)).trans b1;obtain⟨rk4,hrk4⟩:∃z,Qe4 r m.commit=z:=⟨_,rfl⟩
  rw[hrk4]at S4;have hrH4:=Hide.mk hrk4;have hme4:=Hide.mk (show r.me=rk4.me by rw[<-hrk4];rfl);have hlg4:rk4.log=r.log:=by rw[<-hrk4];rfl
  have hll4:last rk4.log=last r.log:=by rw[hlg4]
  clear hrk4 hlg4;have gg4:decide (m.at'<=last rk4.log)=true:=by rw[hll4];exact h6
  clear hll4;have lt4:n<n4:=by have:=J4.le;omega
  have ws4:=Qem (fz:=fz) S4.cells;have wb4:=Qem (fz:=fz) b4;obtain⟨⟨ek4,em4⟩,⟨ak4,am4⟩,⟨sk4,sm4⟩,⟨dk4,dm4⟩,ok4,om4⟩:=S4.ks;unfold msgC at wb4;unfold stepC repC at ws4;clear ws1 wb1;try simp only[↓E1,E4,seval, *]
  refine(replica_step_last H s rk4 xe xa xs xd xo vd).q1 S4.free ⟨Qem S4.cells,S4.rs.1⟩ ?_;rintro _ n5 l5 rfl;have S6:=S4.le l5;have K6:=K4.le2 l5;try simp only[↓E1,E4,seval, *]
  have hV7:=Qol H (s:=s) (r:=rk4) (xe:=xe) (xa:=xa) (xs:=xs) (xd:=xd) (xo:=xo) (vd:=vd);unfold msgC ackG at hV7;try simp only[↓E1,E4,seval, *]
  refine hV7.q1 S6.free ⟨Qem S6.cells,S6.rs.1⟩ ?_;rintro _ n7 l7 rfl;clear hV7;have S8:=S6.le l7;have K8:=K6.le2 l7;try simp only[↓E1,E4,seval, *]
  have hSd:=λ(k:KT Prop) (w:WK k)=>Qgc H S8 m.frm (ackG rk4) .nsl .nsl ⟨nilP _,nilE _⟩ (Qoc rk4) (by omega) (k:=k) (w:=w);refine hSd _ _ λm9 n9 o9 xo9 S9 J9=>?_;clear hSd;have hz9:o9 n=0:=by rw[J9.tags n (by have:=K8.le;omega)];exact hon
  have lt9:n<n9:=by have:=J9.le;omega
  have K9:=K8.trans (J9.weaken (T':=T71) (λt h=>.inl h));have b9:=(J9.keep n (by have:=K8.le;omega) (by omega) (by rw[hon];omega)).trans b4;have ws9:=Qem (fz:=fz) S9.cells;have wb9:=Qem (fz:=fz) b9;obtain⟨⟨ek9,em9⟩,⟨ak9,am9⟩,⟨sk9,sm9⟩,⟨dk9,dm9⟩,ok9,om9⟩:=S9.ks;unfold msgC at wb9;unfold stepC repC at ws9;clear ws4 wb4;have hk:=hkH.out;rw[hTH.out,hrH4.out,hme4.out]at hk;try simp only[List.append_nil]at hk
  have hk2:=hk _ _ _ _ _ _ _ _ S9 K9.trim;clear hk;try simp only[↓E1,E4,seval, *]
  all_goals exact hk2
end
theorem Qv3 {r:Rep} {m:Msg} (h:r.view<=m.view):(decide (prim m.view r.nodes=r.me)=false/\Qie r m=r)\/
 (decide (prim m.view r.nodes=r.me)=true/\decide (r.view<m.view)=true/\Qie r m=r)\/
 (decide (prim m.view r.nodes=r.me)=true/\decide (r.view<m.view)=false/\decide (r.status=0)=false/\Qie r m=r)\/
 (decide (prim m.view r.nodes=r.me)=true/\decide (r.view<m.view)=false/\decide (r.status=0)=true/\Qie r m=ackR r m.frm.toNat m.at'):=by
 unfold Qie;cases h2:decide (r.view<m.view)
 ·have hv:m.view=r.view:=by have:=of_decide_eq_false h2;omega
  unfold leadB Qgj;rw[hv];cases h1:decide (prim r.view r.nodes=r.me)
  ·exact .inl ⟨rfl,by simp⟩
  ·cases h3:decide (r.status=0)
   ·exact .inr (.inr (.inl ⟨rfl,rfl,rfl,by simp⟩))
   ·exact .inr (.inr (.inr ⟨rfl,rfl,rfl,by simp⟩))
 ·cases h1:decide (prim m.view r.nodes=r.me)
  ·exact .inl ⟨rfl,by simp⟩
  ·exact .inr (.inl ⟨rfl,rfl,by simp⟩)
section
variable {P:Program} (H:Fs P)
include H
theorem play_ack {lo:Nat} {fz:Fz} {s:Nat} {o:Nat->Nat} {mu:St} {n:Nat} {r:Rep} {out:List Msg} {vd:Bool} {xe xa xs xd xo:SV} (S:SW lo fz s o mu n r out vd xe xa xs xd xo) (m:Msg) (yb ye:SV)
 (hm:MsgS (with' mu fz) m yb ye) (hv:r.view<=m.view) (h1:0<=m.frm) (h2:m.frm.toNat<r.acks.length) (hl:r.acks.length<=17592186044415) (hls:last r.log<=4611686018427387904) {k:KT Prop} {w:WK k}
 (hk:∀mu' n',SW lo fz s o mu' n' (Qie r m) out vd xe xa xs xd xo->Gr lo fz mu mu' n n'->k noVal mu' n'):CPh P n_Qci [.one (.optr s 0),.ag (msgC m yb ye)] fz mu n k w:=by
 refine CP_of H.Qci H.mx 0 ?_;obtain⟨-,-,ybk,ybm⟩:=hm.1.len;obtain⟨-,-,yek,yem⟩:=hm.2.len;have hsn:s<n:=S.slt;have gA:=(Gr.refl (lo:=n) S.free).cons (Nat.le_refl _) (msgC m yb ye);have S1:=S.gr gA;have b1:Ev.look ((n,msgC m yb ye)::mu) n=some (msgC m yb ye):=by rw[Qer,if_pos rfl]
 have gM:=gA.weaken (show lo<=n from S.lon);obtain⟨m1,hm1e⟩:∃mz:St,((n,msgC m yb ye)::mu)=mz:=⟨_,rfl⟩
 rw[hm1e]at gA gM S1 b1;obtain⟨⟨xek,xem⟩,⟨xak,xam⟩,⟨xsk,xsm⟩,⟨xdk,xdm⟩,xok,xom⟩:=S1.ks;have ws1:=Qem (fz:=fz) S1.cells;have wb1:=Qem (fz:=fz) b1;have hkH:=Hide.mk hk;clear hk;have hPm:=Qfq H s r xe xa xs xd xo vd m.view;have hcs:=Qv3 hv;have hcsH:=Hide.mk hcs;clear hcs hv;rw[dY a_Qci.eq_1 b_Qci.eq_1];unfold msgC at hm1e wb1⊢;unfold stepC repC at ws1;obtain⟨i,hi⟩:∃i:Nat,m.frm=(i:Int):=⟨m.frm.toNat,by omega⟩
 have hti:m.frm.toNat=i:=by rw[hi];rfl
 have hii:i<r.acks.length:=by omega
 rcases hcsH.out with⟨h1,hT⟩|⟨h1,h2,hT⟩|⟨h1,h2,h3,hT⟩|⟨h1,h2,h3,hT⟩
 ·have hTH:=Hide.mk hT;clear hT hi hti;try simp only[↓E1,E4,seval, *]
  refine hPm.q1 S1.free (Qem S1.cells) ?_;rintro _ n2 l2 rfl;have hk:=hkH.out;rw[hTH.out]at hk;have hk2:=hk _ _ (S1.le l2) (gM.le2 l2);clear hk;try simp only[↓E1,E4,seval, *]
  all_goals exact hk2
 ·have hTH:=Hide.mk hT;clear hT hi hti;try simp only[↓E1,E4,seval, *]
  refine hPm.q1 S1.free (Qem S1.cells) ?_;rintro _ n2 l2 rfl;have hk:=hkH.out;rw[hTH.out]at hk;have hk2:=hk _ _ (S1.le l2) (gM.le2 l2);clear hk;try simp only[↓E1,E4,seval, *]
  all_goals exact hk2
 ·have hTH:=Hide.mk hT;clear hT hi hti;try simp only[↓E1,E4,seval, *]
  refine hPm.q1 S1.free (Qem S1.cells) ?_;rintro _ n2 l2 rfl;have hk:=hkH.out;rw[hTH.out]at hk;have hk2:=hk _ _ (S1.le l2) (gM.le2 l2);clear hk;try simp only[↓E1,E4,seval, *]
  all_goals exact hk2
 ·obtain⟨ida,hxa,hoa,hra⟩:∃ida,xa=.osl ida 0 r.acks.length r.acks.length 1/\o ida=3/\Ev.look m1 ida=some (r.acks.map (SV.int .i64)):=by
   rcases S1.rt.acks with⟨_,h0⟩|⟨ida,h3,h4,h5,h6⟩
   ·exfalso;have:=congrArg List.length h0;simp at this;rw[this]at hii;simp at hii
   ·obtain⟨h7,h8⟩:=Tag.el h4;refine⟨ida,by simpa using h3,h7,?_⟩;rw[<-Qj6,<-Qfp (S1.fzl ida (S1.ge (by omega)))];exact h8
  have hids:(ida=s)=False:=by
   have h9:=S1.os;simp only[eq_iff_iff,iff_false];intro e;rw[e,h9]at hoa;cases hoa
  have hwa:=Qem (fz:=fz) hra;have hmk:=Qqz r.acks;have hsub:=Qu1 hii;have hbd:i*1+1<=(r.acks.map (SV.int .i64)).length:=by simp;omega
  have hlenm:(r.acks.map (SV.int .i64)).length=r.acks.length:=by simp
  have hbd':i*1+1<=r.acks.length:=by omega
  have hil:(i<r.acks.length)=True:=by simp[hii]
  rw[hti]at hT;have hTH:=Hide.mk hT;clear hT hti;rw[hxa]at ws1;rw[hi]at hm1e wb1⊢;try simp only[↓E1,E4,seval, *]
  refine hPm.q1 S1.free (Qem S1.cells) ?_;rintro _ n2 l2 rfl;have S2:=S1.le l2;have hLa:=ref16_Last H r.log xe;unfold lgC at hLa;try simp only[↓E1,E4,seval, *]
  first|(refine⟨by simpa using hbd,?_⟩)|skip
  refine hLa.q1 S2.free S2.rs.1 ?_;rintro _ n3 l3 rfl;obtain⟨l2',hl2⟩:∃l2,r.acks.set i (max r.acks[i] (min m.at' (last r.log)))=l2:=⟨_,rfl⟩
  have hll:l2'.length=r.acks.length:=by rw[<-hl2];simp
  have hov:over (r.acks.map (SV.int .i64)) (i*1) [SV.int .i64 (max r.acks[i] (min m.at' (last r.log)))]=l2'.map (SV.int .i64):=by rw[Nat.mul_one,<-hl2];exact Qkp r.acks i _ hii
  have S3:=(S2.le l3).putA (l:=l2') hxa hoa hll hra;have g3:=((gM.le2 l2).le2 l3).put (S1.ge (j:=ida) (by omega)) hra (c:=l2'.map (SV.int .i64));have hack:ackR r i m.at'={r with acks:=l2',commit:=max r.commit (commF l2' r.me (last r.log))}:=by
   unfold ackR ackL;rw[List.getElem?_eq_getElem hii,Option.getD_some,hl2]
  have hTH2:=Hide.mk (hTH.out.trans hack);have hC:=ref16_Committed H (.osl ida 0 r.acks.length r.acks.length 1) l2' r.me (last r.log) (by omega) hls;have hin:IntsR (with' (putS m1 ida (l2'.map (SV.int .i64))) fz) (.osl ida 0 r.acks.length r.acks.length 1) l2':=by rw[<-hxa];exact S3.rs.2.1
  clear hl2 hack hTH hcsH hPm;have ws3:=Qem (fz:=fz) S3.cells;have hs3:=S3.cells;unfold stepC repC at ws3 hs3;rw[hxa]at ws3 hs3;try simp only[↓E1,E4,seval, *]
  obtain⟨m3,hm3⟩:∃m3,putS m1 ida (l2'.map (SV.int .i64))=m3:=⟨_,rfl⟩
  rw[hm3]at S3 g3 hin ws3 hs3;try rw[hm3]
  try simp only[↓E1,E4,seval, *]
  refine hLa.q1 S3.free S3.rs.1 ?_;rintro _ n4 l4 rfl;try simp only[↓E1,E4,seval, *]
  refine hC.q1 (S3.free.le l4) hin ?_;rintro _ n5 l5 rfl;have S9:=(S3.le (Nat.le_trans l4 l5)).put (r':={r with acks:=l2',commit:=max r.commit (commF l2' r.me (last r.log))}) (vd':=vd) rfl rfl rfl rfl;have g9:=(g3.le2 (Nat.le_trans l4 l5)).put S.los S3.cells (c:=stepC {r with acks:=l2',commit:=max r.commit (commF l2' r.me (last r.log))} xe xa xs xd xo vd);have hk:=hkH.out;rw[hTH2.out]at hk;have hk2:=hk _ _ S9 g9;clear hk;unfold stepC repC at hk2;rw[hxa]at hk2;try simp only[↓E1,E4,seval, *]
  all_goals exact hk2
end
def giveM (r:Rep):Msg:=⟨11,0,0,r.view,0,0,r.commit,0,0,0,0,0,0,0,tx0,[],r.log,tx0⟩
def askS (r:Rep) (m:Msg):List Msg:=if leadB r&&decide (m.view=r.view)then[{giveM r with frm:=r.me,to:=m.frm}]else[]
theorem Qv6 {r:Rep} (h:LgSz r.log):MsgSz (giveM r):=⟨by simp[giveM],h⟩
theorem ask_cases (r:Rep) (m:Msg):(decide (prim m.view r.nodes=r.me)=false/\askS r m=[])\/
 (decide (prim m.view r.nodes=r.me)=true/\decide (m.view=r.view)=false/\askS r m=[])\/
 (decide (prim m.view r.nodes=r.me)=true/\decide (m.view=r.view)=true/\decide (r.status=0)=false/\askS r m=[])\/
 (decide (prim m.view r.nodes=r.me)=true/\decide (m.view=r.view)=true/\decide (r.status=0)=true/\askS r m=[{giveM r with frm:=r.me,to:=m.frm}]):=by
 unfold askS leadB Qgj;cases h2:decide (m.view=r.view)
 ·cases h1:decide (prim m.view r.nodes=r.me)
  ·exact .inl ⟨rfl,by simp⟩
  ·exact .inr (.inl ⟨rfl,rfl,by simp⟩)
 ·rw[of_decide_eq_true h2];cases h1:decide (prim r.view r.nodes=r.me)
  ·exact .inl ⟨rfl,by simp⟩
  ·cases h3:decide (r.status=0)
   ·exact .inr (.inr (.inl ⟨rfl,rfl,rfl,by simp⟩))
   ·exact .inr (.inr (.inr ⟨rfl,rfl,rfl,by simp⟩))
section
variable {P:Program} (H:Fs P)
include H
theorem play_ask {lo:Nat} {fz:Fz} {s:Nat} {o:Nat->Nat} {mu:St} {n:Nat} {r:Rep} {out:List Msg} {vd:Bool} {xe xa xs xd xo:SV} (S:SW lo fz s o mu n r out vd xe xa xs xd xo) (m:Msg) (yb ye:SV)
 (hm:MsgS (with' mu fz) m yb ye) (hz:LgSz r.log) (hl:out.length<=800) {k:KT Prop} {w:WK k}
 (hk:∀mu' n' o' xo',SW lo fz s o' mu' n' r (out++askS r m) vd xe xa xs xd xo'->Kp T71 s o o' mu n mu' n'->k noVal mu' n'):CPh P n_Qck [.one (.optr s 0),.ag (msgC m yb ye)] fz mu n k w:=by
 refine CP_of H.Qck H.mx 0 ?_;obtain⟨-,-,ybk,ybm⟩:=hm.1.len;obtain⟨-,-,yek,yem⟩:=hm.2.len;have hsn:s<n:=S.slt;have gA:=(Gr.refl (lo:=n) S.free).cons (Nat.le_refl _) (msgC m yb ye);have S1:=S.trim.gr gA;have b1:Ev.look ((n,msgC m yb ye)::mu) n=some (msgC m yb ye):=by rw[Qer,if_pos rfl]
 have K1:Kp T71 s (trim o n) (trim o n) mu n ((n,msgC m yb ye)::mu) (n+1):=Gr.kp gA;have hm1:=MsgS.mono (gA.sub S.free (Nat.le_refl _)) hm;have hon:trim o n n=0:=Qhr (Nat.le_refl _);have hlon:=S.lon;obtain⟨m1,hm1e⟩:∃mz:St,((n,msgC m yb ye)::mu)=mz:=⟨_,rfl⟩
 rw[hm1e]at gA S1 b1 K1 hm1;obtain⟨⟨xek,xem⟩,⟨xak,xam⟩,⟨xsk,xsm⟩,⟨xdk,xdm⟩,xok,xom⟩:=S1.ks;have ws1:=Qem (fz:=fz) S1.cells;have wb1:=Qem (fz:=fz) b1;have hkH:=Hide.mk hk;clear hk;have hPm:=Qfq H s r xe xa xs xd xo vd m.view;rw[dY a_Qck.eq_1 b_Qck.eq_1];unfold msgC at hm1e wb1⊢;unfold stepC repC at ws1;rcases ask_cases r m with⟨h1,hT⟩|⟨h1,h2,hT⟩|⟨h1,h2,h3,hT⟩|⟨h1,h2,h3,hT⟩
 ·have hTH:=Hide.mk hT;clear hT;try simp only[↓E1,E4,seval, *]
  refine hPm.q1 S1.free (Qem S1.cells) ?_;rintro _ n2 l2 rfl;have hk:=hkH.out;rw[hTH.out]at hk;try simp only[List.append_nil]at hk
  have hk2:=hk _ _ _ _ (S1.le l2) (K1.le2 l2).trim;clear hk;try simp only[↓E1,E4,seval, *]
  all_goals exact hk2
 ·have hTH:=Hide.mk hT;clear hT;try simp only[↓E1,E4,seval, *]
  refine hPm.q1 S1.free (Qem S1.cells) ?_;rintro _ n2 l2 rfl;have hk:=hkH.out;rw[hTH.out]at hk;try simp only[List.append_nil]at hk
  have hk2:=hk _ _ _ _ (S1.le l2) (K1.le2 l2).trim;clear hk;try simp only[↓E1,E4,seval, *]
  all_goals exact hk2
 ·have hTH:=Hide.mk hT;clear hT;try simp only[↓E1,E4,seval, *]
  refine hPm.q1 S1.free (Qem S1.cells) ?_;rintro _ n2 l2 rfl;have hk:=hkH.out;rw[hTH.out]at hk;try simp only[List.append_nil]at hk
  have hk2:=hk _ _ _ _ (S1.le l2) (K1.le2 l2).trim;clear hk;try simp only[↓E1,E4,seval, *]
  all_goals exact hk2
 ·have hTH:=Hide.mk hT;clear hT;try simp only[↓E1,E4,seval, *]
  refine hPm.q1 S1.free (Qem S1.cells) ?_;rintro _ n2 l2 rfl;have hS:=λ(k:KT Prop) (w:WK k)=>Qga H (S1.le l2) m.frm (giveM r) .nsl xe (.inl ⟨.inl rfl,rfl⟩) S1.rs.1 hz (by omega) (k:=k) (w:=w);try simp only[↓E1,E4,seval, *]
  refine hS _ _ λm3 n3 o3 xo3 S3 K3=>?_;have hk:=hkH.out;rw[hTH.out]at hk;have hk2:=hk _ _ _ _ S3 ((K1.le2 l2).trans (K3.weaken (T':=T71) (λt h=>.inl h))).trim;clear hk;try simp only[↓E1,E4,seval, *]
  all_goals exact hk2
end
def Qnb (r:Rep) (m:Msg):Bool:=(decide (r.normal=m.view)&&decide (last m.log<last r.log))||(decide (m.view=r.view)&&decide (r.status=0)&&(decide (m.kind=9)||decide (last m.log<=last r.log)))
def Qhp (r:Rep) (m:Msg) (N:Nat):Rep×List Msg×Bool:=
 if Qnb r m then(r,[],false)
 else match takeR {r with view:=m.view} m.log m.commit N with
  |none=>({r with view:=m.view},[],true)
  |some r1=>(r1,[{ackG r1 with frm:=r1.me,to:=m.frm}],false)
theorem Qwy (a b c d e f:Bool):(a=true/\b=true/\((a&&b)||(c&&d&&(e||f)))=true)\/
 (a=false/\c=false/\((a&&b)||(c&&d&&(e||f)))=false)\/(a=false/\c=true/\d=false/\((a&&b)||(c&&d&&(e||f)))=false)\/
 (a=false/\c=true/\d=true/\e=true/\((a&&b)||(c&&d&&(e||f)))=true)\/(a=false/\c=true/\d=true/\e=false/\f=true/\((a&&b)||(c&&d&&(e||f)))=true)\/
 (a=false/\c=true/\d=true/\e=false/\f=false/\((a&&b)||(c&&d&&(e||f)))=false)\/
 (a=true/\b=false/\c=false/\((a&&b)||(c&&d&&(e||f)))=false)\/(a=true/\b=false/\c=true/\d=false/\((a&&b)||(c&&d&&(e||f)))=false)\/
 (a=true/\b=false/\c=true/\d=true/\e=true/\((a&&b)||(c&&d&&(e||f)))=true)\/(a=true/\b=false/\c=true/\d=true/\e=false/\f=true/\((a&&b)||(c&&d&&(e||f)))=true)\/
 (a=true/\b=false/\c=true/\d=true/\e=false/\f=false/\((a&&b)||(c&&d&&(e||f)))=false):=by
 revert a b c d e f;decide
def Low (lo:Nat) (M:Fz):Fz:=λj=>if j<lo then M j else none
theorem Low.sub {lo:Nat} {M:Fz}:Sub (Low lo M) M:=λj B h=>by
 unfold Low at h;split at h
 ·exact h
 ·cases h
theorem Low.kp {T:Nat->Prop} {lo s:Nat} {fz:Fz} {o o':Nat->Nat} {mu mu':St} {n n':Nat} (K:Kp T s o o' mu n mu' n') (hs:lo<=s) (hn:lo<=n) (hz:∀j,j<lo->o j=0) (hT:¬T 0):Low lo (with' mu' fz)=Low lo (with' mu fz):=by
 funext j;unfold Low;split
 ·rename_i h;rw[Qe5,Qe5,K.keep j (by omega) (by omega) (by rw[hz j h];exact hT)]
 ·rfl
def Qrn:ACode:=match b_Qa9 with|.seq _ (.seq _ (.seq _ c))=>c|c=>c
def Qxf (t:ACode):ACode:=match b_Qa9 with|.seq a (.seq b (.seq c _))=>.seq a (.seq b (.seq c t))|c=>c
theorem given_eq:b_Qa9=Qxf Qrn:=rfl
section
variable {P:Program} (H:Fs P)
include H
theorem Qn8 {lo:Nat} {fz:Fz} {s:Nat} {o:Nat->Nat} {mu:St} {n:Nat} {r:Rep} {out:List Msg} {vd:Bool} {xe xa xs xd xo:SV} (S:SW lo fz s o mu n r out vd xe xa xs xd xo) (m:Msg) (yb ye:SV)
 (hm:MsgS (with' mu fz) m yb ye) (hml:EntsR (Low lo (with' mu fz)) ye m.log.ents) (hmz:MsgSz m) {N:Nat} (hN:r.nodes=(N:Int)) (hN7:N<=7) (hl:out.length<=800) {k:KT Prop} {w:WK k}
 (hk:∀mu' n' o' xe' xa' xs' xd' xo',SW lo fz s o' mu' n' (Qhp r m N).1 (out++(Qhp r m N).2.1) (vd||(Qhp r m N).2.2) xe' xa' xs' xd' xo'->Kp T71 s o o' mu n mu' n'->k noVal mu' n'):CPh P n_Qa9 [.one (.optr s 0),.ag (msgC m yb ye)] fz mu n k w:=by
 refine CP_of H.Qa9 H.mx 0 ?_;obtain⟨-,-,ybk,ybm⟩:=hm.1.len;obtain⟨-,-,yek,yem⟩:=hm.2.len;have hsn:s<n:=S.slt;have gA:=(Gr.refl (lo:=n) S.free).cons (Nat.le_refl _) (msgC m yb ye);have S1:=S.trim.gr gA;have b1:Ev.look ((n,msgC m yb ye)::mu) n=some (msgC m yb ye):=by rw[Qer,if_pos rfl]
 have K1:Kp T71 s (trim o n) (trim o n) mu n ((n,msgC m yb ye)::mu) (n+1):=Gr.kp gA;have hm1:=MsgS.mono (gA.sub S.free (Nat.le_refl _)) hm;have hon:trim o n n=0:=Qhr (Nat.le_refl _);have hlon:=S.lon;obtain⟨m1,hm1e⟩:∃mz:St,((n,msgC m yb ye)::mu)=mz:=⟨_,rfl⟩
 rw[hm1e]at gA S1 b1 K1 hm1;obtain⟨⟨xek,xem⟩,⟨xak,xam⟩,⟨xsk,xsm⟩,⟨xdk,xdm⟩,xok,xom⟩:=S1.ks;have ws1:=Qem (fz:=fz) S1.cells;have wb1:=Qem (fz:=fz) b1;have hkH:=Hide.mk hk;have hNH:=Hide.mk hN;clear hk hN;have hLm:=choose_Last H m.log ye;have hLa:=replica_step_last H s r xe xa xs xd xo vd;unfold lgC at hLm;have hstop:Qnb r m=true->Qhp r m N=(r,[],false):=λh=>by unfold Qhp;rw[if_pos h]
 have hstH:=Hide.mk hstop;clear hstop;rw[i_Qa9,dc_at given_eq];unfold msgC at hm1e wb1⊢;unfold stepC repC at ws1;have tail:Hide (∀(e:Nat->Nat->AV) (n':Nat),n+1<=n'->Qnb r m=false->e 0 0=.one (.optr s 0)->e 0 3=.one (.optr n 0)->dcode pOrc False (CP P) fz 0 Qrn (tmE 69 e) m1 n' (endP fz [] k)):=⟨λe n' hn' hG e0 e3=>by
  obtain⟨ks,kp⟩:n'=n'/\True:=⟨rfl,trivial⟩
  have hnt:Qhp r m N=match takeR {r with view:=m.view} m.log m.commit N with
   |none=>({r with view:=m.view},[],true)
   |some r1=>(r1,[{ackG r1 with frm:=r1.me,to:=m.frm}],false):=by unfold Qhp;rw[if_neg (by rw[hG];exact Bool.false_ne_true)]
  have hntH:=Hide.mk hnt;clear hnt kp ks hLm hLa;unfold Qrn b_Qa9;refine dW ?_;have S2:=(S1.le hn').put (r':={r with view:=m.view}) (vd':=vd) rfl rfl rfl rfl;have J2:Kp (λ_=>False) s _ _ _ _ _ _:=(S1.le hn').kput (c:=stepC {r with view:=m.view} xe xa xs xd xo vd);have K2:=(K1.le2 hn').trans (J2.weaken (T':=T71) (λt h=>h.elim));have b2:=(J2.keep n (by omega) (by omega) (λh=>h)).trans b1;have hcell:stepC {r with view:=m.view} xe xa xs xd xo vd=[I r.me,I r.nodes,I m.view,I r.normal,I r.status,I r.commit,.bool r.sent,I r.log.base,r.log.snap.sv,xe,xa,xs,xd,xo,.bool vd]:=rfl;have hm2:EntsR (with' (putS m1 s (stepC {r with view:=m.view} xe xa xs xd xo vd)) fz) ye m.log.ents:=EntsR.mono Low.sub (by rw[Low.kp K2 S.los S.lon (λj hj=>by rw[Qhh (by omega)];exact S.zero j hj) (by unfold T71;omega)];exact hml);rw[hcell]at S2 K2 b2 hm2;have hs1:=S1.cells;unfold stepC repC at hs1;have wb2:=Qem (fz:=fz) b2;unfold msgC at wb2;clear hcell J2;have hTk:=λ(k:KT Prop) (w:WK k)=>step_take H S2 m.log ye m.commit hm2 hmz.log hNH.out hN7 (k:=k) (w:=w);unfold lgC at hTk;simp only[↓E1,E4,seval, *];refine hTk _ _ ?_ ?_
  ·intro r1 hr1 m3 n3 o3 xe3 xa3 S3 J3;have hTH:=Hide.mk (hntH.out.trans (by rw[hr1]));clear hr1 hTk hntH;have K3:=K2.trans (J3.weaken (T':=T71) (λt h=>h.elim));have b3:=(J3.keep n (by omega) (by omega) (λh=>h)).trans b2;have hz3:o3 n=0:=by rw[J3.tags n (by omega)];exact hon
   clear ws1 wb1;have ws2:=()
   have lt3:n<n3:=by have:=J3.le;omega
   have ws3:=Qem (fz:=fz) S3.cells;have wb3:=Qem (fz:=fz) b3;obtain⟨⟨ek3,em3⟩,⟨ak3,am3⟩,⟨sk3,sm3⟩,⟨dk3,dm3⟩,ok3,om3⟩:=S3.ks;unfold msgC at wb3;unfold stepC repC at ws3;clear ws2 wb2;clear J3;try simp only[↓E1,E4,seval, *]
   have hV11:=Qol H (s:=s) (r:=r1) (xe:=xe3) (xa:=xa3) (xs:=.nsl) (xd:=.nsl) (xo:=xo) (vd:=vd);unfold msgC ackG at hV11;try simp only[↓E1,E4,seval, *]
   refine hV11.q1 S3.free ⟨Qem S3.cells,S3.rs.1⟩ ?_;rintro _ n11 l11 rfl;clear hV11;have S12:=S3.le l11;have K12:=K3.le2 l11;try simp only[↓E1,E4,seval, *]
   have hSd:=λ(k:KT Prop) (w:WK k)=>Qgc H S12 m.frm (ackG r1) .nsl .nsl ⟨nilP _,nilE _⟩ (Qoc r1) (by omega) (k:=k) (w:=w);refine hSd _ _ λm13 n13 o13 xo13 S13 J13=>?_;clear hSd;have hz13:o13 n=0:=by rw[J13.tags n (by have:=K12.le;omega)];exact hz3
   have lt13:n<n13:=by have:=J13.le;omega
   have K13:=K12.trans (J13.weaken (T':=T71) (λt h=>.inl h));have b13:=(J13.keep n (by have:=K12.le;omega) (by omega) (by rw[hz3];omega)).trans b3;have ws13:=Qem (fz:=fz) S13.cells;have wb13:=Qem (fz:=fz) b13;obtain⟨⟨ek13,em13⟩,⟨ak13,am13⟩,⟨sk13,sm13⟩,⟨dk13,dm13⟩,ok13,om13⟩:=S13.ks;unfold msgC at wb13;unfold stepC repC at ws13;clear ws3 wb3;try simp only[↓E1,E4,seval, *]
   have hk:=hkH.out;rw[hTH.out]at hk;try simp only[List.append_nil,Bool.or_false]at hk
   have hk2:=hk _ _ _ _ _ _ _ _ S13 K13.trim;clear hk;try simp only[↓E1,E4,seval, *]
   all_goals exact hk2
  ·intro hr1 m3 n3 o3 S3 J3;have hTH:=hntH.out.trans (by rw[hr1]);have K3:=K2.trans (J3.weaken (T':=T71) (λt h=>h.elim));clear hTk hntH hr1;have hk:=hkH.out;rw[hTH]at hk;simp only[List.append_nil,Bool.or_true]at hk;have hk2:=hk _ _ _ _ _ _ _ _ S3 K3.trim;clear hk;try simp only[↓E1,E4,seval, *]
   all_goals exact hk2⟩
 unfold Qxf b_Qa9;refine dW ?_;simp only[↓E1,E4,seval, *];refine hLm.q0 S1.free hm1.2 ?_;rintro _ n2 l2 rfl;have S2:=S1.le l2;have K2:=K1.le2 l2;clear hLm;rcases Qwy (decide (r.normal=m.view)) (decide (last m.log<last r.log)) (decide (m.view=r.view)) (decide (r.status=0)) (decide (m.kind=9)) (decide (last m.log<=last r.log))with⟨ha,hb,hG⟩|⟨ha,hc,hG⟩|⟨ha,hc,hd,hG⟩|⟨ha,hc,hd,he,hG⟩|⟨ha,hc,hd,he,hf,hG⟩|⟨ha,hc,hd,he,hf,hG⟩|⟨ha,hb,hc,hG⟩|⟨ha,hb,hc,hd,hG⟩|⟨ha,hb,hc,hd,he,hG⟩|⟨ha,hb,hc,hd,he,hf,hG⟩|⟨ha,hb,hc,hd,he,hf,hG⟩
 ·have hG:=Hide.mk hG;try simp only[↓E1,E4,seval, *]
  refine hLa.q1 S2.free ⟨Qem S2.cells,S2.rs.1⟩ ?_;rintro _ n3 l3 rfl;have S3:=S2.le l3;have K3:=K2.le2 l3;try simp only[↓E1,E4,seval, *]
  have hk:=hkH.out;rw[hstH.out hG.out]at hk;simp only[List.append_nil,Bool.or_false]at hk;have hk2:=hk _ _ _ _ _ _ _ _ S3 K3.trim;clear hk;try simp only[↓E1,E4,seval, *]
  all_goals exact hk2
 ·have hG:=Hide.mk hG;try simp only[↓E1,E4,seval, *]
  refine tail.out _ _ (by omega) hG.out ?_ ?_<;>first|rfl|simp[updN,updE, *]
 ·have hG:=Hide.mk hG;try simp only[↓E1,E4,seval, *]
  refine tail.out _ _ (by omega) hG.out ?_ ?_<;>first|rfl|simp[updN,updE, *]
 ·have hG:=Hide.mk hG;try simp only[↓E1,E4,seval, *]
  have hk:=hkH.out;rw[hstH.out hG.out]at hk;simp only[List.append_nil,Bool.or_false]at hk;have hk2:=hk _ _ _ _ _ _ _ _ S2 K2.trim;clear hk;try simp only[↓E1,E4,seval, *]
  all_goals exact hk2
 ·have hG:=Hide.mk hG;try simp only[↓E1,E4,seval, *]
  refine hLa.q1 S2.free ⟨Qem S2.cells,S2.rs.1⟩ ?_;rintro _ n3 l3 rfl;have S3:=S2.le l3;have K3:=K2.le2 l3;try simp only[↓E1,E4,seval, *]
  have hk:=hkH.out;rw[hstH.out hG.out]at hk;simp only[List.append_nil,Bool.or_false]at hk;have hk2:=hk _ _ _ _ _ _ _ _ S3 K3.trim;clear hk;try simp only[↓E1,E4,seval, *]
  all_goals exact hk2
 ·have hG:=Hide.mk hG;try simp only[↓E1,E4,seval, *]
  refine hLa.q1 S2.free ⟨Qem S2.cells,S2.rs.1⟩ ?_;rintro _ n3 l3 rfl;have S3:=S2.le l3;have K3:=K2.le2 l3;try simp only[↓E1,E4,seval, *]
  refine tail.out _ _ (by omega) hG.out ?_ ?_<;>first|rfl|simp[updN,updE, *]
 ·have hG:=Hide.mk hG;try simp only[↓E1,E4,seval, *]
  refine hLa.q1 S2.free ⟨Qem S2.cells,S2.rs.1⟩ ?_;rintro _ n3 l3 rfl;have S3:=S2.le l3;have K3:=K2.le2 l3;try simp only[↓E1,E4,seval, *]
  refine tail.out _ _ (by omega) hG.out ?_ ?_<;>first|rfl|simp[updN,updE, *]
 ·have hG:=Hide.mk hG;try simp only[↓E1,E4,seval, *]
  refine hLa.q1 S2.free ⟨Qem S2.cells,S2.rs.1⟩ ?_;rintro _ n3 l3 rfl;have S3:=S2.le l3;have K3:=K2.le2 l3;try simp only[↓E1,E4,seval, *]
  refine tail.out _ _ (by omega) hG.out ?_ ?_<;>first|rfl|simp[updN,updE, *]
 ·have hG:=Hide.mk hG;try simp only[↓E1,E4,seval, *]
  refine hLa.q1 S2.free ⟨Qem S2.cells,S2.rs.1⟩ ?_;rintro _ n3 l3 rfl;have S3:=S2.le l3;have K3:=K2.le2 l3;try simp only[↓E1,E4,seval, *]
  have hk:=hkH.out;rw[hstH.out hG.out]at hk;simp only[List.append_nil,Bool.or_false]at hk;have hk2:=hk _ _ _ _ _ _ _ _ S3 K3.trim;clear hk;try simp only[↓E1,E4,seval, *]
  all_goals exact hk2
 ·have hG:=Hide.mk hG;try simp only[↓E1,E4,seval, *]
  refine hLa.q1 S2.free ⟨Qem S2.cells,S2.rs.1⟩ ?_;rintro _ n3 l3 rfl;have S3:=S2.le l3;have K3:=K2.le2 l3;try simp only[↓E1,E4,seval, *]
  refine hLa.q1 S3.free ⟨Qem S3.cells,S3.rs.1⟩ ?_;rintro _ n4 l4 rfl;have S4:=S3.le l4;have K4:=K3.le2 l4;try simp only[↓E1,E4,seval, *]
  have hk:=hkH.out;rw[hstH.out hG.out]at hk;simp only[List.append_nil,Bool.or_false]at hk;have hk2:=hk _ _ _ _ _ _ _ _ S4 K4.trim;clear hk;try simp only[↓E1,E4,seval, *]
  all_goals exact hk2
 ·have hG:=Hide.mk hG;try simp only[↓E1,E4,seval, *]
  refine hLa.q1 S2.free ⟨Qem S2.cells,S2.rs.1⟩ ?_;rintro _ n3 l3 rfl;have S3:=S2.le l3;have K3:=K2.le2 l3;try simp only[↓E1,E4,seval, *]
  refine hLa.q1 S3.free ⟨Qem S3.cells,S3.rs.1⟩ ?_;rintro _ n4 l4 rfl;have S4:=S3.le l4;have K4:=K3.le2 l4;try simp only[↓E1,E4,seval, *]
  refine tail.out _ _ (by omega) hG.out ?_ ?_<;>first|rfl|simp[updN,updE, *]
end
end Go.Proofs.YtnnjlnkoomeadaaGreat.Pv
namespace Go.Ev
theorem Qx7 {a b s len:Nat} {z:List SV} {ps:List (Nat×Nat×Od)} {g:Option (Nat×Nat×Bool)} {m':Nat} {anc:List Nat} {ops:List AOper} {need:List (Nat×Nat)} (h:inN a b need=true):Qe2 (⟨some (a,b),.bslice s len z ps,g,m',anc⟩::ops) need=none:=by rw[Qi0,h];rfl
end Go.Ev
namespace Go.Proofs.YtnnjlnkoomeadaaGreat.Pv
open Go.Ev Go.Ev.Rp
set_option maxRecDepth 100000
set_option maxHeartbeats 4000000
def Qg5 (r:Rep) (m:Msg) (N:Nat):Rep×List Msg:=if decide (m.frm=prim m.view r.nodes)then Qf7 r m N else(r,[])
theorem ask_at {r:Rep} {m:Msg} (h:m.view=r.view):askG r=⟨10,0,0,m.view,0,last r.log,0,0,0,0,0,0,0,0,tx0,[],⟨0,tx0,[]⟩,tx0⟩:=by unfold askG;rw[h]
theorem Qww {r:Rep} {v:Int} (h:r.view=v):ackG r=⟨5,0,0,v,0,last r.log,0,0,0,0,0,0,0,0,tx0,[],⟨0,tx0,[]⟩,tx0⟩:=by unfold ackG;rw[h]
section
variable {P:Program} (H:Fs P)
include H
theorem Qns {lo:Nat} {fz:Fz} {s:Nat} {o:Nat->Nat} {mu:St} {n:Nat} {r:Rep} {out:List Msg} {vd:Bool} {xe xa xs xd xo:SV} (S:SW lo fz s o mu n r out vd xe xa xs xd xo) (m:Msg) (yb ye:SV)
 (hm:MsgS (with' mu fz) m yb ye) (hmf:PtsR fz yb m.batch) (hmz:MsgSz m) (hr:repB r=true) (hv:r.view<=m.view) (hfm:decide (m.frm=r.me)=false) {N:Nat} (hN:r.nodes=(N:Int)) (hN7:N<=7) (hl:out.length<=800) {k:KT Prop} {w:WK k}
 (hk:∀mu' n' o' xe' xa' xs' xd' xo',SW lo fz s o' mu' n' (Qg5 r m N).1 (out++(Qg5 r m N).2) vd xe' xa' xs' xd' xo'->Kp T71 s o o' mu n mu' n'->k noVal mu' n'):CPh P n_Qbv [.one (.optr s 0),.ag (msgC m yb ye)] fz mu n k w:=by
 refine CP_of H.Qbv H.mx 0 ?_;obtain⟨-,-,ybk,ybm⟩:=hm.1.len;obtain⟨-,-,yek,yem⟩:=hm.2.len;have hsn:s<n:=S.slt;have gA:=(Gr.refl (lo:=n) S.free).cons (Nat.le_refl _) (msgC m yb ye);have S1:=S.trim.gr gA;have b1:Ev.look ((n,msgC m yb ye)::mu) n=some (msgC m yb ye):=by rw[Qer,if_pos rfl]
 have K1:Kp T71 s (trim o n) (trim o n) mu n ((n,msgC m yb ye)::mu) (n+1):=Gr.kp gA;have hm1:=MsgS.mono (gA.sub S.free (Nat.le_refl _)) hm;have hon:trim o n n=0:=Qhr (Nat.le_refl _);have hlon:=S.lon;obtain⟨m1,hm1e⟩:∃mz:St,((n,msgC m yb ye)::mu)=mz:=⟨_,rfl⟩
 rw[hm1e]at gA S1 b1 K1 hm1;obtain⟨⟨xek,xem⟩,⟨xak,xam⟩,⟨xsk,xsm⟩,⟨xdk,xdm⟩,xok,xom⟩:=S1.ks;have ws1:=Qem (fz:=fz) S1.cells;have wb1:=Qem (fz:=fz) b1;have hkH:=Hide.mk hk;have hNH:=Hide.mk hN;clear hk hN;have hvH:=Hide.mk hv;have hrH:=Hide.mk hr;have hPm:=Qfq H s r xe xa xs xd xo vd m.view;clear hr hv;rw[dY a_Qbv.eq_1 b_Qbv.eq_1];unfold msgC at hm1e wb1⊢;unfold stepC repC at ws1;cases h0:decide (m.frm=prim m.view r.nodes)with
 |false=>
  have hT:Qg5 r m N=(r,[]):=by unfold Qg5;rw[h0];rfl
  have hTH:=Hide.mk hT;clear hT;try simp only[↓E1,E4,seval, *]
  refine hPm.q1 S1.free (Qem S1.cells) ?_;rintro _ n2 l2 rfl;have S2:=S1.le l2;have K2:=K1.le2 l2;have hk:=hkH.out;rw[hTH.out]at hk;try simp only[List.append_nil]at hk
  have hk2:=hk _ _ _ _ _ _ _ _ S2 K2.trim;clear hk;try simp only[↓E1,E4,seval, *]
  all_goals exact hk2
 |true=>
  have hne:decide (r.me=prim m.view r.nodes)=false:=decide_eq_false λe=>of_decide_eq_false hfm ((of_decide_eq_true h0).trans e.symm);have hA:Qg5 r m N=Qf7 r m N:=by unfold Qg5;rw[h0,if_pos rfl]
  have hAH:=Hide.mk hA;obtain⟨hw,hcs⟩:=Qqy m N hrH.out;have hcsH:=Hide.mk hcs;clear hcs hA;try simp only[↓E1,E4,seval, *]
  refine hPm.q1 S1.free (Qem S1.cells) ?_;rintro _ n2 l2 rfl;try simp only[↓E1,E4,seval, *]
  refine hPm.q1 (S1.free.le l2) (Qem S1.cells) ?_;rintro _ n3 l3 rfl;have S1:=(S1.le l2).le l3;have K1:=(K1.le2 l2).le2 l3;have ltA:n<n3:=by omega
  clear hPm;rcases hcsH.out with⟨h1,hT⟩|⟨h1,h2,hT⟩|⟨h1,h2,h3,h4,hT⟩|⟨h1,h2,h3,h4,hT⟩|⟨h1,h2,h3,h4,h5,h6,h7,hT⟩|⟨h1,h2,h3,h4,h5,h6,h7,hT⟩|⟨h1,h2,h3,h4,h5,h6,h7,h8,hT⟩|⟨h1,h2,h3,h4,h5,h6,h7,hT⟩
  ·have hTH:=Hide.mk (hAH.out.trans hT);clear hT hcsH;try simp only[↓E1,E4,seval, *]
   refine Qsf H S1 m.view hNH.out hN7 (by omega) λm20 n20 o20 xa2 xs2 xd2 xo2 S20 K20=>?_;have hk:=hkH.out;rw[hTH.out]at hk;have hk2:=hk _ _ _ _ _ _ _ _ S20 (K1.trans (K20.weaken (T':=T71) (λt h=>.inl h))).trim;clear hk;try simp only[↓E1,E4,seval, *]
   all_goals exact hk2
  ·have hTH:=Hide.mk (hAH.out.trans hT);clear hT hcsH;try simp only[↓E1,E4,seval, *]
   refine Qsf H S1 m.view hNH.out hN7 (by omega) λm20 n20 o20 xa2 xs2 xd2 xo2 S20 K20=>?_;have hk:=hkH.out;rw[hTH.out]at hk;have hk2:=hk _ _ _ _ _ _ _ _ S20 (K1.trans (K20.weaken (T':=T71) (λt h=>.inl h))).trim;clear hk;try simp only[↓E1,E4,seval, *]
   all_goals exact hk2
  ·have hTH:=Hide.mk (hAH.out.trans hT);clear hT hcsH;have hmv:=Hide.mk (show m.view=r.view by have:=hvH.out;have:=of_decide_eq_false h1;omega);try simp only[↓E1,E4,seval, *]
   have hLa11:=ref16_Last H r.log xe;unfold lgC at hLa11;try simp only[↓E1,E4,seval, *]
   refine hLa11.q1 S1.free S1.rs.1 ?_;rintro _ n11 l11 rfl;clear hLa11;have S12:=S1.le l11;have K12:=K1.le2 l11;try simp only[↓E1,E4,seval, *]
   have hLa13:=ref16_Last H r.log xe;unfold lgC at hLa13;try simp only[↓E1,E4,seval, *]
   refine hLa13.q1 S12.free S12.rs.1 ?_;rintro _ n13 l13 rfl;clear hLa13;have S14:=S12.le l13;have K14:=K12.le2 l13;try simp only[↓E1,E4,seval, *]
   have hSd:=λ(k:KT Prop) (w:WK k)=>Qga H S14 m.frm ⟨10,0,0,m.view,0,last r.log,0,0,0,0,0,0,0,0,tx0,[],⟨0,tx0,[]⟩,tx0⟩ .nsl .nsl (.inl ⟨.inl rfl,rfl⟩) (nilE _) ⟨by simp,by simp⟩ (by omega) (k:=k) (w:=w);refine hSd _ _ λm15 n15 o15 xo15 S15 J15=>?_;clear hSd;have hz15:o15 n=0:=by rw[J15.tags n (by have:=K14.le;omega)];exact hon
   have lt15:n<n15:=by have:=J15.le;omega
   have K15:=K14.trans (J15.weaken (T':=T71) (λt h=>.inl h));have b15:=(J15.keep n (by have:=K14.le;omega) (by omega) (by rw[hon];omega)).trans b1;have ws15:=Qem (fz:=fz) S15.cells;have wb15:=Qem (fz:=fz) b15;obtain⟨⟨ek15,em15⟩,⟨ak15,am15⟩,⟨sk15,sm15⟩,⟨dk15,dm15⟩,ok15,om15⟩:=S15.ks;unfold msgC at wb15;unfold stepC repC at ws15;clear ws1 wb1;try simp only[↓E1,E4,seval, *]
   have hLa16:=ref16_Last H r.log xe;unfold lgC at hLa16;try simp only[↓E1,E4,seval, *]
   refine hLa16.q1 S15.free S15.rs.1 ?_;rintro _ n16 l16 rfl;clear hLa16;have S17:=S15.le l16;have K17:=K15.le2 l16;try simp only[↓E1,E4,seval, *]
   have S18:=S17.put (r':=Qe4 r m.commit) (vd':=vd) rfl rfl rfl rfl;have J18:Kp (λ_=>False) s _ _ _ _ _ _:=S17.kput (c:=stepC (Qe4 r m.commit) xe xa xs xd xo15 vd);have hcell:stepC (Qe4 r m.commit) xe xa xs xd xo15 vd=[I r.me,I r.nodes,I r.view,I r.normal,I r.status,I (max r.commit (min m.commit (last r.log))),.bool r.sent,I r.log.base,r.log.snap.sv,xe,xa,xs,xd,xo15,.bool vd]:=rfl;rw[hcell]at S18 J18;clear hcell;have hs18:=S17.cells;unfold stepC repC at hs18;have K18:=K17.trans (J18.weaken (T':=T71) (λt h=>h.elim));have b18:=(J18.keep n (by have:=K17.le;omega) (by omega) (λh=>h)).trans b15;have hsn2:(s=n)=False:=by simp;omega
   try simp only[↓E1,E4,seval, *]
   obtain⟨m18,hm18⟩:∃z,putS m15 s [I r.me,I r.nodes,I r.view,I r.normal,I r.status,I (max r.commit (min m.commit (last r.log))),.bool r.sent,I r.log.base,r.log.snap.sv,xe,xa,xs,xd,xo15,.bool vd]=z:=⟨_,rfl⟩
   rw[hm18]at S18 K18 b18;try rw[hm18]
   clear hs18 hsn2 J18;have ws18:=Qem (fz:=fz) S18.cells;have wb18:=Qem (fz:=fz) b18;obtain⟨⟨ek18,em18⟩,⟨ak18,am18⟩,⟨sk18,sm18⟩,⟨dk18,dm18⟩,ok18,om18⟩:=S18.ks;unfold msgC at wb18;unfold stepC repC at ws18;clear ws15 wb15;try simp only[↓E1,E4,seval, *]
   have hk:=hkH.out;rw[hTH.out,ask_at hmv.out]at hk;try simp only[List.append_nil]at hk
   have hk2:=hk _ _ _ _ _ _ _ _ S18 K18.trim;clear hk;try simp only[↓E1,E4,seval, *]
   all_goals exact hk2
  ·have hTH:=Hide.mk (hAH.out.trans hT);clear hT hcsH;have hmv:=Hide.mk (show m.view=r.view by have:=hvH.out;have:=of_decide_eq_false h1;omega);try simp only[↓E1,E4,seval, *]
   have hLa11:=ref16_Last H r.log xe;unfold lgC at hLa11;try simp only[↓E1,E4,seval, *]
   refine hLa11.q1 S1.free S1.rs.1 ?_;rintro _ n11 l11 rfl;clear hLa11;have S12:=S1.le l11;have K12:=K1.le2 l11;try simp only[↓E1,E4,seval, *]
   have hLa13:=ref16_Last H r.log xe;unfold lgC at hLa13;try simp only[↓E1,E4,seval, *]
   refine hLa13.q1 S12.free S12.rs.1 ?_;rintro _ n13 l13 rfl;clear hLa13;have S14:=S12.le l13;have K14:=K12.le2 l13;try simp only[↓E1,E4,seval, *]
   have S15:=S14.put (r':=Qe4 r m.commit) (vd':=vd) rfl rfl rfl rfl;have J15:Kp (λ_=>False) s _ _ _ _ _ _:=S14.kput (c:=stepC (Qe4 r m.commit) xe xa xs xd xo vd);have hcell:stepC (Qe4 r m.commit) xe xa xs xd xo vd=[I r.me,I r.nodes,I r.view,I r.normal,I r.status,I (max r.commit (min m.commit (last r.log))),.bool r.sent,I r.log.base,r.log.snap.sv,xe,xa,xs,xd,xo,.bool vd]:=rfl;rw[hcell]at S15 J15;clear hcell;have hs15:=S14.cells;unfold stepC repC at hs15;have K15:=K14.trans (J15.weaken (T':=T71) (λt h=>h.elim));have b15:=(J15.keep n (by have:=K14.le;omega) (by omega) (λh=>h)).trans b1;have hsn2:(s=n)=False:=by simp;omega
   try simp only[↓E1,E4,seval, *]
   obtain⟨m15,hm15⟩:∃z,putS m1 s [I r.me,I r.nodes,I r.view,I r.normal,I r.status,I (max r.commit (min m.commit (last r.log))),.bool r.sent,I r.log.base,r.log.snap.sv,xe,xa,xs,xd,xo,.bool vd]=z:=⟨_,rfl⟩
   rw[hm15]at S15 K15 b15;try rw[hm15]
   clear hs15 hsn2 J15;have ws15:=Qem (fz:=fz) S15.cells;have wb15:=Qem (fz:=fz) b15;obtain⟨⟨ek15,em15⟩,⟨ak15,am15⟩,⟨sk15,sm15⟩,⟨dk15,dm15⟩,ok15,om15⟩:=S15.ks;unfold msgC at wb15;unfold stepC repC at ws15;clear ws1 wb1;try simp only[↓E1,E4,seval, *]
   have hk:=hkH.out;rw[hTH.out]at hk;try simp only[List.append_nil]at hk
   have hk2:=hk _ _ _ _ _ _ _ _ S15 K15.trim;clear hk;try simp only[↓E1,E4,seval, *]
   all_goals exact hk2
  ·have hTH:=Hide.mk (hAH.out.trans hT);clear hT hcsH;have hmv:=Hide.mk (show m.view=r.view by have:=hvH.out;have:=of_decide_eq_false h1;omega);try simp only[↓E1,E4,seval, *]
   have hLa11:=ref16_Last H r.log xe;unfold lgC at hLa11;try simp only[↓E1,E4,seval, *]
   refine hLa11.q1 S1.free S1.rs.1 ?_;rintro _ n11 l11 rfl;clear hLa11;have S12:=S1.le l11;have K12:=K1.le2 l11;try simp only[↓E1,E4,seval, *]
   have hLa13:=ref16_Last H r.log xe;unfold lgC at hLa13;try simp only[↓E1,E4,seval, *]
   refine hLa13.q1 S12.free S12.rs.1 ?_;rintro _ n13 l13 rfl;clear hLa13;have S14:=S12.le l13;have K14:=K12.le2 l13;try simp only[↓E1,E4,seval, *]
   have hLa15:=ref16_Last H r.log xe;unfold lgC at hLa15;try simp only[↓E1,E4,seval, *]
   refine hLa15.q1 S14.free S14.rs.1 ?_;rintro _ n15 l15 rfl;clear hLa15;have S16:=S14.le l15;have K16:=K14.le2 l15;try simp only[↓E1,E4,seval, *]
   have hLa17:=ref16_Last H r.log xe;unfold lgC at hLa17;try simp only[↓E1,E4,seval, *]
   refine hLa17.q1 S16.free S16.rs.1 ?_;rintro _ n17 l17 rfl;clear hLa17;have S18:=S16.le l17;have K18:=K16.le2 l17;try simp only[↓E1,E4,seval, *]
   have hSd:=λ(k:KT Prop) (w:WK k)=>Qga H S18 m.frm ⟨10,0,0,m.view,0,last r.log,0,0,0,0,0,0,0,0,tx0,[],⟨0,tx0,[]⟩,tx0⟩ .nsl .nsl (.inl ⟨.inl rfl,rfl⟩) (nilE _) ⟨by simp,by simp⟩ (by omega) (k:=k) (w:=w);refine hSd _ _ λm19 n19 o19 xo19 S19 J19=>?_;clear hSd;have hz19:o19 n=0:=by rw[J19.tags n (by have:=K18.le;omega)];exact hon
   have lt19:n<n19:=by have:=J19.le;omega
   have K19:=K18.trans (J19.weaken (T':=T71) (λt h=>.inl h));have b19:=(J19.keep n (by have:=K18.le;omega) (by omega) (by rw[hon];omega)).trans b1;have ws19:=Qem (fz:=fz) S19.cells;have wb19:=Qem (fz:=fz) b19;obtain⟨⟨ek19,em19⟩,⟨ak19,am19⟩,⟨sk19,sm19⟩,⟨dk19,dm19⟩,ok19,om19⟩:=S19.ks;unfold msgC at wb19;unfold stepC repC at ws19;clear ws1 wb1;try simp only[↓E1,E4,seval, *]
   have hLa20:=ref16_Last H r.log xe;unfold lgC at hLa20;try simp only[↓E1,E4,seval, *]
   refine hLa20.q1 S19.free S19.rs.1 ?_;rintro _ n20 l20 rfl;clear hLa20;have S21:=S19.le l20;have K21:=K19.le2 l20;try simp only[↓E1,E4,seval, *]
   have S22:=S21.put (r':=Qe4 r m.commit) (vd':=vd) rfl rfl rfl rfl;have J22:Kp (λ_=>False) s _ _ _ _ _ _:=S21.kput (c:=stepC (Qe4 r m.commit) xe xa xs xd xo19 vd);have hcell:stepC (Qe4 r m.commit) xe xa xs xd xo19 vd=[I r.me,I r.nodes,I r.view,I r.normal,I r.status,I (max r.commit (min m.commit (last r.log))),.bool r.sent,I r.log.base,r.log.snap.sv,xe,xa,xs,xd,xo19,.bool vd]:=rfl;rw[hcell]at S22 J22;clear hcell;have hs22:=S21.cells;unfold stepC repC at hs22;have K22:=K21.trans (J22.weaken (T':=T71) (λt h=>h.elim));have b22:=(J22.keep n (by have:=K21.le;omega) (by omega) (λh=>h)).trans b19;have hsn2:(s=n)=False:=by simp;omega
   try simp only[↓E1,E4,seval, *]
   obtain⟨m22,hm22⟩:∃z,putS m19 s [I r.me,I r.nodes,I r.view,I r.normal,I r.status,I (max r.commit (min m.commit (last r.log))),.bool r.sent,I r.log.base,r.log.snap.sv,xe,xa,xs,xd,xo19,.bool vd]=z:=⟨_,rfl⟩
   rw[hm22]at S22 K22 b22;try rw[hm22]
   clear hs22 hsn2 J22;have gg22:decide (m.at'<=last (Qe4 r m.commit).log)=false:=h6;have ws22:=Qem (fz:=fz) S22.cells;have wb22:=Qem (fz:=fz) b22;obtain⟨⟨ek22,em22⟩,⟨ak22,am22⟩,⟨sk22,sm22⟩,⟨dk22,dm22⟩,ok22,om22⟩:=S22.ks;unfold msgC at wb22;unfold stepC repC at ws22;clear ws19 wb19;try simp only[↓E1,E4,seval, *]
   have hLa23:=ref16_Last H (Qe4 r m.commit).log xe;unfold lgC at hLa23;try simp only[↓E1,E4,seval, *]
   refine hLa23.q1 S22.free S22.rs.1 ?_;rintro _ n23 l23 rfl;clear hLa23;have S24:=S22.le l23;have K24:=K22.le2 l23;try simp only[↓E1,E4,seval, *]
   have hk:=hkH.out;rw[hTH.out,ask_at hmv.out]at hk;try simp only[List.append_nil]at hk
   have hk2:=hk _ _ _ _ _ _ _ _ S24 K24.trim;clear hk;try simp only[↓E1,E4,seval, *]
   all_goals exact hk2
  ·have hTH:=Hide.mk (hAH.out.trans hT);clear hT hcsH;have hmv:=Hide.mk (show m.view=r.view by have:=hvH.out;have:=of_decide_eq_false h1;omega);try simp only[↓E1,E4,seval, *]
   have hLa11:=ref16_Last H r.log xe;unfold lgC at hLa11;try simp only[↓E1,E4,seval, *]
   refine hLa11.q1 S1.free S1.rs.1 ?_;rintro _ n11 l11 rfl;clear hLa11;have S12:=S1.le l11;have K12:=K1.le2 l11;try simp only[↓E1,E4,seval, *]
   have hLa13:=ref16_Last H r.log xe;unfold lgC at hLa13;try simp only[↓E1,E4,seval, *]
   refine hLa13.q1 S12.free S12.rs.1 ?_;rintro _ n13 l13 rfl;clear hLa13;have S14:=S12.le l13;have K14:=K12.le2 l13;try simp only[↓E1,E4,seval, *]
   have hLa15:=ref16_Last H r.log xe;unfold lgC at hLa15;try simp only[↓E1,E4,seval, *]
   refine hLa15.q1 S14.free S14.rs.1 ?_;rintro _ n15 l15 rfl;clear hLa15;have S16:=S14.le l15;have K16:=K14.le2 l15;try simp only[↓E1,E4,seval, *]
   simp only[↓E1,E2,seval,Qx7,Qek,Qel, *,E3];have hF0:Free fz [] n15:=λj=>S16.fzl _ (by have:=K16.le;omega);obtain⟨h91,h92⟩:=Qg9 (Sl.mono hmf (sub1 hF0 (c:=[])));rw[h91];clear h91;refine⟨h92,Qha (fz:=with' m1 fz) (mu:=[]) S16.free (Qfc (by rw[List.length_map];have:=hmz.bat;omega) (by decide) (by decide)) pt_ok (λb' new n50 gN hb'=>?_)⟩;have g50:=gN.join S16.free (Nat.le_refl _);rw[<-Qgd]at hb';have l50:=g50.le;have l51:=K16.le;obtain⟨-,-,bk50,bm50⟩:=SlX.len hb';have gB:Gr n15 fz m1 ((n50,[I m.view,I m.client,I m.session,I m.number,b'])::(new++m1)) n15 (n50+1):=g50.cons (by omega) _;have wB:=Qem (fz:=fz) (show Ev.look ((n50,[I m.view,I m.client,I m.session,I m.number,b'])::(new++m1)) n50=some [I m.view,I m.client,I m.session,I m.number,b'] by rw[Qer,if_pos rfl]);have hbF:PtsX (F2 (trim o n) n15 (with' ((n50,[I m.view,I m.client,I m.session,I m.number,b'])::(new++m1)) fz)) b' (folE m).batch:=SlX.mono hb' (λj B hj=>by
    obtain⟨p1,p2⟩:=From.el hj;have p3:=g50.free.lt p2;exact F2.at (.inl p1) (by rw[Qfl,if_neg (by omega)];exact p2))
   have hs5:=((gB.own s (by omega)).trans S16.cells)
   have ws50:=Qem (fz:=fz) hs5;have wm50:=Qem (fz:=fz) ((gB.own n (by omega)).trans b1);unfold stepC repC at ws50;unfold msgC at wm50;have hlen:r.log.ents.length<=1000000:=by have:=Qiw hrH.out;omega
   clear gN hF0;try simp only[↓E1,E4,seval, *]
   refine SW.appE S16 gB (e:=folE m) hbF hlen λm60 o60 xe60 hko hs60 S60 J60 hb60 hnew=>?_;have hkom:=Qhm hko;unfold stepC repC at hs60;clear hnew hb60 hbF gB wB ws50 wm50 hs5;have hcell:stepC (addE r (folE m)) xe60 xa xs xd xo vd=[I r.me,I r.nodes,I r.view,I r.normal,I r.status,I r.commit,.bool r.sent,I r.log.base,r.log.snap.sv,xe60,xa,xs,xd,xo,.bool vd]:=rfl;rw[hcell]at S60 J60;clear hcell;have hm60:=(J60.keep n (by have:=K16.le;omega) (by omega) (by rw[hon];omega)).trans b1;rw[Qen,if_neg (by omega)]at hm60;have wm60:=Qem (fz:=fz) hm60;unfold msgC at wm60;have hsn2:(s=n)=False:=by simp;omega
   clear hm60;try simp only[↓E1,E4,seval, *]
   obtain⟨m70,hm70⟩:∃z,putS m60 s [I r.me,I r.nodes,I r.view,I r.normal,I r.status,I r.commit,.bool r.sent,I r.log.base,r.log.snap.sv,xe60,xa,xs,xd,xo,.bool vd]=z:=⟨_,rfl⟩
   rw[hm70]at S60 J60;try rw[hm70]
   clear hs60 wm60 hsn2;obtain⟨ra,hra⟩:∃z,addE r (folE m)=z:=⟨_,rfl⟩
   rw[hra]at S60;have hla:last ra.log=last r.log+1:=by rw[<-hra];exact Qpy hrH.out _
   have hf0:r.me=ra.me:=by rw[<-hra];rfl
   have hf1:r.nodes=ra.nodes:=by rw[<-hra];rfl
   have hf2:r.view=ra.view:=by rw[<-hra];rfl
   have hf3:r.normal=ra.normal:=by rw[<-hra];rfl
   have hf4:r.status=ra.status:=by rw[<-hra];rfl
   have hf5:r.commit=ra.commit:=by rw[<-hra];rfl
   have hf6:r.sent=ra.sent:=by rw[<-hra];rfl
   have hf7:r.log.base=ra.log.base:=by rw[<-hra];rfl
   have hf8:r.log.snap=ra.log.snap:=by rw[<-hra];rfl
   have hm71:=hm70;simp only[hf0,hf1,hf2,hf3,hf4,hf5,hf6,hf7,hf8]at hm70⊢;clear hf0 hf1 hf2 hf3 hf4 hf5 hf6 hf7 hf8;have hat:=of_decide_eq_true h5;have ggA:decide (m.at'<=last ra.log)=true:=decide_eq_true (by rw[hla];omega);have ggN:decide (m.at'=last ra.log+1)=false:=decide_eq_false (by rw[hla];omega);have hwA:IntKind.i64.wrap (last ra.log+1)=last ra.log+1:=by have:=Qiw hrH.out;exact wrap64 (by rw[hla];omega) (by rw[hla];omega)
   have hma:=Hide.mk (show r.me=ra.me by rw[<-hra];rfl);have hva:=Hide.mk (show ra.view=m.view by rw[<-hra];exact hmv.out.symm);have hraH:=Hide.mk hra;clear hra hla h6 hat;have hz60:o60 n=0:=by rw[J60.tags n (by have:=K16.le;omega)];exact hon
   have lt60:n<n50+1+1:=by omega
   have K60:=K16.trans (J60.weaken (T':=T71) (λt h=>.inr h));have b60:=(J60.keep n (by have:=K16.le;omega) (by omega) (by rw[hon];omega)).trans b1;have ws60:=Qem (fz:=fz) S60.cells;have wb60:=Qem (fz:=fz) b60;obtain⟨⟨ek60,em60⟩,⟨ak60,am60⟩,⟨sk60,sm60⟩,⟨dk60,dm60⟩,ok60,om60⟩:=S60.ks;unfold msgC at wb60;unfold stepC repC at ws60;clear ws1 wb1;try simp only[↓E1,E4,seval, *]
   have hLa62:=ref16_Last H ra.log xe60;unfold lgC at hLa62;try simp only[↓E1,E4,seval, *]
   refine hLa62.q1 S60.free S60.rs.1 ?_;rintro _ n62 l62 rfl;clear hLa62;have S63:=S60.le l62;have K63:=K60.le2 l62;try simp only[↓E1,E4,seval, *]
   have hLa64:=ref16_Last H ra.log xe60;unfold lgC at hLa64;try simp only[↓E1,E4,seval, *]
   refine hLa64.q1 S63.free S63.rs.1 ?_;rintro _ n64 l64 rfl;clear hLa64;have S65:=S63.le l64;have K65:=K63.le2 l64;try simp only[↓E1,E4,seval, *]
   have S66:=S65.put (r':=Qe4 ra m.commit) (vd':=vd) rfl rfl rfl rfl;have J66:Kp (λ_=>False) s _ _ _ _ _ _:=S65.kput (c:=stepC (Qe4 ra m.commit) xe60 xa xs xd xo vd);have hcell:stepC (Qe4 ra m.commit) xe60 xa xs xd xo vd=[I ra.me,I ra.nodes,I ra.view,I ra.normal,I ra.status,I (max ra.commit (min m.commit (last ra.log))),.bool ra.sent,I ra.log.base,ra.log.snap.sv,xe60,xa,xs,xd,xo,.bool vd]:=rfl;rw[hcell]at S66 J66;clear hcell;have hs66:=S65.cells;unfold stepC repC at hs66;have K66:=K65.trans (J66.weaken (T':=T71) (λt h=>h.elim));have b66:=(J66.keep n (by have:=K65.le;omega) (by omega) (λh=>h)).trans b60;have hsn2:(s=n)=False:=by simp;omega
   try simp only[↓E1,E4,seval, *]
   obtain⟨m66,hm66⟩:∃z,putS m70 s [I ra.me,I ra.nodes,I ra.view,I ra.normal,I ra.status,I (max ra.commit (min m.commit (last ra.log))),.bool ra.sent,I ra.log.base,ra.log.snap.sv,xe60,xa,xs,xd,xo,.bool vd]=z:=⟨_,rfl⟩
   rw[hm66]at S66 K66 b66;try rw[hm66]
   clear hs66 hsn2 J66;have gg66:decide (m.at'<=last (Qe4 ra m.commit).log)=true:=ggA;have ws66:=Qem (fz:=fz) S66.cells;have wb66:=Qem (fz:=fz) b66;obtain⟨⟨ek66,em66⟩,⟨ak66,am66⟩,⟨sk66,sm66⟩,⟨dk66,dm66⟩,ok66,om66⟩:=S66.ks;unfold msgC at wb66;unfold stepC repC at ws66;clear ws60 wb60;try simp only[↓E1,E4,seval, *]
   have hLa67:=ref16_Last H (Qe4 ra m.commit).log xe60;unfold lgC at hLa67;try simp only[↓E1,E4,seval, *]
   refine hLa67.q1 S66.free S66.rs.1 ?_;rintro _ n67 l67 rfl;clear hLa67;have S68:=S66.le l67;have K68:=K66.le2 l67;try simp only[↓E1,E4,seval, *]
   have hLa69:=ref16_Last H (Qe4 ra m.commit).log xe60;unfold lgC at hLa69;try simp only[↓E1,E4,seval, *]
   refine hLa69.q1 S68.free S68.rs.1 ?_;rintro _ n69 l69 rfl;clear hLa69;have S70:=S68.le l69;have K70:=K68.le2 l69;try simp only[↓E1,E4,seval, *]
   have hSd:=λ(k:KT Prop) (w:WK k)=>Qga H S70 m.frm ⟨5,0,0,m.view,0,last (Qe4 ra m.commit).log,0,0,0,0,0,0,0,0,tx0,[],⟨0,tx0,[]⟩,tx0⟩ .nsl .nsl (.inl ⟨.inl rfl,rfl⟩) (nilE _) ⟨by simp,by simp⟩ (by omega) (k:=k) (w:=w);refine hSd _ _ λm71 n71 o71 xo71 S71 J71=>?_;clear hSd;have hz71:o71 n=0:=by rw[J71.tags n (by have:=K70.le;omega)];exact hz60
   have lt71:n<n71:=by have:=J71.le;omega
   have K71:=K70.trans (J71.weaken (T':=T71) (λt h=>.inl h));have b71:=(J71.keep n (by have:=K70.le;omega) (by omega) (by rw[hz60];omega)).trans b66;have ws71:=Qem (fz:=fz) S71.cells;have wb71:=Qem (fz:=fz) b71;obtain⟨⟨ek71,em71⟩,⟨ak71,am71⟩,⟨sk71,sm71⟩,⟨dk71,dm71⟩,ok71,om71⟩:=S71.ks;unfold msgC at wb71;unfold stepC repC at ws71;clear ws66 wb66;try simp only[↓E1,E4,seval, *]
   have hk:=hkH.out;rw[hTH.out,hraH.out,Qww (show(Qe4 ra m.commit).view=m.view from hva.out),hma.out]at hk;try simp only[List.append_nil]at hk
   have hk2:=hk _ _ _ _ _ _ _ _ S71 K71.trim;clear hk;try simp only[↓E1,E4,seval, *]
   all_goals exact hk2
  ·have hTH:=Hide.mk (hAH.out.trans hT);clear hT hcsH;have hmv:=Hide.mk (show m.view=r.view by have:=hvH.out;have:=of_decide_eq_false h1;omega);try simp only[↓E1,E4,seval, *]
   have hLa11:=ref16_Last H r.log xe;unfold lgC at hLa11;try simp only[↓E1,E4,seval, *]
   refine hLa11.q1 S1.free S1.rs.1 ?_;rintro _ n11 l11 rfl;clear hLa11;have S12:=S1.le l11;have K12:=K1.le2 l11;try simp only[↓E1,E4,seval, *]
   have hLa13:=ref16_Last H r.log xe;unfold lgC at hLa13;try simp only[↓E1,E4,seval, *]
   refine hLa13.q1 S12.free S12.rs.1 ?_;rintro _ n13 l13 rfl;clear hLa13;have S14:=S12.le l13;have K14:=K12.le2 l13;try simp only[↓E1,E4,seval, *]
   have hLa15:=ref16_Last H r.log xe;unfold lgC at hLa15;try simp only[↓E1,E4,seval, *]
   refine hLa15.q1 S14.free S14.rs.1 ?_;rintro _ n15 l15 rfl;clear hLa15;have S16:=S14.le l15;have K16:=K14.le2 l15;try simp only[↓E1,E4,seval, *]
   have hLa17:=ref16_Last H r.log xe;unfold lgC at hLa17;try simp only[↓E1,E4,seval, *]
   refine hLa17.q1 S16.free S16.rs.1 ?_;rintro _ n17 l17 rfl;clear hLa17;have S18:=S16.le l17;have K18:=K16.le2 l17;try simp only[↓E1,E4,seval, *]
   have hLa19:=ref16_Last H r.log xe;unfold lgC at hLa19;try simp only[↓E1,E4,seval, *]
   refine hLa19.q1 S18.free S18.rs.1 ?_;rintro _ n19 l19 rfl;clear hLa19;have S20:=S18.le l19;have K20:=K18.le2 l19;try simp only[↓E1,E4,seval, *]
   have S21:=S20.put (r':=Qe4 r m.commit) (vd':=vd) rfl rfl rfl rfl;have J21:Kp (λ_=>False) s _ _ _ _ _ _:=S20.kput (c:=stepC (Qe4 r m.commit) xe xa xs xd xo vd);have hcell:stepC (Qe4 r m.commit) xe xa xs xd xo vd=[I r.me,I r.nodes,I r.view,I r.normal,I r.status,I (max r.commit (min m.commit (last r.log))),.bool r.sent,I r.log.base,r.log.snap.sv,xe,xa,xs,xd,xo,.bool vd]:=rfl;rw[hcell]at S21 J21;clear hcell;have hs21:=S20.cells;unfold stepC repC at hs21;have K21:=K20.trans (J21.weaken (T':=T71) (λt h=>h.elim));have b21:=(J21.keep n (by have:=K20.le;omega) (by omega) (λh=>h)).trans b1;have hsn2:(s=n)=False:=by simp;omega
   try simp only[↓E1,E4,seval, *]
   obtain⟨m21,hm21⟩:∃z,putS m1 s [I r.me,I r.nodes,I r.view,I r.normal,I r.status,I (max r.commit (min m.commit (last r.log))),.bool r.sent,I r.log.base,r.log.snap.sv,xe,xa,xs,xd,xo,.bool vd]=z:=⟨_,rfl⟩
   rw[hm21]at S21 K21 b21;try rw[hm21]
   clear hs21 hsn2 J21;have gg21:decide (m.at'<=last (Qe4 r m.commit).log)=false:=h7;have ws21:=Qem (fz:=fz) S21.cells;have wb21:=Qem (fz:=fz) b21;obtain⟨⟨ek21,em21⟩,⟨ak21,am21⟩,⟨sk21,sm21⟩,⟨dk21,dm21⟩,ok21,om21⟩:=S21.ks;unfold msgC at wb21;unfold stepC repC at ws21;clear ws1 wb1;try simp only[↓E1,E4,seval, *]
   have hLa22:=ref16_Last H (Qe4 r m.commit).log xe;unfold lgC at hLa22;try simp only[↓E1,E4,seval, *]
   refine hLa22.q1 S21.free S21.rs.1 ?_;rintro _ n22 l22 rfl;clear hLa22;have S23:=S21.le l22;have K23:=K21.le2 l22;try simp only[↓E1,E4,seval, *]
   have hk:=hkH.out;rw[hTH.out]at hk;try simp only[List.append_nil]at hk
   have hk2:=hk _ _ _ _ _ _ _ _ S23 K23.trim;clear hk;try simp only[↓E1,E4,seval, *]
   all_goals exact hk2
  ·have hTH:=Hide.mk (hAH.out.trans hT);clear hT hcsH;have hmv:=Hide.mk (show m.view=r.view by have:=hvH.out;have:=of_decide_eq_false h1;omega);try simp only[↓E1,E4,seval, *]
   have hLa11:=ref16_Last H r.log xe;unfold lgC at hLa11;try simp only[↓E1,E4,seval, *]
   refine hLa11.q1 S1.free S1.rs.1 ?_;rintro _ n11 l11 rfl;clear hLa11;have S12:=S1.le l11;have K12:=K1.le2 l11;try simp only[↓E1,E4,seval, *]
   have hLa13:=ref16_Last H r.log xe;unfold lgC at hLa13;try simp only[↓E1,E4,seval, *]
   refine hLa13.q1 S12.free S12.rs.1 ?_;rintro _ n13 l13 rfl;clear hLa13;have S14:=S12.le l13;have K14:=K12.le2 l13;try simp only[↓E1,E4,seval, *]
   have hLa15:=ref16_Last H r.log xe;unfold lgC at hLa15;try simp only[↓E1,E4,seval, *]
   refine hLa15.q1 S14.free S14.rs.1 ?_;rintro _ n15 l15 rfl;clear hLa15;have S16:=S14.le l15;have K16:=K14.le2 l15;try simp only[↓E1,E4,seval, *]
   have hLa17:=ref16_Last H r.log xe;unfold lgC at hLa17;try simp only[↓E1,E4,seval, *]
   refine hLa17.q1 S16.free S16.rs.1 ?_;rintro _ n17 l17 rfl;clear hLa17;have S18:=S16.le l17;have K18:=K16.le2 l17;try simp only[↓E1,E4,seval, *]
   have S19:=S18.put (r':=Qe4 r m.commit) (vd':=vd) rfl rfl rfl rfl;have J19:Kp (λ_=>False) s _ _ _ _ _ _:=S18.kput (c:=stepC (Qe4 r m.commit) xe xa xs xd xo vd);have hcell:stepC (Qe4 r m.commit) xe xa xs xd xo vd=[I r.me,I r.nodes,I r.view,I r.normal,I r.status,I (max r.commit (min m.commit (last r.log))),.bool r.sent,I r.log.base,r.log.snap.sv,xe,xa,xs,xd,xo,.bool vd]:=rfl;rw[hcell]at S19 J19;clear hcell;have hs19:=S18.cells;unfold stepC repC at hs19;have K19:=K18.trans (J19.weaken (T':=T71) (λt h=>h.elim));have b19:=(J19.keep n (by have:=K18.le;omega) (by omega) (λh=>h)).trans b1;have hsn2:(s=n)=False:=by simp;omega
   try simp only[↓E1,E4,seval, *]
   obtain⟨m19,hm19⟩:∃z,putS m1 s [I r.me,I r.nodes,I r.view,I r.normal,I r.status,I (max r.commit (min m.commit (last r.log))),.bool r.sent,I r.log.base,r.log.snap.sv,xe,xa,xs,xd,xo,.bool vd]=z:=⟨_,rfl⟩
   rw[hm19]at S19 K19 b19;try rw[hm19]
   clear hs19 hsn2 J19;have gg19:decide (m.at'<=last (Qe4 r m.commit).log)=true:=h6;have ws19:=Qem (fz:=fz) S19.cells;have wb19:=Qem (fz:=fz) b19;obtain⟨⟨ek19,em19⟩,⟨ak19,am19⟩,⟨sk19,sm19⟩,⟨dk19,dm19⟩,ok19,om19⟩:=S19.ks;unfold msgC at wb19;unfold stepC repC at ws19;clear ws1 wb1;try simp only[↓E1,E4,seval, *]
   have hLa20:=ref16_Last H (Qe4 r m.commit).log xe;unfold lgC at hLa20;try simp only[↓E1,E4,seval, *]
   refine hLa20.q1 S19.free S19.rs.1 ?_;rintro _ n20 l20 rfl;clear hLa20;have S21:=S19.le l20;have K21:=K19.le2 l20;try simp only[↓E1,E4,seval, *]
   have hLa22:=ref16_Last H (Qe4 r m.commit).log xe;unfold lgC at hLa22;try simp only[↓E1,E4,seval, *]
   refine hLa22.q1 S21.free S21.rs.1 ?_;rintro _ n22 l22 rfl;clear hLa22;have S23:=S21.le l22;have K23:=K21.le2 l22;try simp only[↓E1,E4,seval, *]
   have hSd:=λ(k:KT Prop) (w:WK k)=>Qga H S23 m.frm ⟨5,0,0,m.view,0,last (Qe4 r m.commit).log,0,0,0,0,0,0,0,0,tx0,[],⟨0,tx0,[]⟩,tx0⟩ .nsl .nsl (.inl ⟨.inl rfl,rfl⟩) (nilE _) ⟨by simp,by simp⟩ (by omega) (k:=k) (w:=w);refine hSd _ _ λm24 n24 o24 xo24 S24 J24=>?_;clear hSd;have hz24:o24 n=0:=by rw[J24.tags n (by have:=K23.le;omega)];exact hon
   have lt24:n<n24:=by have:=J24.le;omega
   have K24:=K23.trans (J24.weaken (T':=T71) (λt h=>.inl h));have b24:=(J24.keep n (by have:=K23.le;omega) (by omega) (by rw[hon];omega)).trans b19;have ws24:=Qem (fz:=fz) S24.cells;have wb24:=Qem (fz:=fz) b24;obtain⟨⟨ek24,em24⟩,⟨ak24,am24⟩,⟨sk24,sm24⟩,⟨dk24,dm24⟩,ok24,om24⟩:=S24.ks;unfold msgC at wb24;unfold stepC repC at ws24;clear ws19 wb19;try simp only[↓E1,E4,seval, *]
   have hk:=hkH.out;rw[hTH.out,Qww (show(Qe4 r m.commit).view=m.view from hmv.out.symm)]at hk;try simp only[List.append_nil]at hk
   have hk2:=hk _ _ _ _ _ _ _ _ S24 K24.trim;clear hk;try simp only[↓E1,E4,seval, *]
   all_goals exact hk2
end
def setS (r:Rep) (m:Msg) (N:Nat):Rep×List Msg×Bool:=if decide (m.frm=prim m.view r.nodes)then Qhp r m N else(r,[],false)
theorem given_go {r r1:Rep} {m:Msg} {N:Nat} (h:Qnb r m=false) (hr:takeR {r with view:=m.view} m.log m.commit N=some r1):Qhp r m N=(r1,[{ackG r1 with frm:=r1.me,to:=m.frm}],false):=by unfold Qhp;rw[if_neg (by rw[h];exact Bool.false_ne_true),hr]
theorem given_no {r:Rep} {m:Msg} {N:Nat} (h:Qnb r m=false) (hr:takeR {r with view:=m.view} m.log m.commit N=none):Qhp r m N=({r with view:=m.view},[],true):=by unfold Qhp;rw[if_neg (by rw[h];exact Bool.false_ne_true),hr]
def set_t:ACode:=match b_Qcj with|.seq _ (.seq _ (.seq _ c))=>c|c=>c
def set_h (t:ACode):ACode:=match b_Qcj with|.seq a (.seq b (.seq c _))=>.seq a (.seq b (.seq c t))|c=>c
theorem set_eq:b_Qcj=set_h set_t:=rfl
section
variable {P:Program} (H:Fs P)
include H
theorem Qta {lo:Nat} {fz:Fz} {s:Nat} {o:Nat->Nat} {mu:St} {n:Nat} {r:Rep} {out:List Msg} {xe xa xs xd xo:SV} (S:SW lo fz s o mu n r out false xe xa xs xd xo) (m:Msg) (yb ye:SV)
 (hm:MsgS (with' mu fz) m yb ye) (hml:EntsR (Low lo (with' mu fz)) ye m.log.ents) (hmz:MsgSz m) (hok1:Ok r.log) (hok2:Ok m.log) (hfm:decide (m.frm=r.me)=false) {N:Nat} (hN:r.nodes=(N:Int)) (hN7:N<=7) (hl:out.length<=800) {k:KT Prop} {w:WK k}
 (hk:∀mu' n' o' xe' xa' xs' xd' xo',SW lo fz s o' mu' n' (setS r m N).1 (out++(setS r m N).2.1) (setS r m N).2.2 xe' xa' xs' xd' xo'->Kp T71 s o o' mu n mu' n'->k noVal mu' n'):CPh P n_Qcj [.one (.optr s 0),.ag (msgC m yb ye)] fz mu n k w:=by
 refine CP_of H.Qcj H.mx 0 ?_;obtain⟨-,-,ybk,ybm⟩:=hm.1.len;obtain⟨-,-,yek,yem⟩:=hm.2.len;have hsn:s<n:=S.slt;have gA:=(Gr.refl (lo:=n) S.free).cons (Nat.le_refl _) (msgC m yb ye);have S1:=S.trim.gr gA;have b1:Ev.look ((n,msgC m yb ye)::mu) n=some (msgC m yb ye):=by rw[Qer,if_pos rfl]
 have K1:Kp T71 s (trim o n) (trim o n) mu n ((n,msgC m yb ye)::mu) (n+1):=Gr.kp gA;have hm1:=MsgS.mono (gA.sub S.free (Nat.le_refl _)) hm;have hon:trim o n n=0:=Qhr (Nat.le_refl _);have hlon:=S.lon;obtain⟨m1,hm1e⟩:∃mz:St,((n,msgC m yb ye)::mu)=mz:=⟨_,rfl⟩
 rw[hm1e]at gA S1 b1 K1 hm1;obtain⟨⟨xek,xem⟩,⟨xak,xam⟩,⟨xsk,xsm⟩,⟨xdk,xdm⟩,xok,xom⟩:=S1.ks;have ws1:=Qem (fz:=fz) S1.cells;have wb1:=Qem (fz:=fz) b1;have hkH:=Hide.mk hk;have hNH:=Hide.mk hN;clear hk hN;have hLm:=ref16_Last H m.log ye;have hLa:=ref16_Last H r.log xe;have hPm:=Qfq H s r xe xa xs xd xo false m.view;unfold lgC at hLm hLa;rw[i_Qcj,dc_at set_eq];unfold msgC at hm1e wb1⊢;unfold stepC repC at ws1;cases h0:decide (m.frm=prim m.view r.nodes)with
 |false=>
  have hT:setS r m N=(r,[],false):=by unfold setS;rw[h0];rfl
  have hTH:=Hide.mk hT;clear hT;unfold set_h b_Qcj;refine dW ?_;simp only[↓E1,E4,seval, *];refine hPm.q1 S1.free (Qem S1.cells) ?_;rintro _ n2 l2 rfl;have S2:=S1.le l2;have K2:=K1.le2 l2;have hk:=hkH.out;rw[hTH.out]at hk;try simp only[List.append_nil]at hk
  have hk2:=hk _ _ _ _ _ _ _ _ S2 K2.trim;clear hk;try simp only[↓E1,E4,seval, *]
  all_goals exact hk2
 |true=>
  have hne:decide (r.me=prim m.view r.nodes)=false:=decide_eq_false λe=>of_decide_eq_false hfm ((of_decide_eq_true h0).trans e.symm);have hst:setS r m N=Qhp r m N:=by unfold setS;rw[h0,if_pos rfl]
  have tail:Hide (∀(e:Nat->Nat->AV) (n':Nat),n+1<=n'->Qnb r m=false->e 0 0=.one (.optr s 0)->e 0 3=.one (.optr n 0)->dcode pOrc False (CP P) fz 0 set_t (tmE 108 e) m1 n' (endP fz [] k)):=⟨λe n' hn' hG e0 e3=>by
   clear hLm hLa;unfold set_t b_Qcj;refine dW ?_;have S2:=(S1.le hn').put (r':={r with view:=m.view}) (vd':=false) rfl rfl rfl rfl;have J2:Kp (λ_=>False) s _ _ _ _ _ _:=(S1.le hn').kput (c:=stepC {r with view:=m.view} xe xa xs xd xo false);have K2:=(K1.le2 hn').trans (J2.weaken (T':=T71) (λt h=>h.elim));have b2:=(J2.keep n (by omega) (by omega) (λh=>h)).trans b1;have hcell:stepC {r with view:=m.view} xe xa xs xd xo false=[I r.me,I r.nodes,I m.view,I r.normal,I r.status,I r.commit,.bool r.sent,I r.log.base,r.log.snap.sv,xe,xa,xs,xd,xo,.bool false]:=rfl;have hm2:EntsR (with' (putS m1 s (stepC {r with view:=m.view} xe xa xs xd xo false)) fz) ye m.log.ents:=EntsR.mono Low.sub (by rw[Low.kp K2 S.los S.lon (λj hj=>by rw[Qhh (by omega)];exact S.zero j hj) (by unfold T71;omega)];exact hml);rw[hcell]at S2 K2 b2 hm2;have hs1:=S1.cells;unfold stepC repC at hs1;have wb2:=Qem (fz:=fz) b2;unfold msgC at wb2;clear hcell J2;have hTk:=λ(k:KT Prop) (w:WK k)=>Qpn H S2 m.log ye m.commit hm2 hmz.log hok1 hok2 hNH.out hN7 (k:=k) (w:=w);unfold lgC at hTk;simp only[↓E1,E4,seval, *];refine hTk _ _ ?_ ?_
   ·intro r1 hr1 m3 n3 o3 xe3 xa3 S3 J3;have hTH:=Hide.mk (hst.trans (given_go hG hr1));have hvw:r1.view=m.view:=by obtain⟨g,-,-,-,-,-,h⟩:=Qo1 hr1;exact h
    have hvw:=Hide.mk hvw;clear hr1 hTk;have K3:=K2.trans (J3.weaken (T':=T71) (λt h=>h.elim));have b3:=(J3.keep n (by omega) (by omega) (λh=>h)).trans b2;have hz3:o3 n=0:=by rw[J3.tags n (by omega)];exact hon
    clear ws1 wb1;have ws2:=()
    have lt3:n<n3:=by have:=J3.le;omega
    have ws3:=Qem (fz:=fz) S3.cells;have wb3:=Qem (fz:=fz) b3;obtain⟨⟨ek3,em3⟩,⟨ak3,am3⟩,⟨sk3,sm3⟩,⟨dk3,dm3⟩,ok3,om3⟩:=S3.ks;unfold msgC at wb3;unfold stepC repC at ws3;clear ws2 wb2;clear J3;try simp only[↓E1,E4,seval, *]
    have hLa11:=ref16_Last H r1.log xe3;unfold lgC at hLa11;try simp only[↓E1,E4,seval, *]
    refine hLa11.q1 S3.free S3.rs.1 ?_;rintro _ n11 l11 rfl;clear hLa11;have S12:=S3.le l11;have K12:=K3.le2 l11;try simp only[↓E1,E4,seval, *]
    have hSd:=λ(k:KT Prop) (w:WK k)=>Qga H S12 m.frm ⟨5,0,0,m.view,0,last r1.log,0,0,0,0,0,0,0,0,tx0,[],⟨0,tx0,[]⟩,tx0⟩ .nsl .nsl (.inl ⟨.inl rfl,rfl⟩) (nilE _) ⟨by simp,by simp⟩ (by omega) (k:=k) (w:=w);refine hSd _ _ λm13 n13 o13 xo13 S13 J13=>?_;clear hSd;have hz13:o13 n=0:=by rw[J13.tags n (by have:=K12.le;omega)];exact hz3
    have lt13:n<n13:=by have:=J13.le;omega
    have K13:=K12.trans (J13.weaken (T':=T71) (λt h=>.inl h));have b13:=(J13.keep n (by have:=K12.le;omega) (by omega) (by rw[hz3];omega)).trans b3;have ws13:=Qem (fz:=fz) S13.cells;have wb13:=Qem (fz:=fz) b13;obtain⟨⟨ek13,em13⟩,⟨ak13,am13⟩,⟨sk13,sm13⟩,⟨dk13,dm13⟩,ok13,om13⟩:=S13.ks;unfold msgC at wb13;unfold stepC repC at ws13;clear ws3 wb3;try simp only[↓E1,E4,seval, *]
    try simp only[↓E1,E4,seval, *]
    have hk:=hkH.out;rw[hTH.out,Qww hvw.out]at hk;try simp only[List.append_nil,Bool.or_false]at hk
    have hk2:=hk _ _ _ _ _ _ _ _ S13 K13.trim;clear hk;try simp only[↓E1,E4,seval, *]
    all_goals exact hk2
   ·intro hr1 m3 n3 o3 S3 J3;have hTH:=hst.trans (given_no hG hr1);have K3:=K2.trans (J3.weaken (T':=T71) (λt h=>h.elim));have ws3:=Qem (fz:=fz) S3.cells;unfold stepC repC at ws3;clear hTk hr1 ws1 wb1;have hk:=hkH.out;rw[hTH]at hk;simp only[List.append_nil,Bool.or_true]at hk;have hk2:=hk _ _ _ _ _ _ _ _ S3 K3.trim;clear hk;try simp only[↓E1,E4,seval, *]
    all_goals exact hk2⟩
  have hstop:Qnb r m=true->setS r m N=(r,[],false):=λh=>by rw[hst];unfold Qhp;rw[if_pos h]
  have hstH:=Hide.mk hstop;clear hstop hst;unfold set_h b_Qcj;refine dW ?_;simp only[↓E1,E4,seval, *];refine hPm.q1 S1.free (Qem S1.cells) ?_;rintro _ n2 l2 rfl;try simp only[↓E1,E4,seval, *]
  refine hPm.q1 (S1.free.le l2) (Qem S1.cells) ?_;rintro _ n3 l3 rfl;have S3:=(S1.le l2).le l3;have K3:=(K1.le2 l2).le2 l3;clear hPm;rcases Qwy (decide (r.normal=m.view)) (decide (last m.log<last r.log)) (decide (m.view=r.view)) (decide (r.status=0)) (decide (m.kind=9)) (decide (last m.log<=last r.log))with⟨ha,hb,hG⟩|⟨ha,hc,hG⟩|⟨ha,hc,hd,hG⟩|⟨ha,hc,hd,he,hG⟩|⟨ha,hc,hd,he,hf,hG⟩|⟨ha,hc,hd,he,hf,hG⟩|⟨ha,hb,hc,hG⟩|⟨ha,hb,hc,hd,hG⟩|⟨ha,hb,hc,hd,he,hG⟩|⟨ha,hb,hc,hd,he,hf,hG⟩|⟨ha,hb,hc,hd,he,hf,hG⟩
  ·have hG:=Hide.mk hG;try simp only[↓E1,E4,seval, *]
   refine hLm.q1 S3.free hm1.2 ?_;rintro _ n4 l4 rfl;have S4:=S3.le l4;have K4:=K3.le2 l4;try simp only[↓E1,E4,seval, *]
   refine hLa.q1 S4.free S4.rs.1 ?_;rintro _ n5 l5 rfl;have S5:=S4.le l5;have K5:=K4.le2 l5;try simp only[↓E1,E4,seval, *]
   have hk:=hkH.out;rw[hstH.out hG.out]at hk;simp only[List.append_nil,Bool.or_false]at hk;have hk2:=hk _ _ _ _ _ _ _ _ S5 K5.trim;clear hk;try simp only[↓E1,E4,seval, *]
   all_goals exact hk2
  ·have hG:=Hide.mk hG;try simp only[↓E1,E4,seval, *]
   refine tail.out _ _ (by omega) hG.out ?_ ?_<;>first|rfl|simp[updN,updE, *]
  ·have hG:=Hide.mk hG;try simp only[↓E1,E4,seval, *]
   refine tail.out _ _ (by omega) hG.out ?_ ?_<;>first|rfl|simp[updN,updE, *]
  ·have hG:=Hide.mk hG;try simp only[↓E1,E4,seval, *]
   have hk:=hkH.out;rw[hstH.out hG.out]at hk;simp only[List.append_nil,Bool.or_false]at hk;have hk2:=hk _ _ _ _ _ _ _ _ S3 K3.trim;clear hk;try simp only[↓E1,E4,seval, *]
   all_goals exact hk2
  ·have hG:=Hide.mk hG;try simp only[↓E1,E4,seval, *]
   refine hLm.q1 S3.free hm1.2 ?_;rintro _ n4 l4 rfl;have S4:=S3.le l4;have K4:=K3.le2 l4;try simp only[↓E1,E4,seval, *]
   refine hLa.q1 S4.free S4.rs.1 ?_;rintro _ n5 l5 rfl;have S5:=S4.le l5;have K5:=K4.le2 l5;try simp only[↓E1,E4,seval, *]
   have hk:=hkH.out;rw[hstH.out hG.out]at hk;simp only[List.append_nil,Bool.or_false]at hk;have hk2:=hk _ _ _ _ _ _ _ _ S5 K5.trim;clear hk;try simp only[↓E1,E4,seval, *]
   all_goals exact hk2
  ·have hG:=Hide.mk hG;try simp only[↓E1,E4,seval, *]
   refine hLm.q1 S3.free hm1.2 ?_;rintro _ n4 l4 rfl;have S4:=S3.le l4;have K4:=K3.le2 l4;try simp only[↓E1,E4,seval, *]
   refine hLa.q1 S4.free S4.rs.1 ?_;rintro _ n5 l5 rfl;have S5:=S4.le l5;have K5:=K4.le2 l5;try simp only[↓E1,E4,seval, *]
   refine tail.out _ _ (by omega) hG.out ?_ ?_<;>first|rfl|simp[updN,updE, *]
  ·have hG:=Hide.mk hG;try simp only[↓E1,E4,seval, *]
   refine hLm.q1 S3.free hm1.2 ?_;rintro _ n4 l4 rfl;have S4:=S3.le l4;have K4:=K3.le2 l4;try simp only[↓E1,E4,seval, *]
   refine hLa.q1 S4.free S4.rs.1 ?_;rintro _ n5 l5 rfl;have S5:=S4.le l5;have K5:=K4.le2 l5;try simp only[↓E1,E4,seval, *]
   refine tail.out _ _ (by omega) hG.out ?_ ?_<;>first|rfl|simp[updN,updE, *]
  ·have hG:=Hide.mk hG;try simp only[↓E1,E4,seval, *]
   refine hLm.q1 S3.free hm1.2 ?_;rintro _ n4 l4 rfl;have S4:=S3.le l4;have K4:=K3.le2 l4;try simp only[↓E1,E4,seval, *]
   refine hLa.q1 S4.free S4.rs.1 ?_;rintro _ n5 l5 rfl;have S5:=S4.le l5;have K5:=K4.le2 l5;try simp only[↓E1,E4,seval, *]
   refine tail.out _ _ (by omega) hG.out ?_ ?_<;>first|rfl|simp[updN,updE, *]
  ·have hG:=Hide.mk hG;try simp only[↓E1,E4,seval, *]
   refine hLm.q1 S3.free hm1.2 ?_;rintro _ n4 l4 rfl;have S4:=S3.le l4;have K4:=K3.le2 l4;try simp only[↓E1,E4,seval, *]
   refine hLa.q1 S4.free S4.rs.1 ?_;rintro _ n5 l5 rfl;have S5:=S4.le l5;have K5:=K4.le2 l5;try simp only[↓E1,E4,seval, *]
   have hk:=hkH.out;rw[hstH.out hG.out]at hk;simp only[List.append_nil,Bool.or_false]at hk;have hk2:=hk _ _ _ _ _ _ _ _ S5 K5.trim;clear hk;try simp only[↓E1,E4,seval, *]
   all_goals exact hk2
  ·have hG:=Hide.mk hG;try simp only[↓E1,E4,seval, *]
   refine hLm.q1 S3.free hm1.2 ?_;rintro _ n4 l4 rfl;have S4:=S3.le l4;have K4:=K3.le2 l4;try simp only[↓E1,E4,seval, *]
   refine hLa.q1 S4.free S4.rs.1 ?_;rintro _ n5 l5 rfl;have S5:=S4.le l5;have K5:=K4.le2 l5;try simp only[↓E1,E4,seval, *]
   refine hLm.q1 S5.free hm1.2 ?_;rintro _ n6 l6 rfl;have S6:=S5.le l6;have K6:=K5.le2 l6;try simp only[↓E1,E4,seval, *]
   refine hLa.q1 S6.free S6.rs.1 ?_;rintro _ n7 l7 rfl;have S7:=S6.le l7;have K7:=K6.le2 l7;try simp only[↓E1,E4,seval, *]
   have hk:=hkH.out;rw[hstH.out hG.out]at hk;simp only[List.append_nil,Bool.or_false]at hk;have hk2:=hk _ _ _ _ _ _ _ _ S7 K7.trim;clear hk;try simp only[↓E1,E4,seval, *]
   all_goals exact hk2
  ·have hG:=Hide.mk hG;try simp only[↓E1,E4,seval, *]
   refine hLm.q1 S3.free hm1.2 ?_;rintro _ n4 l4 rfl;have S4:=S3.le l4;have K4:=K3.le2 l4;try simp only[↓E1,E4,seval, *]
   refine hLa.q1 S4.free S4.rs.1 ?_;rintro _ n5 l5 rfl;have S5:=S4.le l5;have K5:=K4.le2 l5;try simp only[↓E1,E4,seval, *]
   refine hLm.q1 S5.free hm1.2 ?_;rintro _ n6 l6 rfl;have S6:=S5.le l6;have K6:=K5.le2 l6;try simp only[↓E1,E4,seval, *]
   refine hLa.q1 S6.free S6.rs.1 ?_;rintro _ n7 l7 rfl;have S7:=S6.le l7;have K7:=K6.le2 l7;try simp only[↓E1,E4,seval, *]
   refine tail.out _ _ (by omega) hG.out ?_ ?_<;>first|rfl|simp[updN,updE, *]
end
theorem Qun {r:Rep} (h:repB r=true):Qj1 r.nodes=true/\countB r.view=true:=by
 unfold repB at h;simp only[Bool.and_eq_true]at h;exact⟨h.1.1.1.1.1.1.1.1.1.1.1.1.1.1.1.1.1.1,h.1.1.1.1.1.1.1.1.1.1.1.1.1.2⟩
theorem rep_N {r:Rep} (h:repB r=true):∃N:Nat,r.nodes=(N:Int)/\r.nodes.toNat=N/\1<=N/\N<=7:=by
 have h1:=(Qun h).1;unfold Qj1 at h1;simp only[Bool.or_eq_true,decide_eq_true_eq]at h1;exact⟨r.nodes.toNat,by omega,rfl,by omega,by omega⟩
theorem Qjo {r:Rep} (hz:RepSz r) (v:Int) {N:Nat} (hN:N<=7):RepSz (Qfg r v N):=⟨hz.log,by simp[Qfg,anewR];omega,by simp[Qfg,anewR],by simp[Qfg,anewR],λd hd=>by simp[Qfg,anewR]at hd⟩
section
variable {P:Program} (H:Fs P)
include H
end
theorem SW.insS {lo:Nat} {fz:Fz} {s:Nat} {o:Nat->Nat} {mu:St} {n:Nat} {r:Rep} {out:List Msg} {vd:Bool} {xe xa xs xd xo:SV} (S:SW lo fz s o mu n r out vd xe xa xs xd xo) {mu':St} {n':Nat} {x':SV} {l':List Int} (hnn:n<=n')
 (h1:∀j,j<n->blk xs≠some j->Ev.look mu' j=Ev.look mu j) (h2:IntsX (From n (with' mu' fz)) x' l') (hf:Free fz mu' n'):
 Ev.look mu' s=some (stepC r xe xa xs xd xo vd)/\SW lo fz s (tagN o n λ_=>4) (putS mu' s (stepC {r with starts:=l'} xe xa x' xd xo vd)) n' {r with starts:=l'} out vd xe xa x' xd xo/\
  Kp (· =4) s o (tagN o n λ_=>4) mu n (putS mu' s (stepC {r with starts:=l'} xe xa x' xd xo vd)) n':=by
 have hsn:=S.slt;have hb:∀j,blk xs=some j->o j=4:=λj hj=>by
  rcases S.rt.starts with⟨h3|h3,-⟩|⟨id,h3,h4,-,-⟩
  ·rw[h3]at hj;cases hj
  ·rw[h3]at hj;cases hj
  ·rw[h3]at hj;cases hj;exact(Tag.el h4).1
 have hs:Ev.look mu' s=some (stepC r xe xa xs xd xo vd):=(h1 s hsn (λe=>by have:=hb s e;rw[S.os]at this;omega)).trans S.cells;have ho:∀j,j<n->tagN o n (λ_=>4) j=o j:=λj hj=>Qfm hj;have hlk:∀(c:List SV) j,j<n->j≠s->o j≠4->Ev.look (putS mu' s c) j=Ev.look mu j:=λc j hj hjs h4=>by
  rw[Qen,if_neg (λe=>hjs e.symm)];exact h1 j hj (λe=>h4 (hb j e))
 have u:∀(c:List SV) t,t≠4->t≠9->t≠0->Sub (Tag o t (with' mu fz)) (Tag (tagN o n λ_=>4) t (with' (putS mu' s c) fz)):=λc t h4 h9 h0 j B hj=>by
  obtain⟨p1,p2⟩:=Tag.el hj;have p3:=S.free.lt p2;refine Tag.at (by rw[ho j p3];exact p1) ?_;rw[Qeu (hlk c j p3 (λe=>by rw[e,S.os]at p1;omega) (by omega))];exact p2
 have hput:∀(c:List SV) j,j≠s->with' (putS mu' s c) fz j=with' mu' fz j:=λc j hj=>by rw[Qet hs,if_neg (by omega)]
 obtain⟨⟨cs,t1,t2⟩,t3,t4,ds,t5,t6⟩:=S.rt;exact⟨hs,⟨by rw[Qen,if_pos rfl,hs];rfl,⟨⟨cs,t1.mono (u _ 1 (by omega) (by omega) (by omega)),t2.imp λc a g=>EntX.mono (u _ 2 (by omega) (by omega) (by omega)) g⟩,IntsX.mono (u _ 3 (by omega) (by omega) (by omega)) t3,IntsX.mono (λj B hj=>by
  obtain⟨p1,p2⟩:=From.el hj;exact Tag.at (Qgn p1) (by rw[hput _ j (by omega)];exact p2)) h2,ds,t5.mono (u _ 5 (by omega) (by omega) (by omega)),t6.imp λc a g=>DvX.mono (u _ 6 (by omega) (by omega) (by omega)) g⟩,
  S.ot.keep (u _ 2 (by omega) (by omega) (by omega)) (u _ 7 (by omega) (by omega) (by omega)) (u _ 8 (by omega) (by omega) (by omega)),λj=>by rw[hput _ _ (by omega)];exact hf j,S.los,by rw[ho s hsn];exact S.os,λj hj=>by rw[ho j (by have:=S.lon;omega)];exact S.zero j hj,S.fzl⟩,⟨hnn,ho,λj hj hjs h4=>hlk _ j hj hjs h4⟩⟩
def sentR (r:Rep) (N:Nat):Rep×List Msg×Bool:=
 if decide (r.starts.length<(N-1)/2)then(r,[],false)else if r.sent then(r,[],false)else if Qgj r then Qfs {r with sent:=true} N
 else({r with sent:=true},[{voteG {r with sent:=true}with frm:=r.me,to:=prim r.view r.nodes}],false)
theorem Qlg (r:Rep) (N:Nat):(decide (r.starts.length<(N-1)/2)=true/\sentR r N=(r,[],false))\/(decide (r.starts.length<(N-1)/2)=false/\r.sent=true/\sentR r N=(r,[],false))\/
 (decide (r.starts.length<(N-1)/2)=false/\r.sent=false/\Qgj r=true/\sentR r N=Qfs {r with sent:=true} N)\/
 (decide (r.starts.length<(N-1)/2)=false/\r.sent=false/\Qgj r=false/\sentR r N=({r with sent:=true},[{voteG {r with sent:=true}with frm:=r.me,to:=prim r.view r.nodes}],false)):=by
 unfold sentR;cases decide (r.starts.length<(N-1)/2)<;>cases r.sent<;>cases Qgj r<;>simp
def TN (t:Nat):Prop:=t≠0
def Qe6 (r:Rep) (m:Msg) (N:Nat):Rep×List Msg×Bool:=if decide (r.status=1)then sentR {r with starts:=putL r.starts m.frm} N else(r,[],false)
def Qg1 (r:Rep) (m:Msg) (N:Nat):Rep×List Msg×Bool:=
 if decide (r.view<m.view)then((Qe6 (Qfg r m.view N) m N).1,allM r (Qg3 m.view) N++(Qe6 (Qfg r m.view N) m N).2.1,(Qe6 (Qfg r m.view N) m N).2.2)else Qe6 r m N
def st_t3:ACode:=match b_Qat with|.seq _ (.seq _ (.seq _ (.seq _ c)))=>c|c=>c
def st_t1:ACode:=match b_Qat with|.seq _ (.seq _ (.seq c (.seq d _)))=>.seq c (.seq d st_t3)|c=>c
def st_h (t:ACode):ACode:=match b_Qat with|.seq a (.seq b _)=>.seq a (.seq b t)|c=>c
theorem st_eq:b_Qat=st_h st_t1:=rfl
section
variable {P:Program} (H:Fs P)
include H
theorem Qq3 (hS:SortC P) {lo:Nat} {fz:Fz} {s:Nat} {o:Nat->Nat} {mu:St} {n:Nat} {r:Rep} {out:List Msg} {xe xa xs xd xo:SV} (S:SW lo fz s o mu n r out false xe xa xs xd xo) {N:Nat} (hN:r.nodes=(N:Int)) (hN7:N<=7) (h1N:1<=N) (hz:RepSz r) (hl:out.length<=850) {e:Nat->Nat->AV} (e0:e 0 0=.one (.optr s 0)) {k:KT Prop}
 (hk:∀mu' n' o' xe' xa' xs' xd' xo',SW lo fz s o' mu' n' (sentR r N).1 (out++(sentR r N).2.1) (sentR r N).2.2 xe' xa' xs' xd' xo'->Kp (· =7) s o o' mu n mu' n'->k noVal mu' n'):dcode pOrc False (CP P) fz 0 st_t3 (tmE 90 e) mu n (endP fz [] k):=by
 have hsn:s<n:=S.slt;have ws:=Qem (fz:=fz) S.cells;have hF:=Qmk H s r xe xa xs xd xo false hN hN7 h1N;obtain⟨⟨xek,xem⟩,⟨xak,xam⟩,⟨xsk,xsm⟩,⟨xdk,xdm⟩,xok,xom⟩:=S.ks;obtain⟨xsl,xss,-,-⟩:=S.rs.2.2.1.len;have ws':=ws;unfold stepC repC at ws;have hkH:=Hide.mk hk;have hNH:=Hide.mk hN;clear hk hN;unfold st_t3 b_Qat;refine dW ?_;rcases Qlg r N with⟨h1,hR⟩|⟨h1,h2,hR⟩|⟨h1,h2,h3,hR⟩|⟨h1,h2,h3,hR⟩
 ·have hk:=hkH.out;rw[hR]at hk;simp only[List.append_nil]at hk;have hk2:=λn' hn=>hk _ n' _ _ _ _ _ _ (S.le hn) (Kp.refl.le2 hn);clear hk hR;simp only[↓E1,E4,seval, *];refine hF.q1 S.free ws' ?_;rintro v n2 l2 rfl;try simp only[↓E1,E4,seval, *]
  all_goals exact hk2 _ l2
 ·have hk:=hkH.out;rw[hR]at hk;simp only[List.append_nil]at hk;have hk2:=λn' hn=>hk _ n' _ _ _ _ _ _ (S.le hn) (Kp.refl.le2 hn);clear hk hR;simp only[↓E1,E4,seval, *];refine hF.q1 S.free ws' ?_;rintro v n2 l2 rfl;try simp only[↓E1,E4,seval, *]
  all_goals exact hk2 _ l2
 ·have hRH:=Hide.mk hR;clear hR;have hs:=S.cells;unfold stepC repC at hs;simp only[↓E1,E4,seval, *];refine hF.q1 S.free ws' ?_;rintro v n2 l2 rfl;have S2:=(S.le l2).put (r':={r with sent:=true}) (vd':=false) rfl rfl rfl rfl;have K2:Kp (· =7) s o o mu n _ n2:=(S.kput (c:=stepC {r with sent:=true} xe xa xs xd xo false)).le2 l2;have hcell:stepC {r with sent:=true} xe xa xs xd xo false=[I r.me,I r.nodes,I r.view,I r.normal,I r.status,I r.commit,.bool true,I r.log.base,r.log.snap.sv,xe,xa,xs,xd,xo,.bool false]:=rfl;rw[hcell]at S2 K2;clear hcell;have hLs:=replica_step_leads H s {r with sent:=true} xe xa xs xd xo false;have hld:Qgj {r with sent:=true}=Qgj r:=rfl;rw[hld,h3]at hLs;clear hld;try simp only[↓E1,E4,seval, *]
  have ws2:=Qem (fz:=fz) S2.cells;unfold stepC repC at ws2;obtain⟨m3,hm3⟩:∃m,putS mu s [I r.me,I r.nodes,I r.view,I r.normal,I r.status,I r.commit,.bool true,I r.log.base,r.log.snap.sv,xe,xa,xs,xd,xo,.bool false]=m:=⟨_,rfl⟩
  rw[hm3]at S2 K2 ws2;try rw[hm3]
  refine hLs.q0 S2.free (Qem S2.cells) ?_;rintro v n3 l3 rfl;have S3:=S2.le l3;have K3:=K2.le2 l3;clear ws ws' hs hF;try simp only[↓E1,E4,seval, *]
  refine Qmf H hS S3 hNH.out hN7 h1N ⟨hz.log,hz.acks,hz.starts,hz.dos,hz.dlog⟩ (by omega) λm4 n4 o4 xe4 xa4 xs4 xd4 xo4 S4 K4=>?_;have hk:=hkH.out;rw[hRH.out]at hk;have hk2:=hk _ _ _ _ _ _ _ _ S4 (K3.trans K4);clear hk;try simp only[↓E1,E4,seval, *]
  all_goals exact hk2
 ·have hRH:=Hide.mk hR;clear hR;have hs:=S.cells;unfold stepC repC at hs;simp only[↓E1,E4,seval, *];refine hF.q1 S.free ws' ?_;rintro v n2 l2 rfl;have S2:=(S.le l2).put (r':={r with sent:=true}) (vd':=false) rfl rfl rfl rfl;have K2:Kp (· =7) s o o mu n _ n2:=(S.kput (c:=stepC {r with sent:=true} xe xa xs xd xo false)).le2 l2;have hcell:stepC {r with sent:=true} xe xa xs xd xo false=[I r.me,I r.nodes,I r.view,I r.normal,I r.status,I r.commit,.bool true,I r.log.base,r.log.snap.sv,xe,xa,xs,xd,xo,.bool false]:=rfl;rw[hcell]at S2 K2;clear hcell;have hLs:=replica_step_leads H s {r with sent:=true} xe xa xs xd xo false;have hld:Qgj {r with sent:=true}=Qgj r:=rfl;rw[hld,h3]at hLs;clear hld;try simp only[↓E1,E4,seval, *]
  have ws2:=Qem (fz:=fz) S2.cells;unfold stepC repC at ws2;obtain⟨m3,hm3⟩:∃m,putS mu s [I r.me,I r.nodes,I r.view,I r.normal,I r.status,I r.commit,.bool true,I r.log.base,r.log.snap.sv,xe,xa,xs,xd,xo,.bool false]=m:=⟨_,rfl⟩
  rw[hm3]at S2 K2 ws2;try rw[hm3]
  refine hLs.q0 S2.free (Qem S2.cells) ?_;rintro v n3 l3 rfl;have S3:=S2.le l3;have K3:=K2.le2 l3;clear ws ws' hs hF;try simp only[↓E1,E4,seval, *]
  refine(replica_Primary H _ _).q1 S3.free trivial ?_;rintro v n4 l4 rfl;have S4:=S3.le l4;have hV:=Qxp H (s:=s) (r:={r with sent:=true}) (xe:=xe) (xa:=xa) (xs:=xs) (xd:=xd) (xo:=xo) (vd:=false);unfold msgC voteG at hV;try simp only[↓E1,E4,seval, *]
  refine hV.q1 S4.free ⟨Qem S4.cells,S4.rs.1⟩ ?_;rintro v n5 l5 rfl;have S5:=S4.le l5;have hSd:=λ(k:KT Prop) (w:WK k)=>Qgc H S5 (prim r.view r.nodes) (voteG {r with sent:=true}) .nsl xe ⟨nilP _,S5.rs.1⟩ (Qw0 hz.log) (by omega) (k:=k) (w:=w);try simp only[↓E1,E4,seval, *]
  refine hSd _ _ λm6 n6 o6 xo6 S6 K6=>?_;have hk:=hkH.out;rw[hRH.out]at hk;have hk2:=hk _ _ _ _ _ _ _ _ S6 ((K3.le2 (Nat.le_trans l4 l5)).trans K6);clear hk;try simp only[↓E1,E4,seval, *]
  all_goals exact hk2
theorem Qqu (hS:SortC P) (hI:InsC P) {lo:Nat} {fz:Fz} {s:Nat} {o:Nat->Nat} {mu:St} {n:Nat} {r:Rep} {out:List Msg} {xe xa xs xd xo:SV} (S:SW lo fz s o mu n r out false xe xa xs xd xo) (m:Msg) (yb ye:SV) {b:Nat} (hb:Ev.look mu b=some (msgC m yb ye)) (hob:o b=0) (hyk:yb.known=true/\yb.isMk=false/\ye.known=true/\ye.isMk=false) {N:Nat} (hN:r.nodes=(N:Int)) (hN7:N<=7) (h1N:1<=N) (hz:RepSz r) (hsl:r.starts.length<=1000) (hst:r.starts.Pairwise (· <·)) (hl:out.length<=850) {e:Nat->Nat->AV} (e0:e 0 0=.one (.optr s 0)) (e3:e 0 3=.one (.optr b 0)) {k:KT Prop}
 (hk:∀mu' n' o' xe' xa' xs' xd' xo',SW lo fz s o' mu' n' (Qe6 r m N).1 (out++(Qe6 r m N).2.1) (Qe6 r m N).2.2 xe' xa' xs' xd' xo'->Kp TN s o o' mu n mu' n'->k noVal mu' n'):dcode pOrc False (CP P) fz 0 st_t1 (tmE 90 e) mu n (endP fz [] k):=by
 have hsn:s<n:=S.slt;have ws:=Qem (fz:=fz) S.cells;have wb:=Qem (fz:=fz) hb;obtain⟨ybk,ybm,yek,yem⟩:=hyk;obtain⟨⟨xek,xem⟩,⟨xak,xam⟩,⟨xsk,xsm⟩,⟨xdk,xdm⟩,xok,xom⟩:=S.ks;have hbl:b<n:=S.free.lt wb;have hbs:b≠s:=λe=>by rw[e,S.os]at hob;cases hob
 unfold stepC repC at ws;unfold msgC at wb;have hkH:=Hide.mk hk;have hNH:=Hide.mk hN;clear hk hN;unfold st_t1 b_Qat;refine dW ?_;cases h1:decide (r.status=1)with
 |false=>
  have hR:Qe6 r m N=(r,[],false):=by unfold Qe6;rw[h1];rfl
  have hk:=hkH.out;rw[hR]at hk;simp only[List.append_nil]at hk;have hk2:=hk _ _ _ _ _ _ _ _ S Kp.refl;clear hk hR;simp only[↓E1,E4,seval, *];all_goals exact hk2
 |true=>
  have hR:Qe6 r m N=sentR {r with starts:=putL r.starts m.frm} N:=by unfold Qe6;rw[h1,if_pos rfl]
  have hRH:=Hide.mk hR;clear hR;simp only[↓E1,E4,seval, *];refine(slices_BinarySearch_int_int H xs r.starts m.frm hst (by omega)).q1 S.free S.rs.2.2.1 ?_;rintro v n2 l2 ⟨i,bo,rfl,hat⟩;have S2:=S.le l2;cases bo with
  |true=>
   have hp:=put_yes hst hat;have hRH2:=Hide.mk (hRH.out.trans (by rw[hp]));clear hRH hp;simp only[↓E1,E4,seval, *];refine Qq3 H hS S2 hNH.out hN7 h1N hz hl (by first|rfl|simp[updN,updE, *]) λm4 n4 o4 xe4 xa4 xs4 xd4 xo4 S4 K4=>?_;have hk:=hkH.out;rw[hRH2.out]at hk;exact hk _ _ _ _ _ _ _ _ S4 ((K4.lo l2).weaken λt h=>by rw[h];exactλh=>by cases h)
  |false=>
   have hp:=put_no hst hat;have hle:=hat.le;have hlen:(putL r.starts m.frm).length=r.starts.length+1:=by rw[hp];simp;omega
   simp only[↓E1,E4,seval, *];have hbl4:∀j,blk xs=some j->o j=4/\j<n:=λj hj=>by
    rcases S.rt.starts with⟨h3|h3,-⟩|⟨id,h3,h4,-,-⟩
    ·rw[h3]at hj;cases hj
    ·rw[h3]at hj;cases hj
    ·rw[h3]at hj;cases hj;exact⟨(Tag.el h4).1,S.free.lt (Tag.el h4).2⟩
   have hv:Ev.look ((n2,[I m.frm])::mu) n2=some [I m.frm]:=by rw[Qer,if_pos rfl]
   have hI0:SlX (with' ((n2,[I m.frm])::mu) fz) 1 xs (r.starts.map intC):=SlX.mono (IntsX.mono Tag.sub S.rt.starts) (sub1 S2.free);refine hI _ _ _ _ _ (ins_at (l:=r.starts) (t:=m.frm) hI0 (λid hid=>S.fzl id (S.ge (by rw[(hbl4 id hid).1];omega))) hle hv (λhid=>by have:=(hbl4 _ hid).2;omega) (by omega) λmu' q1 q2 q3=>?_);have hlk:∀j,j<n2->blk xs≠some j->Ev.look mu' j=Ev.look mu j:=λj hj hbj=>by rw[q1 j (by omega) hbj,Qer,if_neg (by omega)]
   rw[<-hp]at q3;obtain⟨hs3,S3,K3⟩:=SW.insS S2 (n':=n2+1+1) (l':=putL r.starts m.frm) (x':=.osl (n2+1) 0 (putL r.starts m.frm).length (putL r.starts m.frm).length 1) (mu':=mu') (by omega) hlk (.inr ⟨n2+1,by simp,From.at (by omega) (by rw[Qj6];exact Qem q3),by rw[Qj6];exact Qqz _,Qjg⟩) (λj=>by
    have:=q1 (n2+1+1+j) (by omega) (λhbj=>by have:=(hbl4 _ hbj).2;omega);rw[Qer,if_neg (by omega)]at this;rw[Qeu this];exact S2.free.none (by omega))
   have hb3:=(hlk b (by omega) (λhbj=>by have:=(hbl4 _ hbj).1;omega)).trans hb;have hcell:stepC {r with starts:=putL r.starts m.frm} xe xa (.osl (n2+1) 0 (putL r.starts m.frm).length (putL r.starts m.frm).length 1) xd xo false=[I r.me,I r.nodes,I r.view,I r.normal,I r.status,I r.commit,.bool r.sent,I r.log.base,r.log.snap.sv,xe,xa,.osl (n2+1) 0 (r.starts.length+1) (r.starts.length+1) 1,xd,xo,.bool false]:=by rw[hlen];rfl
   rw[hcell]at S3 K3;rw[hlen]at S3;have ws3:=Qem (fz:=fz) hs3;have wb3:=Qem (fz:=fz) hb3;unfold stepC repC at hs3 ws3;unfold msgC at wb3;clear q1 q2 q3 hlk hbl4 hI0 hv hcell ws wb;simp only[↓E1,E4,seval, *];refine Qq3 H hS S3 hNH.out hN7 h1N ⟨hz.log,hz.acks,by show(putL r.starts m.frm).length<=_;omega,hz.dos,hz.dlog⟩ hl (by first|rfl|simp[updN,updE, *]) λm4 n4 o4 xe4 xa4 xs4 xd4 xo4 S4 K4=>?_;have hk:=hkH.out;rw[hRH.out]at hk;exact hk _ _ _ _ _ _ _ _ S4 (((K3.lo l2).weaken λt h=>by rw[h];exactλh=>by cases h).trans (K4.weaken λt h=>by rw[h];exactλh=>by cases h))
theorem Qp3 (hS:SortC P) (hI:InsC P) {lo:Nat} {fz:Fz} {s:Nat} {o:Nat->Nat} {mu:St} {n:Nat} {r:Rep} {out:List Msg} {xe xa xs xd xo:SV} (S:SW lo fz s o mu n r out false xe xa xs xd xo) (m:Msg) (yb ye:SV)
 (hm:MsgS (with' mu fz) m yb ye) {N:Nat} (hN:r.nodes=(N:Int)) (hN7:N<=7) (h1N:1<=N) (hz:RepSz r) (hsl:r.starts.length<=1000) (hst:r.starts.Pairwise (· <·)) (hl:out.length<=800) {k:KT Prop} {w:WK k}
 (hk:∀mu' n' o' xe' xa' xs' xd' xo',SW lo fz s o' mu' n' (Qg1 r m N).1 (out++(Qg1 r m N).2.1) (Qg1 r m N).2.2 xe' xa' xs' xd' xo'->Kp TN s o o' mu n mu' n'->k noVal mu' n'):CPh P n_Qat [.one (.optr s 0),.ag (msgC m yb ye)] fz mu n k w:=by
 refine CP_of H.Qat H.mx 0 ?_;obtain⟨-,-,ybk,ybm⟩:=hm.1.len;obtain⟨-,-,yek,yem⟩:=hm.2.len;have hsn:s<n:=S.slt;have gA:=(Gr.refl (lo:=n) S.free).cons (Nat.le_refl _) (msgC m yb ye);have S1:=S.trim.gr gA;have b1:Ev.look ((n,msgC m yb ye)::mu) n=some (msgC m yb ye):=by rw[Qer,if_pos rfl]
 have K1:Kp TN s (trim o n) (trim o n) mu n ((n,msgC m yb ye)::mu) (n+1):=Gr.kp gA;have hm1:=MsgS.mono (gA.sub S.free (Nat.le_refl _)) hm;have hon:trim o n n=0:=Qhr (Nat.le_refl _);have hlon:=S.lon;obtain⟨m1,hm1e⟩:∃mz:St,((n,msgC m yb ye)::mu)=mz:=⟨_,rfl⟩
 rw[hm1e]at gA S1 b1 K1 hm1;obtain⟨⟨xek,xem⟩,⟨xak,xam⟩,⟨xsk,xsm⟩,⟨xdk,xdm⟩,xok,xom⟩:=S1.ks;have ws1:=Qem (fz:=fz) S1.cells;have wb1:=Qem (fz:=fz) b1;have hkH:=Hide.mk hk;have hNH:=Hide.mk hN;clear hk hN;rw[i_Qat,dc_at st_eq];have b1':=b1;unfold msgC at hm1e wb1⊢;unfold stepC repC at ws1;unfold st_h b_Qat;refine dW ?_;cases h1:decide (r.view<m.view)with
 |false=>
  have hR:Qg1 r m N=Qe6 r m N:=by unfold Qg1;rw[h1];rfl
  have hRH:=Hide.mk hR;clear hR;simp only[↓E1,E4,seval, *];refine Qqu H hS hI S1 m yb ye (b:=n) b1' hon ⟨ybk,ybm,yek,yem⟩ hNH.out hN7 h1N hz hsl hst (by omega) (by first|rfl|simp[updN,updE, *]) (by first|rfl|simp[updN,updE, *]) λm4 n4 o4 xe4 xa4 xs4 xd4 xo4 S4 K4=>?_;have hk:=hkH.out;rw[hRH.out]at hk;exact hk _ _ _ _ _ _ _ _ S4 (K1.trans K4).trim
 |true=>
  have hR:Qg1 r m N=((Qe6 (Qfg r m.view N) m N).1,allM r (Qg3 m.view) N++(Qe6 (Qfg r m.view N) m N).2.1,(Qe6 (Qfg r m.view N) m N).2.2):=by unfold Qg1;rw[h1,if_pos rfl]
  have hRH:=Hide.mk hR;clear hR;simp only[↓E1,E4,seval, *];refine Qnu H S1 m.view hNH.out hN7 (by omega) λm2 n2 o2 xa2 xo2 S2 K2=>?_;have b2:=(K2.keep n (by omega) (by omega) (by rw[hon];omega)).trans b1';have ho2:o2 n=0:=by rw[K2.tags n (by omega)];exact hon
  have hal:=Qf4 r (Qg3 m.view) N;clear ws1 wb1;have hnt:n<n2:=by have:=K2.le;omega
  try simp only[↓E1,E4,seval, *]
  refine Qqu H hS hI S2 m yb ye (b:=n) b2 ho2 ⟨ybk,ybm,yek,yem⟩ (r:=Qfg r m.view N) hNH.out hN7 h1N (Qjo hz _ hN7) (by simp[Qfg,anewR]) (by simp[Qfg,anewR]) (by rw[List.length_append];omega) (by first|rfl|simp[updN,updE, *]) (by first|rfl|simp[updN,updE, *]) λm4 n4 o4 xe4 xa4 xs4 xd4 xo4 S4 K4=>?_;have hk:=hkH.out;rw[hRH.out]at hk;simp only[<-List.append_assoc]at hk;exact hk _ _ _ _ _ _ _ _ S4 ((K1.trans (K2.weaken λt h=>by rw[h];exactλh=>by cases h)).trans K4).trim
end
end Go.Proofs.YtnnjlnkoomeadaaGreat.Pv
