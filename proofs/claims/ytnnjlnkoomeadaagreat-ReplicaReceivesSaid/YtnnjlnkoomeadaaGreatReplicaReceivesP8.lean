/-
  ReplicaReceives: part 8 of what the proof is made of.
-/
import Derived.Test.YtnnjlnkoomeadaaGreatReplicaReceivesP7
set_option linter.unusedVariables false
set_option linter.unusedSimpArgs false
set_option linter.unusedSectionVars false
noncomputable section
namespace Go.Proofs.YtnnjlnkoomeadaaGreat.Pv
open Go.Ev Go.Ev.Rp
set_option maxRecDepth 100000
set_option maxHeartbeats 4000000
section
variable {P:Program} (H:Fs P)
include H
theorem ref16_Copy (r:Rep) (xe xa xs xd:SV) (hz:RepSz r):Ctr P n_Qd3 [.ag (repC r xe xa xs xd)] (fun M=>RepS M r xe xa xs xd) (fun n _ M v=>∃xe' xa' xs' xd' o,v=.ag (repC r xe' xa' xs' xd')/\(∀j,j<n->o j=0)/\RepT o M r xe' xa' xs' xd'):=Ctr.of H.mx H.Qd3 (fun _=>r.dos.length+1) fun fz mu n k hfr s hk=>by
 obtain⟨s1,s2,s3,s4⟩:=s;obtain⟨xel,xes,xek,xem⟩:=s1.len;obtain⟨xal,xas,xak,xam⟩:=s2.len;obtain⟨xsl,xss,xsk,xsm⟩:=s3.len;obtain⟨xdl,xds,xdk,xdm⟩:=s4.len;have hE:=Qhc H r.log xe hz.log.ents hz.log.bat;have hkH:=Hide.mk hk;clear hk;unfold lgC at hE;rw[dY a_Qd3.eq_1 b_Qd3.eq_1];unfold repC;simp only[↓E1,E2,seval, *];refine hE.c1 (gr2 hfr).free (EntsR.mono (sub2 hfr) s1) ?_;rintro v mu1' n1 g1 ⟨xe',rfl,hG⟩;have l1:=g1.le;have ga:=(gr2 hfr).trans (g1.weaken (by omega));have b1:=(g1.own n (by omega)).trans (by rw[Qer,if_neg (by omega),Qer,if_pos rfl]);have b2:=(g1.own (n+1) (by omega)).trans (by rw[Qer,if_pos rfl]);obtain⟨-,-,zek,zem⟩:=hG.len;have gb:=ga.put (Nat.le_refl _) b1 (c:=[I r.me,I r.nodes,I r.view,I r.normal,I r.status,I r.commit,.bool r.sent,I r.log.base,r.log.snap.sv,xe',xa,xs,xd]);have c1:Ev.look (putS mu1' n [I r.me,I r.nodes,I r.view,I r.normal,I r.status,I r.commit,.bool r.sent,I r.log.base,r.log.snap.sv,xe',xa,xs,xd]) n=some [I r.me,I r.nodes,I r.view,I r.normal,I r.status,I r.commit,.bool r.sent,I r.log.base,r.log.snap.sv,xe',xa,xs,xd]:=by rw[Qen,if_pos rfl,b1];rfl
 have c2:Ev.look (putS mu1' n [I r.me,I r.nodes,I r.view,I r.normal,I r.status,I r.commit,.bool r.sent,I r.log.base,r.log.snap.sv,xe',xa,xs,xd]) (n+1)=some [I 0,I 0,I 0,I 0,I 0,I 0,.bool false,I 0,.str 0 0,.nsl,.nsl,.nsl,.nsl]:=by rw[Qen,if_neg (by omega)];exact b2
 have hG1:=Grow.mono (R:=EntX) (λh g=>EntX.mono h g) hG (From.put (fz:=fz) (d':=[I r.me,I r.nodes,I r.view,I r.normal,I r.status,I r.commit,.bool r.sent,I r.log.base,r.log.snap.sv,xe',xa,xs,xd]) (by omega) b1);have hne1:(n1=n)=False:=by simp;omega
 simp only[↓E1,E2,seval, *,E3];obtain⟨m2,hm2⟩:∃m2,putS mu1' n [I r.me,I r.nodes,I r.view,I r.normal,I r.status,I r.commit,.bool r.sent,I r.log.base,r.log.snap.sv,xe',xa,xs,xd]=m2:=⟨_,rfl⟩
 rw[hm2]at gb c1 c2 hG1;try rw[hm2]
 have e2:∀j,n+2<=j->j<n1->with' m2 fz j=with' mu1' fz j:=λj h1 h2=>by rw[<-hm2,Qet b1,if_neg (by omega)]
 have hb1:=g1.free;clear hm2 b1 b2 ga g1;obtain⟨h1,h2⟩:=Qg9 (Sl.mono (IntsR.mono (gb.sub hfr (Nat.le_refl _)) s2) (sub1 gb.free (c:=[])));rw[h1];clear h1;refine⟨h2,Qha gb.free (Qfc (by rw[List.length_map];have:=hz.acks;omega) (by decide) (by decide)) Qjg (λxa' m3' n2 gn2 hxxa=>?_)⟩;clear h2;have ln2:=gn2.le;obtain⟨-,-,zxak,zxam⟩:=SlX.len hxxa;have d1:=(gn2.own n (by omega)).trans c1;have d2:=(gn2.own (n+1) (by omega)).trans c2;have gc:=(gb.trans (gn2.weaken (by omega))).put (Nat.le_refl _) d1 (c:=[I r.me,I r.nodes,I r.view,I r.normal,I r.status,I r.commit,.bool r.sent,I r.log.base,r.log.snap.sv,xe',xa',xs,xd]);have uc:=From.put (fz:=fz) (lo:=n+2) (d':=[I r.me,I r.nodes,I r.view,I r.normal,I r.status,I r.commit,.bool r.sent,I r.log.base,r.log.snap.sv,xe',xa',xs,xd]) (by omega) d1;have uc1:=From.put (fz:=fz) (lo:=n1) (d':=[I r.me,I r.nodes,I r.view,I r.normal,I r.status,I r.commit,.bool r.sent,I r.log.base,r.log.snap.sv,xe',xa',xs,xd]) (by omega) d1;have c1':Ev.look (putS m3' n [I r.me,I r.nodes,I r.view,I r.normal,I r.status,I r.commit,.bool r.sent,I r.log.base,r.log.snap.sv,xe',xa',xs,xd]) n=some [I r.me,I r.nodes,I r.view,I r.normal,I r.status,I r.commit,.bool r.sent,I r.log.base,r.log.snap.sv,xe',xa',xs,xd]:=by rw[Qen,if_pos rfl,d1];rfl
 have c2':Ev.look (putS m3' n [I r.me,I r.nodes,I r.view,I r.normal,I r.status,I r.commit,.bool r.sent,I r.log.base,r.log.snap.sv,xe',xa',xs,xd]) (n+1)=some [I 0,I 0,I 0,I 0,I 0,I 0,.bool false,I 0,.str 0 0,.nsl,.nsl,.nsl,.nsl]:=by rw[Qen,if_neg (by omega)];exact d2
 have hG2:=Grow.mono (R:=EntX) (λh g=>EntX.mono h g) hG1 ((From.mono (gn2.sub gb.free (Nat.le_refl _))).trans uc);have hA2:=SlX.mono hxxa uc1;have hne2:(n2=n)=False:=by simp;omega
 simp only[↓E1,E2,seval, *,E3];obtain⟨m3,hm3⟩:∃m3,putS m3' n [I r.me,I r.nodes,I r.view,I r.normal,I r.status,I r.commit,.bool r.sent,I r.log.base,r.log.snap.sv,xe',xa',xs,xd]=m3:=⟨_,rfl⟩
 rw[hm3]at gc c1' c2' hG2 hA2;try rw[hm3]
 have e3:∀j,n+2<=j->j<n1->with' m3 fz j=with' mu1' fz j:=λj h1 h2=>by rw[<-hm3,Qet d1,if_neg (by omega),gn2.ext j h2];exact e2 j h1 h2
 have e3':∀j,n1<=j->with' m3 fz j=with' m3' fz j:=λj h1=>by rw[<-hm3,Qet d1,if_neg (by omega)]
 have hb2:=gn2.free;clear hm3 hG1 d1 d2 uc uc1;have hmid:=gc.free;clear c1 c2;have c1:=c1';have c2:=c2';clear c1' c2';have gb':=gb;clear gb;have gb:=gc;clear gc;obtain⟨h1,h2⟩:=Qg9 (Sl.mono (IntsR.mono (gb.sub hfr (Nat.le_refl _)) s3) (sub1 gb.free (c:=[])));rw[h1];clear h1;refine⟨h2,Qha gb.free (Qfc (by rw[List.length_map];have:=hz.starts;omega) (by decide) (by decide)) Qjg (λxs' m4' n3 gn3 hxxs=>?_)⟩;clear h2;have ln3:=gn3.le;obtain⟨-,-,zxsk,zxsm⟩:=SlX.len hxxs;have d1:=(gn3.own n (by omega)).trans c1;have d2:=(gn3.own (n+1) (by omega)).trans c2;have gc:=(gb.trans (gn3.weaken (by omega))).put (Nat.le_refl _) d1 (c:=[I r.me,I r.nodes,I r.view,I r.normal,I r.status,I r.commit,.bool r.sent,I r.log.base,r.log.snap.sv,xe',xa',xs',.nsl]);have uc:=From.put (fz:=fz) (lo:=n+2) (d':=[I r.me,I r.nodes,I r.view,I r.normal,I r.status,I r.commit,.bool r.sent,I r.log.base,r.log.snap.sv,xe',xa',xs',.nsl]) (by omega) d1;have uc1:=From.put (fz:=fz) (lo:=n1) (d':=[I r.me,I r.nodes,I r.view,I r.normal,I r.status,I r.commit,.bool r.sent,I r.log.base,r.log.snap.sv,xe',xa',xs',.nsl]) (by omega) d1;have uc2:=From.put (fz:=fz) (lo:=n2) (d':=[I r.me,I r.nodes,I r.view,I r.normal,I r.status,I r.commit,.bool r.sent,I r.log.base,r.log.snap.sv,xe',xa',xs',.nsl]) (by omega) d1;have c1':Ev.look (putS m4' n [I r.me,I r.nodes,I r.view,I r.normal,I r.status,I r.commit,.bool r.sent,I r.log.base,r.log.snap.sv,xe',xa',xs',.nsl]) n=some [I r.me,I r.nodes,I r.view,I r.normal,I r.status,I r.commit,.bool r.sent,I r.log.base,r.log.snap.sv,xe',xa',xs',.nsl]:=by rw[Qen,if_pos rfl,d1];rfl
 have c2':Ev.look (putS m4' n [I r.me,I r.nodes,I r.view,I r.normal,I r.status,I r.commit,.bool r.sent,I r.log.base,r.log.snap.sv,xe',xa',xs',.nsl]) (n+1)=some [I 0,I 0,I 0,I 0,I 0,I 0,.bool false,I 0,.str 0 0,.nsl,.nsl,.nsl,.nsl]:=by rw[Qen,if_neg (by omega)];exact d2
 have hG3:=Grow.mono (R:=EntX) (λh g=>EntX.mono h g) hG2 ((From.mono (gn3.sub gb.free (Nat.le_refl _))).trans uc);have hA3:=SlX.mono hA2 ((From.mono (gn3.sub gb.free (Nat.le_refl _))).trans uc1);have hS3:=SlX.mono hxxs uc2;simp only[↓E1,E2,seval, *,E3];obtain⟨m4,hm4⟩:∃m4,putS m4' n [I r.me,I r.nodes,I r.view,I r.normal,I r.status,I r.commit,.bool r.sent,I r.log.base,r.log.snap.sv,xe',xa',xs',.nsl]=m4:=⟨_,rfl⟩
 rw[hm4]at gc c1' c2' hG3 hA3 hS3;try rw[hm4]
 have e4:∀j,n+2<=j->j<n2->with' m4 fz j=with' m3 fz j:=λj h1 h2=>by rw[<-hm4,Qet d1,if_neg (by omega),gn3.ext j h2]
 have e4':∀j,n2<=j->with' m4 fz j=with' m4' fz j:=λj h1=>by rw[<-hm4,Qet d1,if_neg (by omega)]
 have hb3:=gn3.free;clear hm4 hG2 d1 d2 uc uc1 uc2 hA2 c1 c2;have hf4:=gc.free;have hzd:=hz.dos;refine loopI (x:=0) (L:=r.dos.length) (p:=λ_=>true) (λi e mu' n'=>∃xdd,Gr n fz mu mu' n n'/\n3<=n'/\Ev.look mu' n=some [I r.me,I r.nodes,I r.view,I r.normal,I r.status,I r.commit,.bool r.sent,I r.log.base,r.log.snap.sv,xe',xa',xs',xdd]/\Ev.look mu' (n+1)=some [I 0,I 0,I 0,I 0,I 0,I 0,.bool false,I 0,.str 0 0,.nsl,.nsl,.nsl,.nsl]/\(∀j,n+2<=j->j<n3->Ev.look mu' j=Ev.look m4 j)/\Grow n3 (with' mu' fz) 6 DvX xdd (r.dos.take i)/\e 0 1=.one (.optr n 0)/\e 0 2=.one (.optr (n+1) 0)/\e 0 3=.one xd/\e 0 4=.one (.int .i64 i)) (λ_ _ _=>False) ?_ ?_ _ _ _ _ _ (by omega) ?_ ?_ (by rintro⟨_,_,_,h⟩;cases h)
 ·rintro i e mu1 m1 K hi ⟨xdd,g1,h3,a1,a2,a3,G,e1,e2,e3,e4⟩ hy hn;have hY:=Hide.mk hy;clear hy hn;have hw:=Qev hi (by omega);obtain⟨id,off,cap,B,b,rfl,p1,p2,p3,p4,p5⟩:=(DvsR.mono (g1.sub hfr (Nat.le_refl _)) s4).elem hi;unfold dvC at p4;obtain⟨bl,bs,bk,bm⟩:=p5.len;have hmem:r.dos[i]∈r.dos:=List.getElem_mem hi;have hLd:=Qhc H r.dos[i].log b (hz.dlog _ hmem).ents (hz.dlog _ hmem).bat;unfold lgC at hLd;have w1:=Qem (fz:=fz) a1;have hq1:(m1=n)=False:=by simp;omega
  rw[dX l_Qd3_0.eq_1];simp only[↓E1,E2,seval, *,E3];have gE:=(Gr.refl (lo:=m1) g1.free).cons (Nat.le_refl _) [I r.dos[i].frm,I r.dos[i].normal,I r.dos[i].commit,I r.dos[i].log.base,r.dos[i].log.snap.sv,b];refine hLd.c1 gE.free (EntsR.mono (gE.sub g1.free (Nat.le_refl _)) p5) ?_;rintro v mu2 m2 g2 ⟨x',rfl,hGx⟩;have l2:=g2.le;obtain⟨-,-,xk',xm'⟩:=hGx.len;have gF:=gE.trans (g2.weaken (by omega));have d1:Ev.look mu2 m1=some [I r.dos[i].frm,I r.dos[i].normal,I r.dos[i].commit,I r.dos[i].log.base,r.dos[i].log.snap.sv,b]:=(g2.own m1 (by omega)).trans (by rw[Qer,if_pos rfl]);have d0:=(gF.own n (by omega)).trans a1;have wd1:=Qem (fz:=fz) d1;have wd0:=Qem (fz:=fz) d0;obtain⟨-,-,ddk,ddm⟩:=G.len;clear w1 p1;have hq2:(m2=n)=False:=by simp;omega
  simp only[↓E1,E2,seval, *,E3];have gP:=gF.put (id:=m1) (Nat.le_refl _) d1 (c:=[I r.dos[i].frm,I r.dos[i].normal,I r.dos[i].commit,I r.dos[i].log.base,r.dos[i].log.snap.sv,x']);have gG:=gP.cons (by omega) [I r.dos[i].frm,I r.dos[i].normal,I r.dos[i].commit,I r.dos[i].log.base,r.dos[i].log.snap.sv,x'];have uG:Sub (From (m1+1) (with' mu2 fz)) (From m1 (with' ((m2,[I r.dos[i].frm,I r.dos[i].normal,I r.dos[i].commit,I r.dos[i].log.base,r.dos[i].log.snap.sv,x'])::putS mu2 m1 [I r.dos[i].frm,I r.dos[i].normal,I r.dos[i].commit,I r.dos[i].log.base,r.dos[i].log.snap.sv,x']) fz)):=λj B hj=>by
   obtain⟨h4,h5⟩:=From.el hj;have h6:=g2.free.lt h5;exact From.at (by omega) (by rw[Qfl,if_neg (by omega),Qet d1,if_neg (by omega)];exact h5)
  refine Grow.more (R:=DvX) (λh g=>DvX.mono h g) (a:=r.dos[i]) G g1.free h3 (λj hj=>hfr.fz j (by omega)) gG ⟨x',rfl,EntsX.mono uG (Ql0 hGx)⟩ ⟨rfl,by simp only[↓E1,E2,seval, *]⟩ (Qfc (by rw[List.length_take];omega) (by decide) (by decide)) (λmu3 g3 G3=>?_);have f1:=(g3.own n (by omega)).trans a1;have f2:=(g3.own (n+1) (by omega)).trans a2;clear wd0 wd1 hGx;simp only[↓E1,E2,seval, *,E3];refine hY.out rfl _ _ _ ⟨_,(g1.trans (g3.weaken (by omega))).put (by omega) f1,by omega,by rw[Qen,if_pos rfl,f1];rfl,by rw[Qen,if_neg (by omega)];exact f2,λj h4 h5=>by rw[Qen,if_neg (by omega),g3.own j h5];exact a3 j h4 h5,Grow.mono (R:=DvX) (λh g=>DvX.mono h g) ?_ (From.put (by omega) f1),?_,?_,?_,?_⟩
  ·rw[List.take_succ_eq_append_getElem hi];exact G3
  all_goals simp[updN,updE, *]
 ·rintro e mu1 m1 K ⟨xdd,g1,h3,a1,a2,a3,G,e1,e2,e3,e4⟩ hx;have hX:=Hide.mk hx;clear hx;have hlt:((r.dos.length:Int)<r.dos.length)=False:=by simp
  have hlt2:(r.dos.length<r.dos.length)=False:=by simp
  rw[dX l_Qd3_0.eq_1];simp only[↓E1,E2,seval, *];exact hX.out _ _ _ ⟨xdd,g1,h3,a1,a2,a3,G,by simp[updN,updE,e1],by simp[updN,updE,e2],by simp[updN,updE,e3],by simp[updN,updE,e4]⟩
 ·exact⟨.nsl,gc,by omega,c1',c2',λ_ _ _=>rfl,Grow.nil,by simp[updN,updE],by simp[updN,updE],by simp[updN,updE],by simp[updN,updE]⟩
 ·rintro -e1 mu1 m1 ⟨xdd,g1,h3,a1,a2,a3,G,f1,f2,f3,f4⟩;rw[List.take_length]at G;have w1:=Qem (fz:=fz) a1;obtain⟨-,-,ddk,ddm⟩:=G.len
  -- the tags
  obtain⟨o1,ho1⟩:∃o,o=tagN (tagN (tagN (λ_=>0) (n+2) (Qg4 xe' 1 2)) n1 λ_=>3) n2 λ_=>4:=⟨_,rfl⟩
  obtain⟨o,ho⟩:∃o,o=tagN o1 n3 (Qg4 xdd 5 6):=⟨_,rfl⟩
  have hz0:∀j,j<n+2->o j=0:=λj hj=>by rw[ho,Qfm (by omega),ho1,Qfm (by omega),Qfm (by omega),Qfm hj]
  have vE:∀t j B,with' mu1' fz j=some B->n+2<=j->Qg4 xe' 1 2 j=t->Tag o t (with' (putS mu1 (n+1) [I r.me,I r.nodes,I r.view,I r.normal,I r.status,I r.commit,.bool r.sent,I r.log.base,r.log.snap.sv,xe',xa',xs',xdd]) fz) j=some B:=λt j B hj h5 h6=>by
   have h7:=hb1.lt hj;refine Tag.at (by rw[ho,Qfm (by omega),ho1,Qfm (by omega),Qfm h7,Qgn h5];exact h6) ?_;rw[Qet a2,if_neg (by omega),Qeu (a3 j h5 (by omega)),e4 j h5 (by omega),e3 j h5 h7];exact hj
  have vA:Sub (From n1 (with' m3' fz)) (Tag o 3 (with' (putS mu1 (n+1) [I r.me,I r.nodes,I r.view,I r.normal,I r.status,I r.commit,.bool r.sent,I r.log.base,r.log.snap.sv,xe',xa',xs',xdd]) fz)):=λj B hj=>by
   obtain⟨h5,h6⟩:=From.el hj;have h7:=hb2.lt h6;refine Tag.at (by rw[ho,Qfm (by omega),ho1,Qfm h7,Qgn h5]) ?_;rw[Qet a2,if_neg (by omega),Qeu (a3 j (by omega) (by omega)),e4 j (by omega) h7,e3' j h5];exact h6
  have vS:Sub (From n2 (with' m4' fz)) (Tag o 4 (with' (putS mu1 (n+1) [I r.me,I r.nodes,I r.view,I r.normal,I r.status,I r.commit,.bool r.sent,I r.log.base,r.log.snap.sv,xe',xa',xs',xdd]) fz)):=λj B hj=>by
   obtain⟨h5,h6⟩:=From.el hj;have h7:=hb3.lt h6;refine Tag.at (by rw[ho,Qfm h7,ho1,Qgn h5]) ?_;rw[Qet a2,if_neg (by omega),Qeu (a3 j (by omega) h7),e4' j h5];exact h6
  obtain⟨ds,k1,k2⟩:=Grow.tag (R:=DvX) (λh g=>DvX.mono h g) (Grow.mono (R:=DvX) (λh g=>DvX.mono h g) G (From.put (lo:=n3) (fz:=fz) (d':=[I r.me,I r.nodes,I r.view,I r.normal,I r.status,I r.commit,.bool r.sent,I r.log.base,r.log.snap.sv,xe',xa',xs',xdd]) (by omega) a2)) (o:=o1) (a:=5) (b:=6);rw[<-ho]at k1 k2;obtain⟨es,j1,j2⟩:=hG;have hT:RepT o (with' (putS mu1 (n+1) [I r.me,I r.nodes,I r.view,I r.normal,I r.status,I r.commit,.bool r.sent,I r.log.base,r.log.snap.sv,xe',xa',xs',xdd]) fz) r xe' xa' xs' xdd:=by
   refine⟨⟨es,?_,j2.imp λc a h=>EntX.mono (λj B hj=>?_) h⟩,IntsX.mono vA hxxa,IntsX.mono vS hxxs,ds,k1,k2⟩
   ·rcases j1 with h|⟨id,q1,q2,q3⟩
    ·exact .inl h
    ·obtain⟨q4,q5⟩:=From.el q2;exact .inr ⟨id,q1,vE 1 id _ q5 q4 (by unfold Qg4;rw[if_pos (by rw[q1];rfl)]),q3⟩
   ·obtain⟨q1,q2⟩:=Ex.el hj;obtain⟨q3,q4⟩:=From.el q2;exact vE 2 j B q4 q3 (by unfold Qg4;rw[if_neg q1])
  have gz:=g1.put (id:=n+1) (by omega) a2 (c:=[I r.me,I r.nodes,I r.view,I r.normal,I r.status,I r.commit,.bool r.sent,I r.log.base,r.log.snap.sv,xe',xa',xs',xdd]);have hk2:=hkH.out _ _ _ gz ⟨xe',xa',xs',xdd,o,rfl,λj hj=>hz0 j (by omega),hT⟩;unfold repC at hk2;clear hkH;simp only[↓E1,E2,seval, *,E3]
end
theorem Kp.t28 {s:Nat} {o o':Nat->Nat} {fz:Fz} {mu mu':St} {n n':Nat} (h:Kp (· =7) s o o' mu n mu' n') (hs:o s=9) (hf:Free fz mu n):Sub (Tag28 o (with' mu fz)) (Tag28 o' (with' mu' fz)):=λj B hj=>by
 obtain⟨h1,h2⟩:=Tag28.el hj;have h3:=hf.lt h2;exact Tag28.at (by rw[h.tags j h3];exact h1) (by rw[Qeu (h.keep j h3 (λe=>by rw[e,hs]at h1;omega) (by omega))];exact h2)
theorem Tag28.trim {o:Nat->Nat} {fz:Fz} {mu:St} {n:Nat} (hf:Free fz mu n):Sub (Tag28 o (with' mu fz)) (Tag28 (Pv.trim o n) (with' mu fz)):=λj B hj=>by
 obtain⟨h1,h2⟩:=Tag28.el hj;exact Tag28.at (by rw[Qhh (hf.lt h2)];exact h1) h2
section
variable {P:Program} (H:Fs P)
include H
theorem Qga {lo:Nat} {fz:Fz} {s:Nat} {o:Nat->Nat} {mu:St} {n:Nat} {r:Rep} {out:List Msg} {vd:Bool} {xe xa xs xd xo:SV} (S:SW lo fz s o mu n r out vd xe xa xs xd xo) (to:Int) (m:Msg) (yb ye:SV)
 (hb:PtsX (Tag28 o (with' mu fz)) yb m.batch) (hm:EntsR (with' mu fz) ye m.log.ents) (hz:LgSz m.log) (hl:out.length<=1000) {k:KT Prop} {w:WK k}
 (hk:∀mu' n' o' xo',SW lo fz s o' mu' n' r (out++[{m with frm:=r.me,to:=to}]) vd xe xa xs xd xo'->Kp (· =7) s o o' mu n mu' n'->k noVal mu' n'):CPh P n_Qb7 [.one (.optr s 0),.one (I to),.ag (msgC m yb ye)] fz mu n k w:=by
 refine CP_of H.Qb7 H.mx 0 ?_;obtain⟨-,-,ybk,ybm⟩:=SlX.len hb;obtain⟨-,-,yek,yem⟩:=hm.len;have hC:=ref4_CopyLog H m.log ye hz.ents hz.bat;have gA:=(Gr.refl (lo:=n) S.free).cons (Nat.le_refl _) (msgC {m with frm:=r.me,to:=to} yb ye);have hsn:s<n:=S.slt;have S1:=S.gr gA;have b1:Ev.look ((n,msgC {m with frm:=r.me,to:=to} yb ye)::mu) n=some (msgC {m with frm:=r.me,to:=to} yb ye):=by rw[Qer,if_pos rfl]
 have ws0:=Qem (fz:=fz) S.cells;have hne:(n=s)=False:=by simp;omega
 obtain⟨⟨xek,xem⟩,⟨xak,xam⟩,⟨xsk,xsm⟩,⟨xdk,xdm⟩,xok,xom⟩:=S1.ks;obtain⟨m1,hm1⟩:∃mz:St,((n,msgC {m with frm:=r.me,to:=to} yb ye)::mu)=mz:=⟨_,rfl⟩
 rw[hm1]at gA S1 b1;have ws1:=Qem (fz:=fz) S1.cells;have wb1:=Qem (fz:=fz) b1;have hkH:=Hide.mk hk;clear hk;rw[dY a_Qb7.eq_1 b_Qb7.eq_1];unfold lgC at hC;unfold msgC at hm1 wb1⊢;unfold stepC repC at ws0 ws1;simp only[↓E1,E2,seval, *,E3];refine hC.c1 S1.free (EntsR.mono (gA.sub S.free (Nat.le_refl _)) hm) ?_;rintro v m2 n2 g2 ⟨xm,rfl,hxm⟩;have l2:=g2.le;obtain⟨-,-,zek,zem⟩:=hxm.choose_spec.1.len;have S2:=S1.gr g2;have ws2:=Qem (fz:=fz) S2.cells;have b2:=(g2.own n (by omega)).trans b1;have wb2:=Qem (fz:=fz) b2;unfold msgC at b2 wb2;unfold stepC repC at ws2;clear ws0 ws1 wb1;have hne2:(n2=s)=False:=by simp;omega
 simp only[↓E1,E2,seval, *,E3];have gP:=(gA.trans (g2.weaken (by omega))).put (Nat.le_refl _) b2 (c:=[I m.kind,I r.me,I to,I m.view,I m.normal,I m.at',I m.commit,I m.round,I m.client,I m.session,I m.number,I m.code,I m.agg,I m.until',m.series.sv,yb,I m.log.base,m.log.snap.sv,xm,m.text.sv]);have gB:=gP.cons (by omega) [I m.kind,I r.me,I to,I m.view,I m.normal,I m.at',I m.commit,I m.round,I m.client,I m.session,I m.number,I m.code,I m.agg,I m.until',m.series.sv,yb,I m.log.base,m.log.snap.sv,xm,m.text.sv];have u2:Sub (From (n+1) (with' m2 fz)) (From n (with' ((n2,[I m.kind,I r.me,I to,I m.view,I m.normal,I m.at',I m.commit,I m.round,I m.client,I m.session,I m.number,I m.code,I m.agg,I m.until',m.series.sv,yb,I m.log.base,m.log.snap.sv,xm,m.text.sv])::putS m2 n [I m.kind,I r.me,I to,I m.view,I m.normal,I m.at',I m.commit,I m.round,I m.client,I m.session,I m.number,I m.code,I m.agg,I m.until',m.series.sv,yb,I m.log.base,m.log.snap.sv,xm,m.text.sv]) fz)):=λj B hj=>by
  obtain⟨p1,p2⟩:=From.el hj;have:=g2.free.lt p2;exact From.at (by omega) (by rw[Qfl,if_neg (by omega),Qet b2,if_neg (by omega)];exact p2)
 have ub:Sub (Tag28 o (with' mu fz)) (FT o n (with' ((n2,[I m.kind,I r.me,I to,I m.view,I m.normal,I m.at',I m.commit,I m.round,I m.client,I m.session,I m.number,I m.code,I m.agg,I m.until',m.series.sv,yb,I m.log.base,m.log.snap.sv,xm,m.text.sv])::putS m2 n [I m.kind,I r.me,I to,I m.view,I m.normal,I m.at',I m.commit,I m.round,I m.client,I m.session,I m.number,I m.code,I m.agg,I m.until',m.series.sv,yb,I m.log.base,m.log.snap.sv,xm,m.text.sv]) fz)):=λj B hj=>by
  obtain⟨p1,p2⟩:=Tag28.el hj;have p3:=S.free.lt p2;have:with' ((n2,[I m.kind,I r.me,I to,I m.view,I m.normal,I m.at',I m.commit,I m.round,I m.client,I m.session,I m.number,I m.code,I m.agg,I m.until',m.series.sv,yb,I m.log.base,m.log.snap.sv,xm,m.text.sv])::putS m2 n [I m.kind,I r.me,I to,I m.view,I m.normal,I m.at',I m.commit,I m.round,I m.client,I m.session,I m.number,I m.code,I m.agg,I m.until',m.series.sv,yb,I m.log.base,m.log.snap.sv,xm,m.text.sv]) fz j=some B:=(gB.ext j p3).trans p2;exact FT.tag j B (Tag28.at p1 this)
 refine SW.app S gB (m:={m with frm:=r.me,to:=to}) (PtsX.mono ub hb) (EntsX.mono (u2.trans FT.from) hxm) hl λm3 o' xo' hko hs3 hS hKp=>?_;have hkom:=Qhm hko;unfold stepC repC at hs3;have hk2:=hkH.out _ _ _ _ hS hKp;unfold stepC repC at hk2;clear hkH;simp only[↓E1,E2,seval, *,E3];exact hk2
theorem Qs8 {lo:Nat} {fz:Fz} {s:Nat} {o:Nat->Nat} {mu:St} {n:Nat} {r:Rep} {out:List Msg} {vd:Bool} {xe xa xs xd xo:SV} (S:SW lo fz s o mu n r out vd xe xa xs xd xo) (m:Msg) (yb ye:SV)
 (hb:PtsX (Tag28 o (with' mu fz)) yb m.batch) (hm:EntsR (Un s o (with' mu fz)) ye m.log.ents) (hz:LgSz m.log) (hl:out.length<=900) {N:Nat} (hN:r.nodes=(N:Int)) (hN7:N<=7) {k:KT Prop} {w:WK k}
 (hk:∀mu' n' o' xo',SW lo fz s o' mu' n' r (out++allM r m N) vd xe xa xs xd xo'->Kp (· =7) s o o' mu n mu' n'->k noVal mu' n'):CPh P n_Qcg [.one (.optr s 0),.ag (msgC m yb ye)] fz mu n k w:=by
 refine CP_of H.Qcg H.mx 9 ?_;obtain⟨-,-,ybk,ybm⟩:=SlX.len hb;obtain⟨-,-,yek,yem⟩:=hm.len;have gA:=(Gr.refl (lo:=n) S.free).cons (Nat.le_refl _) (msgC m yb ye);have hsn:s<n:=S.slt;have S1:=S.trim.gr gA;have b1:Ev.look ((n,msgC m yb ye)::mu) n=some (msgC m yb ye):=by rw[Qer,if_pos rfl]
 have hKA:Kp (· =7) s (trim o n) (trim o n) mu n ((n,msgC m yb ye)::mu) (n+1):=Gr.kp gA;have hos:trim o n s=9:=by rw[Qhh hsn];exact S.os
 have hm1:EntsR (Un s (trim o n) (with' ((n,msgC m yb ye)::mu) fz)) ye m.log.ents:=by
  have u:Sub (Un s o (with' mu fz)) (Un s (trim o n) (with' mu fz)):=λj B hj=>by
   obtain⟨h1,h2,h3⟩:=Un.el hj;exact Un.at (by rw[Qhh (S.free.lt h3)];exact h1) h2 h3
  exact EntsR.mono (u.trans (hKA.un S.free)) hm
 have hb1:PtsX (Tag28 (trim o n) (with' ((n,msgC m yb ye)::mu) fz)) yb m.batch:=PtsX.mono ((Tag28.trim S.free).trans (hKA.t28 hos S.free)) hb;obtain⟨m1,hm1e⟩:∃mz:St,((n,msgC m yb ye)::mu)=mz:=⟨_,rfl⟩
 rw[hm1e]at gA S1 b1 hKA hm1 hb1;have ws1:=Qem (fz:=fz) S1.cells;rw[dY a_Qcg.eq_1 b_Qcg.eq_1];unfold msgC at hm1e⊢;have hkH:=Hide.mk hk;clear hk;simp only[↓E1,E2,seval, *,E3];refine loopI (x:=0) (L:=N) (p:=λ_=>true) (λi e mu' n'=>∃o' xo',SW lo fz s o' mu' n' r (out++allM r m i) vd xe xa xs xd xo'/\Kp (· =7) s (trim o n) o' m1 (n+1) mu' n'/\e 0 0=.one (.optr s 0)/\e 0 3=.one (.optr n 0)/\e 0 4=.one (.int .i64 i)) (λ_ _ _=>False) ?_ ?_ _ _ _ _ _ (by omega) ?_ ?_ (by rintro⟨_,_,_,h⟩;cases h)
 ·rintro i e mu2 n2 K hi ⟨o2,xo2,S2,K2,e0,e3,e4⟩ hY hn;have hY':=Hide.mk hY;clear hY hn;have hw:=Qev hi (by omega);have hsucc:=Qqr r m i;have hlen:=Qf4 r m i;have hon:trim o n n=0:=Qhr (Nat.le_refl _);have b2:=(K2.keep n (by omega) (by omega) (by rw[hon];omega)).trans b1;have ws2:=Qem (fz:=fz) S2.cells;have wb2:=Qem (fz:=fz) b2;have hiN:(i<N)=True:=by simp;exact hi
  obtain⟨⟨xek,xem⟩,⟨xak,xam⟩,⟨xsk,xsm⟩,⟨xdk,xdm⟩,xok,xom⟩:=S2.ks;unfold msgC at wb2;unfold stepC repC at ws2;rw[hN]at ws2;clear ws1;rw[dX l_Qcg_0.eq_1];simp only[↓E1,E2,seval, *,E3];refine Qeo (λhb=>?_) (λhb=>?_)
  ·have hb':(i:Int)=r.me:=of_decide_eq_true hb;rw[if_pos hb']at hsucc;clear hb';rw[<-hsucc]at S2;simp only[↓E1,E2,seval, *,E3];refine hY'.out rfl _ _ _ ⟨o2,xo2,S2,K2,?_,?_,?_⟩;all_goals simp[updN,updE, *]
  ·have hb':¬(i:Int)=r.me:=of_decide_eq_false hb;rw[if_neg hb']at hsucc;clear hb';have hSend:=λ(k:KT Prop) (w:WK k)=>Qga H S2 (i:Nat) m yb ye (PtsX.mono (K2.t28 hos gA.free) hb1) (EntsR.mono (K2.un gA.free |>.trans Un.sub) hm1) hz (by rw[List.length_append];omega) (k:=k) (w:=w);unfold msgC at hSend;simp only[↓E1,E2,seval, *,E3];refine hSend _ _ λm5 n5 o5 xo5 S5 K5=>?_;rw[List.append_assoc,<-hsucc]at S5;simp only[↓E1,E2,seval, *,E3];refine hY'.out rfl _ _ _ ⟨o5,xo5,S5,K2.trans K5,?_,?_,?_⟩;all_goals simp[updN,updE, *]
 ·rintro e mu2 n2 K ⟨o2,xo2,S2,K2,e0,e3,e4⟩ hx;have hx':=Hide.mk hx;clear hx;have hlt:((N:Int)<N)=False:=by simp
  have hlt2:(N<N)=False:=by simp
  have ws2:=Qem (fz:=fz) S2.cells;unfold stepC repC at ws2;rw[hN]at ws2;rw[dX l_Qcg_0.eq_1];simp only[↓E1,E2,seval, *];refine hx'.out _ _ _ ⟨o2,xo2,S2,K2,?_,?_,?_⟩;all_goals simp[updN,updE, *]
 ·refine⟨trim o n,xo,by simpa[allM]using S1,Kp.refl,?_,?_,?_⟩;all_goals simp[updN,updE,envI]
 ·rintro -e mu2 n2 ⟨o2,xo2,S2,K2,e0,e3,e4⟩;simp only[↓E1,E2,seval];exact hkH.out _ _ _ _ S2 (hKA.trans K2).trim
theorem Qjn {lo:Nat} {fz:Fz} {s:Nat} {o:Nat->Nat} {mu:St} {n:Nat} {r:Rep} {out:List Msg} {vd:Bool} {xe xa xs xd xo:SV} (S:SW lo fz s o mu n r out vd xe xa xs xd xo)
 {N:Nat} (hN:r.nodes=(N:Int)) (hN7:N<=7) {k:KT Prop} {w:WK k}
 (hk:∀mu' n' o' xa',SW lo fz s o' mu' n' (anewR r N) out vd xe xa' .nsl .nsl xo->Kp (λ_=>False) s o o' mu n mu' n'->k noVal mu' n'):CPh P n_Qbx [.one (.optr s 0)] fz mu n k w:=by
 refine CP_of H.Qbx H.mx 0 ?_;have hsn:s<n:=S.slt;obtain⟨⟨xek,xem⟩,⟨xak,xam⟩,⟨xsk,xsm⟩,⟨xdk,xdm⟩,xok,xom⟩:=S.ks;have hc:=S.cells;have ws:=Qem (fz:=fz) hc
 -- the first stores
 obtain⟨r1,hr1⟩:∃r1,{r with sent:=false,starts:=[],dos:=[]}=r1:=⟨_,rfl⟩
 have hT1:RepT o (with' mu fz) r1 xe xa .nsl .nsl:=S.rt.nil2 (by rw[<-hr1]) (by rw[<-hr1];exact S.rt.acks) (by rw[<-hr1]) (by rw[<-hr1]);have S1:=S.putT (vd':=vd) hT1;have K1:Kp (λ_=>False) s o o mu n _ n:=S.kput (c:=stepC r1 xe xa .nsl .nsl xo vd);have hc1:=S1.cells;have hput:stepC r1 xe xa .nsl .nsl xo vd=[I r.me,I r.nodes,I r.view,I r.normal,I r.status,I r.commit,.bool false,I r.log.base,r.log.snap.sv,xe,xa,.nsl,.nsl,xo,.bool vd]:=by rw[<-hr1];rfl
 rw[hput]at S1 K1 hc1
 -- the row of acks
 have g2:Gr n fz (putS mu s [I r.me,I r.nodes,I r.view,I r.normal,I r.status,I r.commit,.bool false,I r.log.base,r.log.snap.sv,xe,xa,.nsl,.nsl,xo,.bool vd]) ((n,rep [I 0] N)::putS mu s [I r.me,I r.nodes,I r.view,I r.normal,I r.status,I r.commit,.bool false,I r.log.base,r.log.snap.sv,xe,xa,.nsl,.nsl,xo,.bool vd]) n (n+1):=(Gr.refl S1.free).cons (Nat.le_refl _) _;have S2:=S1.grT (λ_=>3) g2;have K2:Kp (λ_=>False) s o _ _ n _ (n+1):=S1.kgrT (λ_=>3) g2;have hT3:RepT (tagN o n λ_=>3) (with' ((n,rep [I 0] N)::putS mu s [I r.me,I r.nodes,I r.view,I r.normal,I r.status,I r.commit,.bool false,I r.log.base,r.log.snap.sv,xe,xa,.nsl,.nsl,xo,.bool vd]) fz) (anewR r N) xe (.osl n 0 N N 1) .nsl .nsl:=by
  refine S2.rt.nil2 (by rw[<-hr1];rfl) ?_ rfl rfl;refine .inr ⟨n,by simp[anewR],Tag.at (by rw[Qgn (Nat.le_refl _)]) (by rw[Qfl,if_pos rfl,Qs6];rfl),?_,Qjg⟩;exact Qfu (Qe3 Qjg)
 have S3:=S2.putT (vd':=vd) hT3;have K3:Kp (λ_=>False) s _ _ _ (n+1) _ (n+1):=S2.kput (c:=stepC (anewR r N) xe (.osl n 0 N N 1) .nsl .nsl xo vd);have hk3:=hk _ _ _ _ S3 ((K1.trans K2).trans K3);have hw1:=Qem (fz:=fz) hc1;have hne:(n=s)=False:=by simp;omega
 have hfits:fits N 8=true:=Qfc (by omega) (by decide) (by decide);have hNN:(N<N)=False:=by simp
 have hcell3:stepC (anewR r N) xe (.osl n 0 N N 1) .nsl .nsl xo vd=[I r.me,I r.nodes,I r.view,I r.normal,I r.status,I r.commit,.bool false,I r.log.base,r.log.snap.sv,xe,.osl n 0 N N 1,.nsl,.nsl,xo,.bool vd]:=rfl;rw[hcell3]at hk3;clear hk S S1 S2 S3 K1 K2 K3 hT1 hT3 hcell3 hput g2;rw[dY a_Qbx.eq_1 b_Qbx.eq_1];unfold stepC repC at hc ws;rw[hN]at*
 simp only[↓E1,E2,seval, *,E3];rw[Qlk,if_neg (by omega),Qkq]at hk3;exact hk3
theorem Qnl {lo:Nat} {fz:Fz} {s:Nat} {o:Nat->Nat} {mu:St} {n:Nat} {r:Rep} {out:List Msg} {vd:Bool} {xe xa xs xd xo:SV} (S:SW lo fz s o mu n r out vd xe xa xs xd xo) (v:Int)
 {N:Nat} (hN:r.nodes=(N:Int)) (hN7:N<=7) (hl:out.length<=900) {k:KT Prop} {w:WK k}
 (hk:∀mu' n' o' xa' xo',SW lo fz s o' mu' n' (Qfg r v N) (out++allM r (Qg3 v) N) vd xe xa' .nsl .nsl xo'->Kp (· =7) s o o' mu n mu' n'->k noVal mu' n'):CPh P n_Qbt [.one (.optr s 0),.one (I v)] fz mu n k w:=by
 refine CP_of H.Qbt H.mx 0 ?_;obtain⟨⟨xek,xem⟩,⟨xak,xam⟩,⟨xsk,xsm⟩,⟨xdk,xdm⟩,xok,xom⟩:=S.ks;have hc:=S.cells;have ws:=Qem (fz:=fz) hc;have S1:=S.put (r':={r with view:=v,status:=1}) (vd':=vd) rfl rfl rfl rfl;have K1:Kp (λ_=>False) s o o mu n _ n:=S.kput (c:=stepC {r with view:=v,status:=1} xe xa xs xd xo vd);have hkH:=Hide.mk hk;have hN':=Hide.mk hN;clear hk hN;rw[dY a_Qbt.eq_1 b_Qbt.eq_1];unfold stepC repC at hc ws S1 K1;simp only[↓E1,E2,seval, *,E3];refine Qjn H S1 hN'.out hN7 λm2 n2 o2 xa2 S2 K2=>?_;simp only[↓E1,E2,seval, *,E3];have hAll:=λ(k:KT Prop) (w:WK k)=>Qs8 H S2 (Qg3 v) .nsl .nsl (.inl ⟨.inl rfl,rfl⟩) (nilE _) (Ql4 v).log hl (N:=N) hN'.out hN7 (k:=k) (w:=w);refine hAll _ _ λm4 n4 o4 xo4 S4 K4=>?_;simp only[↓E1,E2,seval, *,E3];exact hkH.out _ _ _ _ _ S4 (((K1.trans K2).weaken (λt h=>h.elim)).trans K4)
end
def addE (r:Rep) (e:Ent):Rep:={r with log:={r.log with ents:=r.log.ents++[e]}}
def F2 (o:Nat->Nat) (n:Nat) (M:Fz):Fz:=λj=>if n<=j\/o j=2 then M j else none
theorem F2.el {o:Nat->Nat} {n j:Nat} {M:Fz} {B:List SV} (h:F2 o n M j=some B):(n<=j\/o j=2)/\M j=some B:=by
 unfold F2 at h;split at h
 ·rename_i e;exact⟨e,h⟩
 ·cases h
theorem F2.at {o:Nat->Nat} {n j:Nat} {M:Fz} {B:List SV} (h:n<=j\/o j=2) (g:M j=some B):F2 o n M j=some B:=by unfold F2;rw[if_pos h];exact g
theorem SW.put0 {lo:Nat} {fz:Fz} {s:Nat} {o:Nat->Nat} {mu:St} {n:Nat} {r:Rep} {out:List Msg} {vd:Bool} {xe xa xs xd xo:SV} (S:SW lo fz s o mu n r out vd xe xa xs xd xo) {id:Nat} {c d:List SV} (h:Ev.look mu id=some d) (ho:o id=0):SW lo fz s o (putS mu id c) n r out vd xe xa xs xd xo:=by
 have u:∀t,t≠0->Sub (Tag o t (with' mu fz)) (Tag o t (with' (putS mu id c) fz)):=λt ht=>Tag.put (lookI h) (by rw[ho];omega);have hne:id≠s:=λe=>by have:=S.os;rw[<-e,ho]at this;omega
 refine⟨by rw[Qen,if_neg hne];exact S.cells,S.rt.keep λt h1 h2=>u t (by omega),S.ot.keep (u 2 (by omega)) (u 7 (by omega)) (u 8 (by omega)),λj=>?_,S.los,S.os,S.zero,S.fzl⟩;have:=S.free.lt (Qem (fz:=fz) h);rw[Qet h,if_neg (by omega)];exact S.free j
theorem look_kc {m:St} {id:Nat} {c d:List SV} (h:Ev.look m id=some d) (j:Nat):Ev.look ((id,c)::killS m id) j=Ev.look (putS m id c) j:=by
 rw[Qer,Qfe,Qen];by_cases e:id=j
 ·rw[if_pos e,if_pos e,h];rfl
 ·rw[if_neg e,if_neg e,if_neg e]
theorem SW.appE {lo:Nat} {fz:Fz} {s:Nat} {o:Nat->Nat} {mu:St} {n:Nat} {r:Rep} {out:List Msg} {vd:Bool} {xe xa xs xd xo:SV} (S:SW lo fz s o mu n r out vd xe xa xs xd xo) {mu2:St} {n2:Nat} (g:Gr n fz mu mu2 n n2) {e:Ent} {b:SV}
 (hb:PtsX (F2 o n (with' mu2 fz)) b e.batch) (hl:r.log.ents.length<=1000000) {K:KT Prop}
 (hk:∀m3 o' xe',xe'.known=true->Ev.look m3 s=some (stepC r xe xa xs xd xo vd)->SW lo fz s o' (putS m3 s (stepC (addE r e) xe' xa xs xd xo vd)) (n2+1) (addE r e) out vd xe' xa xs xd xo->Kp (· =1) s o o' mu n (putS m3 s (stepC (addE r e) xe' xa xs xd xo vd)) (n2+1)->PtsX (Tag28 o' (with' (putS m3 s (stepC (addE r e) xe' xa xs xd xo vd)) fz)) b e.batch->
  (∀j,n<=j->j≠n2->Ev.look m3 j=Ev.look mu2 j)->K (.one xe') m3 (n2+1)):
 onApp mu2 n2 5 56 xe (entC e b) 1 K:=by
 obtain⟨⟨cs,h1,h2⟩,h3,h4,ds,h5,h6⟩:=S.rt;have hcl:=h2.length;have hfz:∀j,o j≠0->fz j=none:=λj hj=>S.fzl j (S.ge hj);have hG:∀id B,Tag o 1 (with' mu fz) id=some B->Ev.look mu2 id=some B:=λid B h=>by
  obtain⟨p1,p2⟩:=Tag.el h;have p3:=S.free.lt p2;rw[Qfp (hfz id (by omega))]at p2;exact(g.own id p3).trans p2
 obtain⟨-,-,zbk,-⟩:=SlX.len hb;have hkn:Qeq (entC e b)=true:=by unfold entC;simp only[↓E1,E2,seval, *]
 have hfl:onApp mu2 n2 5 56 xe ([entC e b]:List (List SV)).flatten ([entC e b]:List (List SV)).length K:=by
  refine Qhw (G:=Tag o 1 (with' mu fz)) h1 hG (by rw[hcl];exact Qfc (by simp;omega) (by decide) (by decide)) (by simp) (λe he=>by rw[List.mem_singleton.1 he];exact⟨rfl,hkn⟩) λm3 ho hn=>?_;have hsame:∀j,j≠n2->(j<n->o j≠1)->Ev.look m3 j=Ev.look mu2 j:=λj hj h7=>by
   rcases ho j hj with h|⟨B,p1,-⟩
   ·exact h
   ·obtain⟨p2,p3⟩:=Tag.el p1;exact(h7 (S.free.lt p3) p2).elim
  have hs2:s<n:=S.slt;have hln:=g.le;have hs3:Ev.look m3 s=some (stepC r xe xa xs xd xo vd):=(hsame s (by omega) (λ_=>by rw[S.os];omega)).trans ((g.own s hs2).trans S.cells);have hlon:=S.lon;let o':Nat->Nat:=tagN o n λj=>if j=n2 then 1 else 2
  have ho1:∀j,j<n->o' j=o j:=λj hj=>Qfm hj;have ho2:o' n2=1:=by show tagN o n _ n2=1;rw[Qgn hln];simp
  have ho3:∀j,n<=j->j≠n2->o' j=2:=λj hj hne=>by show tagN o n _ j=2;rw[Qgn hj,if_neg hne]
  have hput:∀(x':SV) j,j≠s->with' (putS m3 s (stepC (addE r e) x' xa xs xd xo vd)) fz j=with' m3 fz j:=λx' j hj=>by rw[Qet hs3,if_neg (by omega)]
  have u:∀(x':SV) t,t≠1->t≠9->t≠0->Sub (Tag o t (with' mu fz)) (Tag o' t (with' (putS m3 s (stepC (addE r e) x' xa xs xd xo vd)) fz)):=λx' t ht ht9 ht0 j B hj=>by
   obtain⟨p1,p2⟩:=Tag.el hj;have p3:=S.free.lt p2;refine Tag.at (by rw[ho1 j p3];exact p1) ?_;rw[hput x' j (λe=>by rw[e,S.os]at p1;omega),Qeu (hsame j (by omega) (λ_=>by omega)),g.ext j p3];exact p2
  have uN:∀(x':SV),Sub (F2 o n (with' mu2 fz)) (Tag o' 2 (with' (putS m3 s (stepC (addE r e) x' xa xs xd xo vd)) fz)):=λx' j B hj=>by
   obtain⟨p1,p2⟩:=F2.el hj;have p3:=g.free.lt p2;rcases Nat.lt_or_ge j n with hjn|hjn
   ·have p4:o j=2:=p1.resolve_left (by omega);refine Tag.at (by rw[ho1 j hjn];exact p4) ?_;rw[hput x' j (λe=>by rw[e,S.os]at p4;omega),Qeu (hsame j (by omega) (λ_=>by omega))];exact p2
   ·refine Tag.at (ho3 j hjn (by omega)) ?_;rw[hput x' j (by omega),Qeu (hsame j (by omega) (λ_=>by omega))];exact p2
  have hn7:∀(x':SV),with' (putS m3 s (stepC (addE r e) x' xa xs xd xo vd)) fz n2=some (cs++[entC e b]).flatten:=λx'=>by rw[hput x' n2 (by omega)];exact Qem hn
  have hfree:∀(x':SV),Free fz (putS m3 s (stepC (addE r e) x' xa xs xd xo vd)) (n2+1):=λx' j=>by
   rw[hput x' _ (by omega),Qeu (hsame (n2+1+j) (by omega) (λ_=>by omega))];exact g.free.none (by omega)
  have hkf:∀e'∈cs++[entC e b],e'.length=5/\Qeq e'=true:=λe' he=>by
   rcases List.mem_append.1 he with he|he
   ·rcases h1 with⟨_,rfl⟩|⟨id,_,_,_,h4⟩
    ·cases he
    ·exact h4 e' he
   ·rw[List.mem_singleton.1 he];exact⟨rfl,hkn⟩
  refine hk m3 o' _ rfl hs3 ⟨by rw[Qen,if_pos rfl,hs3];rfl,⟨⟨cs++[entC e b],.inr ⟨n2,rfl,Tag.at ho2 (hn7 _),Qfu (Qe3 hkf),hkf⟩,?_⟩,IntsX.mono (u _ 3 (by omega) (by omega) (by omega)) h3,IntsX.mono (u _ 4 (by omega) (by omega) (by omega)) h4,ds,h5.mono (u _ 5 (by omega) (by omega) (by omega)),h6.imp λc a g=>DvX.mono (u _ 6 (by omega) (by omega) (by omega)) g⟩,
   S.ot.keep (u _ 2 (by omega) (by omega) (by omega)) (u _ 7 (by omega) (by omega) (by omega)) (u _ 8 (by omega) (by omega) (by omega)),hfree _,S.los,by rw[ho1 s hs2];exact S.os,λj hj=>by rw[ho1 j (by omega)];exact S.zero j hj,S.fzl⟩ ⟨by omega,ho1,λj hj hjs h7=>?_⟩ ?_ (λj h1 h2=>hsame j h2 (λh=>by omega))
  ·exact All2.append (h2.imp λc a h=>EntX.mono (u _ 2 (by omega) (by omega) (by omega)) h) ⟨⟨b,rfl,PtsX.mono (uN _) hb⟩,trivial⟩
  ·rw[Qen,if_neg (by omega),hsame j (by omega) (λ_=>h7)];exact g.own j hj
  ·exact PtsX.mono ((uN _).trans λj B h=>Tag28.at (.inl (Tag.el h).1) (Tag.el h).2) hb
 simpa only[List.flatten_cons,List.flatten_nil,List.append_nil,List.length_cons,List.length_nil,Nat.zero_add]using hfl
def tk0 (r:Rep) (g:Lg) (N:Nat):Rep:=anewR {r with log:=g,normal:=r.view,status:=0} N
def takeR (r:Rep) (l:Lg) (commit:Int) (N:Nat):Option Rep:=match instL r.log l with
 |none=>none
 |some g=>if last g<r.commit then none else some {tk0 r g N with commit:=max (max r.commit (min commit (last g))) g.base}
theorem Kp.put0 {T:Nat->Prop} {s:Nat} {o o':Nat->Nat} {mu mu':St} {n n' id:Nat} {c:List SV} (h:Kp T s o o' mu n mu' n') (hid:n<=id):Kp T s o o' mu n (putS mu' id c) n':=⟨h.le,h.tags,λj hj h1 h2=>by rw[Qen,if_neg (by omega)];exact h.keep j hj h1 h2⟩
theorem Kp.le2 {T:Nat->Prop} {s:Nat} {o o':Nat->Nat} {mu mu':St} {n n' n2:Nat} (h:Kp T s o o' mu n mu' n') (hn:n'<=n2):Kp T s o o' mu n mu' n2:=⟨Nat.le_trans h.le hn,h.tags,h.keep⟩
section
variable {P:Program} (H:Fs P)
include H
theorem step_take {lo:Nat} {fz:Fz} {s:Nat} {o:Nat->Nat} {mu:St} {n:Nat} {r:Rep} {out:List Msg} {vd:Bool} {xe xa xs xd xo:SV} (S:SW lo fz s o mu n r out vd xe xa xs xd xo) (l:Lg) (ye:SV) (commit:Int)
 (hm:EntsR (with' mu fz) ye l.ents) (hz:LgSz l) {N:Nat} (hN:r.nodes=(N:Int)) (hN7:N<=7) {k:KT Prop} {w:WK k}
 (hk1:∀r',takeR r l commit N=some r'->∀mu' n' o' xe' xa',SW lo fz s o' mu' n' r' out vd xe' xa' .nsl .nsl xo->Kp (λ_=>False) s o o' mu n mu' n'->k (.one (.bool true)) mu' n')
 (hk2:takeR r l commit N=none->∀mu' n' o',SW lo fz s o' mu' n' r out true xe xa xs xd xo->Kp (λ_=>False) s o o' mu n mu' n'->k (.one (.bool false)) mu' n'):CPh P n_Qbi [.one (.optr s 0),.ag (lgC l ye),.one (I commit)] fz mu n k w:=by
 refine CP_of H.Qbi H.mx 0 ?_;obtain⟨-,-,yek,yem⟩:=hm.len;have hsn:s<n:=S.slt;have gA:=(Gr.refl (lo:=n) S.free).cons (Nat.le_refl _) (lgC l ye);have S1:=S.trim.gr gA;have b1:Ev.look ((n,lgC l ye)::mu) n=some (lgC l ye):=by rw[Qer,if_pos rfl]
 have K1:Kp (λ_=>False) s (trim o n) (trim o n) mu n ((n,lgC l ye)::mu) (n+1):=Gr.kp gA;have hm1:=EntsR.mono (gA.sub S.free (Nat.le_refl _)) hm;have hon:trim o n n=0:=Qhr (Nat.le_refl _);have hlon:=S.lon;obtain⟨m1,hm1e⟩:∃mz:St,((n,lgC l ye)::mu)=mz:=⟨_,rfl⟩
 rw[hm1e]at gA S1 b1 K1 hm1;obtain⟨⟨xek,xem⟩,⟨xak,xam⟩,⟨xsk,xsm⟩,⟨xdk,xdm⟩,xok,xom⟩:=S1.ks;have ws1:=Qem (fz:=fz) S1.cells;have wb1:=Qem (fz:=fz) b1;have hC:=choose_Install H r.log l xe ye hz;have hne:(n=s)=False:=by simp;omega
 rw[dY a_Qbi.eq_1 b_Qbi.eq_1];unfold lgC at hm1e b1 wb1 hC⊢;unfold stepC repC at ws1;have hH1:=Hide.mk hk1;have hH2:=Hide.mk hk2;have hNH:=Hide.mk hN;clear hk1 hk2 hN;simp only[↓E1,E2,seval, *,E3];refine hC.d2 S1.free ⟨S1.rs.1,hm1⟩ ?_;have hcalls:=S1.cells;rintro v new n2 g2 (⟨g,x',hI,rfl,hG⟩|⟨hI,rfl⟩)
 ·have l2:=g2.le;obtain⟨-,-,zk,zm⟩:=hG.len;have S2:=S1.grT (Qg4 x' 1 2) g2;have K2:=K1.trans (S1.kgrT (Qg4 x' 1 2) g2);have d1:=(g2.own n (by omega)).trans b1;have hon2:tagN (trim o n) (n+1) (Qg4 x' 1 2) n=0:=by rw[Qfm (by omega)];exact hon
  have S3:=S2.put0 (c:=[I g.base,g.snap.sv,x']) d1 hon2;have K3:=K2.put0 (c:=[I g.base,g.snap.sv,x']) (Nat.le_refl n);obtain⟨cs,t1,t2⟩:=Grow.tag (R:=EntX) (λh g=>EntX.mono h g) hG (o:=trim o n) (a:=1) (b:=2);have u:∀t,t≠0->Sub (Tag (tagN (trim o n) (n+1) (Qg4 x' 1 2)) t (with' (new++m1) fz)) (Tag (tagN (trim o n) (n+1) (Qg4 x' 1 2)) t (with' (putS (new++m1) n [I g.base,g.snap.sv,x']) fz)):=λt ht=>Tag.put (lookI d1) (by rw[hon2];omega);have t1':=t1.mono (u 1 (by omega));have t2':=t2.imp λc a h=>EntX.mono (u 2 (by omega)) h;have b3:Ev.look (putS (new++m1) n [I g.base,g.snap.sv,x']) n=some [I g.base,g.snap.sv,x']:=by rw[Qen,if_pos rfl,d1];rfl
  have wd1:=Qem (fz:=fz) d1;have ws2:=Qem (fz:=fz) S2.cells;unfold stepC repC at ws2;have hLE:EntsR (with' (putS (new++m1) n [I g.base,g.snap.sv,x']) fz) x' g.ents:=⟨cs,(t1'.mono Tag.sub).to,t2'.imp λc a h=>(EntX.mono Tag.sub h).to⟩
  have hL:=choose_Last H g x';unfold lgC at hL;clear ws1 wb1 hC;unfold lgC;simp only[↓E1,E2,seval, *,E3];obtain⟨m3,hm3⟩:∃m,putS (new++m1) n [I g.base,g.snap.sv,x']=m:=⟨_,rfl⟩
  rw[hm3]at S3 K3 t1' t2' b3 hLE;try rw[hm3]
  have ws3:=Qem (fz:=fz) S3.cells;have wb3:=Qem (fz:=fz) b3;unfold stepC repC at ws3;clear ws2 wd1 d1;refine hL.q1 S3.free hLE ?_;rintro v n4 l4 rfl;have f4:=S3.free.le l4;have hs3:=S3.cells;unfold stepC repC at hs3;clear hL;simp only[↓E1,E2,seval, *,E3];refine Qeo (λhb=>?_) (λhb=>?_)
  ·have hno:takeR r l commit N=none:=by unfold takeR;rw[hI];simp only;rw[if_pos (of_decide_eq_true hb)]
   have S4:=(S3.le l4).put (r':=r) (vd':=true) rfl rfl rfl rfl;have K4:=(K3.trans (S3.kput (c:=stepC r xe xa xs xd xo true))).le2 l4;have hk:=hH2.out hno _ _ _ S4 K4.trim;unfold stepC repC at hk;clear hno S4 K4;simp only[↓E1,E2,seval, *,E3];all_goals exact hk
  ·have hyes:takeR r l commit N=some {tk0 r g N with commit:=max (max r.commit (min commit (last g))) g.base}:=by unfold takeR;rw[hI];simp only;rw[if_neg (of_decide_eq_false hb)]
   have hyH:=Hide.mk hyes;clear hyes;have hT4:RepT (tagN (trim o n) (n+1) (Qg4 x' 1 2)) (with' m3 fz) {r with log:=g,normal:=r.view,status:=0} x' xa xs xd:=⟨⟨cs,t1',t2'⟩,S3.rt.acks,S3.rt.starts,S3.rt.dos⟩
   have S4:=(S3.le l4).putT (vd':=vd) hT4;have K4:=(K3.trans (S3.kput (c:=stepC {r with log:=g,normal:=r.view,status:=0} x' xa xs xd xo vd))).le2 l4;clear hT4 t1' t2' t1 t2 hLE hG hb;unfold stepC repC at S4 K4;simp only[↓E1,E2,seval, *,E3];refine Qkt H S4 hNH.out hN7 λm5 n5 o5 xa5 S5 K5=>?_;obtain⟨r5,hr5⟩:∃r5,tk0 r g N=r5:=⟨_,rfl⟩
   have hr5c:r5.commit=r.commit:=by rw[<-hr5];rfl
   have hr5l:r5.log=g:=by rw[<-hr5];rfl
   have S5:SW lo fz s o5 m5 n5 r5 out vd x' xa5 .nsl .nsl xo:=by rw[<-hr5];exact S5
   have hyes:=hyH.out;rw[hr5,<-hr5c,<-hr5l]at hyes;have hyH2:=Hide.mk hyes;have K5':=(K4.trans K5).trim;clear hyes hyH hr5c hr5l hr5 K5 K4 S4 K3 K2 K1 S3 S2 g2 hI hs3 ws3 wb3 b3 hm3 hm1e b1 S1;have hs5:=S5.cells;have ws5:=Qem (fz:=fz) hs5;have hLa:=replica_step_last H s r5 x' xa5 .nsl .nsl xo vd;unfold stepC repC at hs5 ws5;obtain⟨⟨yek,yem⟩,⟨yak,yam⟩,-,-,-,-⟩:=S5.ks;simp only[↓E1,E4,seval, *];refine hLa.q1 S5.free ⟨Qem S5.cells,S5.rs.1⟩ ?_;rintro v n6 l6 rfl;have S6:=(S5.le l6).put (r':={r5 with commit:=max (max r5.commit (min commit (last r5.log))) r5.log.base}) (vd':=vd) rfl rfl rfl rfl;have K6:=(K5'.trans (S5.kput (c:=stepC {r5 with commit:=max (max r5.commit (min commit (last r5.log))) r5.log.base} x' xa5 .nsl .nsl xo vd))).le2 l6;have hk:=hH1.out _ hyH2.out _ _ _ _ _ S6 K6;unfold stepC repC at hk;clear S6 K6;simp only[↓E1,E4,seval, *];all_goals exact hk
 ·have l2:=g2.le;have hno:takeR r l commit N=none:=by unfold takeR;rw[hI]
  have S2:=S1.gr g2;have K2:=K1.trans (Gr.kp g2);have d1:=(g2.own n (by omega)).trans b1;have wd1:=Qem (fz:=fz) d1;have S3:=S2.put0 (c:=[I 0,.str 0 0,.nsl]) d1 hon;have K3:=K2.put0 (c:=[I 0,.str 0 0,.nsl]) (Nat.le_refl n);have hs2:=S2.cells;have ws2:=Qem (fz:=fz) hs2;unfold stepC repC at ws2 hs2;clear ws1 wb1 hC hI;simp only[↓E1,E2,seval, *,E3];obtain⟨m3,hm3⟩:∃m,putS (new++m1) n [I 0,.str 0 0,.nsl]=m:=⟨_,rfl⟩
  rw[hm3]at S3 K3;try rw[hm3]
  have S4:=S3.put (r':=r) (vd':=true) rfl rfl rfl rfl;have K4:=K3.trans (S3.kput (c:=stepC r xe xa xs xd xo true));have hk:=hH2.out hno _ _ _ S4 K4.trim;have hs3:=S3.cells;unfold stepC repC at hk hs3;clear hno S4 K4 S3 K3;exact hk
theorem Qpn {lo:Nat} {fz:Fz} {s:Nat} {o:Nat->Nat} {mu:St} {n:Nat} {r:Rep} {out:List Msg} {vd:Bool} {xe xa xs xd xo:SV} (S:SW lo fz s o mu n r out vd xe xa xs xd xo) (l:Lg) (ye:SV) (commit:Int)
 (hm:EntsR (with' mu fz) ye l.ents) (hz:LgSz l) (hok1:Ok r.log) (hok2:Ok l) {N:Nat} (hN:r.nodes=(N:Int)) (hN7:N<=7) {k:KT Prop} {w:WK k}
 (hk1:∀r',takeR r l commit N=some r'->∀mu' n' o' xe' xa',SW lo fz s o' mu' n' r' out vd xe' xa' .nsl .nsl xo->Kp (λ_=>False) s o o' mu n mu' n'->k noVal mu' n')
 (hk2:takeR r l commit N=none->∀mu' n' o',SW lo fz s o' mu' n' r out true xe xa xs xd xo->Kp (λ_=>False) s o o' mu n mu' n'->k noVal mu' n'):CPh P n_Qcb [.one (.optr s 0),.ag (lgC l ye),.one (I commit)] fz mu n k w:=by
 refine CP_of H.Qcb H.mx 0 ?_;obtain⟨-,-,yek,yem⟩:=hm.len;have hsn:s<n:=S.slt;have gA:=(Gr.refl (lo:=n) S.free).cons (Nat.le_refl _) (lgC l ye);have S1:=S.trim.gr gA;have b1:Ev.look ((n,lgC l ye)::mu) n=some (lgC l ye):=by rw[Qer,if_pos rfl]
 have K1:Kp (λ_=>False) s (trim o n) (trim o n) mu n ((n,lgC l ye)::mu) (n+1):=Gr.kp gA;have hm1:=EntsR.mono (gA.sub S.free (Nat.le_refl _)) hm;have hlon:=S.lon;obtain⟨m1,hm1e⟩:∃mz:St,((n,lgC l ye)::mu)=mz:=⟨_,rfl⟩
 rw[hm1e]at gA S1 b1 K1 hm1;obtain⟨⟨xek,xem⟩,⟨xak,xam⟩,⟨xsk,xsm⟩,⟨xdk,xdm⟩,xok,xom⟩:=S1.ks;have ws1:=Qem (fz:=fz) S1.cells;have wb1:=Qem (fz:=fz) b1;have hC:=ref16_Install H r.log l xe ye hz hok1 hok2;have hne:(n=s)=False:=by simp;omega
 rw[dY a_Qcb.eq_1 b_Qcb.eq_1];unfold lgC at hm1e b1 wb1 hC⊢;unfold stepC repC at ws1;have hH1:=Hide.mk hk1;have hH2:=Hide.mk hk2;have hNH:=Hide.mk hN;clear hk1 hk2 hN;simp only[↓E1,E2,seval, *,E3];refine hC.d2 S1.free ⟨S1.rs.1,hm1⟩ ?_;rintro v new n2 g2 (⟨g,x',hI,rfl,hG⟩|⟨hI,rfl⟩)
 ·have l2:=g2.le;obtain⟨-,-,zk,zm⟩:=hG.len;have gB:=g2.cons (by omega) [I g.base,g.snap.sv,x'];have S3:=S1.grT (Qg4 x' 1 2) gB;have K3:=K1.trans (S1.kgrT (Qg4 x' 1 2) gB);have hG':=Grow.mono (R:=EntX) (λh g=>EntX.mono h g) hG (From.mono (((Gr.refl (lo:=n2) g2.free).cons (Nat.le_refl _) [I g.base,g.snap.sv,x']).sub g2.free (Nat.le_refl _)));obtain⟨cs,t1,t2⟩:=Grow.tag (R:=EntX) (λh g=>EntX.mono h g) hG' (o:=trim o n) (a:=1) (b:=2);have b3:Ev.look ((n2,[I g.base,g.snap.sv,x'])::(new++m1)) n2=some [I g.base,g.snap.sv,x']:=by rw[Qer,if_pos rfl]
  have hLE:EntsR (with' ((n2,[I g.base,g.snap.sv,x'])::(new++m1)) fz) x' g.ents:=⟨cs,(t1.mono Tag.sub).to,t2.imp λc a h=>(EntX.mono Tag.sub h).to⟩
  have hL:=ref16_Last H g x';have hne2:(n2=s)=False:=by simp;omega
  unfold lgC at hL;clear ws1 wb1 hC;unfold lgC;obtain⟨m3,hm3⟩:∃m,((n2,[I g.base,g.snap.sv,x'])::(new++m1))=m:=⟨_,rfl⟩
  rw[hm3]at S3 K3 t1 t2 b3 hLE;have ws3:=Qem (fz:=fz) S3.cells;have wb3:=Qem (fz:=fz) b3;unfold stepC repC at ws3;simp only[↓E1,E2,seval, *,E3];refine hL.q1 S3.free hLE ?_;rintro v n4 l4 rfl;have f4:=S3.free.le l4;have hs3:=S3.cells;unfold stepC repC at hs3;clear hL;simp only[↓E1,E2,seval, *,E3];refine Qeo (λhb=>?_) (λhb=>?_)
  ·have hno:takeR r l commit N=none:=by unfold takeR;rw[hI];simp only;rw[if_pos (of_decide_eq_true hb)]
   have S4:=(S3.le l4).put (r':=r) (vd':=true) rfl rfl rfl rfl;have K4:=(K3.trans (S3.kput (c:=stepC r xe xa xs xd xo true))).le2 l4;have hk:=hH2.out hno _ _ _ S4 K4.trim;unfold stepC repC at hk;clear hno S4 K4;simp only[↓E1,E2,seval, *,E3];all_goals exact hk
  ·have hyes:takeR r l commit N=some {tk0 r g N with commit:=max (max r.commit (min commit (last g))) g.base}:=by unfold takeR;rw[hI];simp only;rw[if_neg (of_decide_eq_false hb)]
   have hyH:=Hide.mk hyes;clear hyes;have hT4:RepT (tagN (trim o n) (n+1) (Qg4 x' 1 2)) (with' m3 fz) {r with log:=g,normal:=r.view,status:=0} x' xa xs xd:=⟨⟨cs,t1,t2⟩,S3.rt.acks,S3.rt.starts,S3.rt.dos⟩
   have S4:=(S3.le l4).putT (vd':=vd) hT4;have K4:=(K3.trans (S3.kput (c:=stepC {r with log:=g,normal:=r.view,status:=0} x' xa xs xd xo vd))).le2 l4;have b4:Ev.look (putS m3 s (stepC {r with log:=g,normal:=r.view,status:=0} x' xa xs xd xo vd)) n2=some [I g.base,g.snap.sv,x']:=by rw[Qen,if_neg (by omega)];exact b3
   have n2n4:n2<n4:=by have:=S3.free.lt wb3;omega
   clear hT4 t1 t2 hLE hG hG' hb;unfold stepC repC at S4 K4 b4;simp only[↓E1,E2,seval, *,E3];refine Qjn H S4 hNH.out hN7 λm5 n5 o5 xa5 S5 K5=>?_;have b5:=(K5.keep n2 n2n4 (by omega) (λh=>h)).trans b4;have wb5:=Qem (fz:=fz) b5;obtain⟨r5,hr5⟩:∃r5,tk0 r g N=r5:=⟨_,rfl⟩
   have hr5c:r5.commit=r.commit:=by rw[<-hr5];rfl
   have hr5l:r5.log=g:=by rw[<-hr5];rfl
   have S5:SW lo fz s o5 m5 n5 r5 out vd x' xa5 .nsl .nsl xo:=by rw[<-hr5];exact S5
   have hyes:=hyH.out;rw[hr5,<-hr5c]at hyes;have hyH2:=Hide.mk hyes;have K5':=(K4.trans K5).trim;have hEn:=S5.rs.1;rw[hr5l]at hEn;clear hyes hyH hr5c hr5l hr5 K5 K4 S4 K3 K1 S3 g2 gB hI hs3 ws3 wb3 b3 hm3 hm1e b1 S1 b4;have hs5:=S5.cells;have ws5:=Qem (fz:=fz) hs5;have hLa:=ref16_Last H g x';unfold lgC at hLa;unfold stepC repC at hs5 ws5;obtain⟨⟨yek,yem⟩,⟨yak,yam⟩,-,-,-,-⟩:=S5.ks;simp only[↓E1,E4,seval, *];refine hLa.q1 S5.free hEn ?_;rintro v n6 l6 rfl;have S6:=(S5.le l6).put (r':={r5 with commit:=max (max r5.commit (min commit (last g))) g.base}) (vd':=vd) rfl rfl rfl rfl;have K6:=(K5'.trans (S5.kput (c:=stepC {r5 with commit:=max (max r5.commit (min commit (last g))) g.base} x' xa5 .nsl .nsl xo vd))).le2 l6;have hk:=hH1.out _ hyH2.out _ _ _ _ _ S6 K6;unfold stepC repC at hk;clear S6 K6;simp only[↓E1,E4,seval, *];all_goals exact hk
 ·have l2:=g2.le;have hno:takeR r l commit N=none:=by unfold takeR;rw[hI]
  have gB:=g2.cons (by omega) [I 0,.str 0 0,.nsl];have S3:=S1.gr gB;have K3:=K1.trans (Gr.kp gB);have hne2:(n2=s)=False:=by simp;omega
  clear ws1 wb1 hC hI;have b3:Ev.look ((n2,[I 0,.str 0 0,.nsl])::(new++m1)) n2=some [I 0,.str 0 0,.nsl]:=by rw[Qer,if_pos rfl]
  have S4:=S3.put (r':=r) (vd':=true) rfl rfl rfl rfl;have K4:=K3.trans (S3.kput (c:=stepC r xe xa xs xd xo true));have hk:=hH2.out hno _ _ _ S4 K4.trim;have hs3:=S3.cells;unfold stepC repC at hk hs3;clear hno S4 K4 S3 K3;simp only[↓E1,E2,seval, *,E3];rw[Qlk,if_neg (by omega)]at hk;exact hk
theorem ref16_Committed (x:SV) (acks:List Int) (me last:Int) (hl:acks.length<=4611686018427387904) (hlast:last<=4611686018427387904):Ctr P n_Qcc [.one x,.one (I me),.one (I last)] (fun M=>IntsR M x acks) (fun _ _ _ v=>v=.one (I (commF acks me last))):=Ctr.of H.mx H.Qcc (fun _=>acks.length+last.toNat+2) fun fz mu n k hfr s1 hk=>by
 obtain⟨xl,xs,xk,xm⟩:=s1.len;obtain⟨f,hf⟩:∃f,(acks.length-1)/2=f:=⟨_,rfl⟩
 have hw1:IntKind.i64.wrap ((acks.length:Int)-1)=(acks.length:Int)-1:=wrap64 (by omega) (by omega);have hq:((acks.length:Int)-1).tdiv 2=(f:Int):=by
  rcases Nat.eq_zero_or_pos acks.length with h0|h0
  ·rw[h0]at hf⊢;subst hf;rfl
  ·rw[Int.tdiv_eq_ediv_of_nonneg (by omega)];omega
 have hw2:IntKind.i64.wrap (f:Int)=(f:Int):=wrap64 (by omega) (by omega);rw[dY a_Qcc.eq_1 b_Qcc.eq_1];simp only[↓E1,E2,seval, *];refine loopI (x:=0) (L:=last.toNat) (p:=λi=>decide (manyL me acks (last-(i:Nat))<f)) (λi e mu' n'=>Gr n fz mu mu' n n'/\(∀j:Nat,j<i->manyL me acks (last-j)<f)/\e 0 0=.one x/\e 0 1=.one (I me)/\e 0 7=.one (.int .i64 (f:Nat))/\e 0 8=.one (I (last-(i:Nat)))) (λe mu' n'=>∃i:Nat,Gr n fz mu mu' n n'/\i<last.toNat/\(∀j:Nat,j<i->manyL me acks (last-j)<f)/\f<=manyL me acks (last-i)/\e 0 6=.one (I (last-(i:Nat)))) ?_ ?_ _ _ _ _ _ (by omega) ?_ ?_ ?_
 ·rintro i e mu1 n1 K hi ⟨g1,hlo,e0,e1,e7,e8⟩ hy hn;rw[dX l_Qcc_1.eq_1];have hgt:(0<last-(i:Int))=True:=by simp;omega
  have hsub:IntKind.i64.wrap (last-(i:Int)-1)=last-((i+1:Nat):Int):=by rw[wrap64 (by omega) (by omega)];omega
  simp only[↓E1,E2,seval, *];refine loopI (x:=2) (L:=acks.length) (p:=λ_=>true) (λj e mu' n'=>Gr n fz mu mu' n n'/\e 0 0=.one x/\e 0 1=.one (I me)/\e 0 7=.one (.int .i64 (f:Nat))/\e 0 8=.one (I (last-(i:Nat)))/\e 0 9=.one (.int .i64 (manyL me (acks.take j) (last-(i:Nat)):Nat))/\e 0 10=.one (.int .i64 j)) (λ_ _ _=>False) ?_ ?_ _ _ _ _ _ (by omega) ?_ ?_ ?_
  ·rintro j e mu1 n1 K hj ⟨g2,e0,e1,e7,e8,e9,e10⟩ hy2 hn2;rw[dX l_Qcc_0.eq_1];have hw:=Qev hj hl;have hmt:=Qvm me (last-(i:Int)) hj;have hml:=many_le me (acks.take j) (last-(i:Int));have hml2:(acks.take j).length<=acks.length:=by rw[List.length_take];omega
   have hw9:IntKind.i64.wrap ((manyL me (acks.take j) (last-(i:Int)):Int)+1)=((manyL me (acks.take j) (last-(i:Int))+1:Nat):Int):=by rw[wrap64 (by omega) (by omega)];omega
   obtain⟨id,off,cap,B,rfl,hB,hmk,hbd,hsub2⟩:=(IntsR.mono (λ_ _ hh=>g2.old hfr hh) s1).elem hj;simp only[↓E1,E2,seval, *];clear hk hy hn hlo hf hw1 hq hw2;have hA:True:=trivial;repeat' (refine Qeo (λhb=>?_) (λhb=>?_)<;>replace hA:=And.intro hA hb<;>simp only[↓E1,E2,seval,hb, *]<;>clear hb)
   all_goals
    first
     |(have hm:manyL me (acks.take (j+1)) (last-(i:Int))=manyL me (acks.take j) (last-(i:Int)):=by
         rw[hmt];split
         ·rename_i hc;exfalso;obtain⟨c1,c2⟩:=hc;simp at hA;omega
         ·rfl
       refine hy2 rfl _ _ _ ⟨g2,?_,?_,?_,?_,?_,?_⟩;all_goals (clear hA hmt;simp[updN,updE, *];done))
     |(have hm:manyL me (acks.take (j+1)) (last-(i:Int))=manyL me (acks.take j) (last-(i:Int))+1:=by
         rw[hmt];split
         ·rfl
         ·rename_i hc;exfalso;apply hc;simp at hA;refine⟨?_,?_⟩<;>omega
       refine hy2 rfl _ _ _ ⟨g2,?_,?_,?_,?_,?_,?_⟩;all_goals (clear hA hmt;simp[updN,updE, *];done))
  ·rintro e mu1 n1 K ⟨g2,e0,e1,e7,e8,e9,e10⟩ hx;rw[dX l_Qcc_0.eq_1];have hlt:(acks.length<acks.length)=False:=by simp
   clear hk hy hn hlo;simp only[↓E1,E2,seval, *];try (refine hx _ _ _ ⟨g2,?_,?_,?_,?_,?_,?_⟩<;>simp[updN,updE, *])
  ·refine⟨g1,?_,?_,?_,?_,?_,?_⟩;all_goals (clear hk hy hn hlo;simp[updN,updE, *])
   all_goals (unfold manyL;rfl)
  ·rintro -e mu1 n1 ⟨g2,e0,e1,e7,e8,e9,e10⟩;rw[List.take_length]at e9;have hlo':=Hide.mk hlo;clear hlo;have hY:=Hide.mk hy;have hN:=Hide.mk hn;clear hk hn hy;simp only[↓E1,E2,seval, *];refine Qeo (λhb=>?_) (λhb=>?_)
   ·have hb':f<=manyL me acks (last-(i:Int)):=of_decide_eq_true hb;simp only[↓E1,E2,seval, *];refine hN.out (decide_eq_false (by omega)) _ _ _ ⟨i,g2,hi,hlo'.out,hb',?_⟩;simp[updN,updE]
   ·have hb':¬f<=manyL me acks (last-(i:Int)):=of_decide_eq_false hb;simp only[↓E1,E2,seval, *];refine hY.out (decide_eq_true (by omega)) _ _ _ ⟨g2,λj hj=>?_,?_,?_,?_,?_⟩
    ·rcases Nat.lt_or_ge j i with h|h
     ·exact hlo'.out j h
     ·have:j=i:=by omega
      subst this;omega
    all_goals simp[updN,updE, *]
  ·rintro⟨_,_,_,h⟩;cases h
 ·rintro e mu1 n1 K ⟨g1,hlo,e0,e1,e7,e8⟩ hx;rw[dX l_Qcc_1.eq_1];have hgt:(0<last-((last.toNat:Nat):Int))=False:=by simp;omega
  clear hk;have hlo':=Hide.mk hlo;clear hlo;simp only[↓E1,E2,seval, *];refine hx _ _ _ ⟨g1,hlo'.out,?_,?_,?_,?_⟩;all_goals simp[updN,updE, *]
 ·refine⟨Gr.refl hfr,λj hj=>by omega,?_,?_,?_,?_⟩;all_goals (clear hk;simp[updN,updE,envI, *])
 ·rintro hall e mu1 n1 ⟨g1,hlo,e0,e1,e7,e8⟩;have hc:=Qxt (acks:=acks) (me:=me) (last:=last) λu h1 h2=>by
   have:=hlo (last-u).toNat (by omega);rw[show last-(((last-u).toNat:Nat):Int)=u by omega]at this;rw[hf];exact this
  clear hall hlo;simp only[↓E1,E2,seval];exact hk _ _ _ g1 (by rw[hc])
 ·rintro -e mu1 n1 ⟨i,g1,hi,hlo,hge,e6⟩;have hc:=comm_at (acks:=acks) (me:=me) (last:=last) (t:=last-(i:Nat)) (by omega) (by omega) (λu h1 h2=>by
   have:=hlo (last-u).toNat (by omega);rw[show last-(((last-u).toNat:Nat):Int)=u by omega]at this;rw[hf];exact this) (by rw[hf];exact hge)
  clear hlo;simp only[↓E1,E2,seval,e6];exact hk _ _ _ g1 (by rw[hc])
end
def KE (a b:SV):Prop:=a=b\/∃x y,a=.int .i64 x/\b=.int .i64 y
theorem KE.trans {a b c:SV} (h:KE a b) (k:KE b c):KE a c:=by
 rcases h with rfl|⟨x,y,rfl,rfl⟩
 ·exact k
 ·rcases k with rfl|⟨x',y',e,rfl⟩
  ·exact .inr ⟨x,y,rfl,rfl⟩
  ·exact .inr ⟨x,y',rfl,rfl⟩
theorem KE.known {a b:SV} (h:KE a b):b.known=a.known/\b.isMk=a.isMk:=by
 rcases h with rfl|⟨x,y,rfl,rfl⟩<;>exact⟨rfl,rfl⟩
theorem Qk5:∀l:List SV,All2 KE l l
 |[]=>trivial
 |a::l=>⟨.inl rfl,Qk5 l⟩
theorem Qsy:∀{a b c:List SV},All2 KE a b->All2 KE b c->All2 KE a c
 |[],[],[],_,_=>trivial
 |_::_,_::_,_::_,h,k=>⟨h.1.trans k.1,Qsy h.2 k.2⟩
 |[],[],_::_,_,k=>k.elim
 |[],_::_,_,h,_=>h.elim
 |_::_,[],_,h,_=>h.elim
 |_::_,_::_,[],_,k=>k.elim
theorem ke_mkd:∀{a b:List SV},All2 KE a b->mkd b=mkd a
 |[],[],_=>rfl
 |a::l,b::l',h=>h.1.known.2
 |[],_::_,h=>h.elim
 |_::_,[],h=>h.elim
theorem Qxo:∀{a b:List SV} (k:Nat),All2 KE a b->All2 KE (a.drop k) (b.drop k)
 |[],[],_,_=>by simp[All2]
 |_::_,_::_,0,h=>h
 |_::_,_::_,k+1,h=>by simpa using Qxo k h.2
 |[],_::_,_,h=>h.elim
 |_::_,[],_,h=>h.elim
theorem Qxj:∀{a b:List SV} (k:Nat),All2 KE a b->All2 KE (a.take k) (b.take k)
 |[],[],_,_=>by simp[All2]
 |_::_,_::_,0,_=>trivial
 |_::_,_::_,k+1,h=>⟨h.1,Qxj k h.2⟩
 |[],_::_,_,h=>h.elim
 |_::_,[],_,h=>h.elim
theorem Qs5:∀{a b c:List SV},All2 KE (a++b) c->∃c1 c2,c=c1++c2/\All2 KE a c1/\All2 KE b c2
 |[],b,c,h=>⟨[],c,rfl,trivial,h⟩
 |a::l,b,[],h=>h.elim
 |a::l,b,c::cs,h=>by
  obtain⟨c1,c2,e,h1,h2⟩:=Qs5 (a:=l) h.2;exact⟨c::c1,c2,by rw[e];rfl,⟨h.1,h1⟩,h2⟩
theorem Qss:∀{a b:List SV},All2 KE a b->Qeq b=Qeq a
 |[],[],_=>rfl
 |a::l,b::l',h=>by rw[Qgg,Qgg,h.1.known.1,Qss h.2]
 |[],_::_,h=>h.elim
 |_::_,[],h=>h.elim
theorem Qwj:∀{es:List (List SV)} {c:List SV},All2 KE es.flatten c->∃es':List (List SV),c=es'.flatten/\All2 (All2 KE) es es'
 |[],[],_=>⟨[],rfl,trivial⟩
 |[],_::_,h=>h.elim
 |e::es,c,h=>by
  rw[List.flatten_cons]at h;obtain⟨c1,c2,rfl,h1,h2⟩:=Qs5 h;obtain⟨es',rfl,h3⟩:=Qwj h2;exact⟨c1::es',rfl,⟨h1,h3⟩⟩
theorem ke_over {B:List SV} {i:Nat} {x y:Int} (h:(B.drop i).take 1=[.int .i64 x]):All2 KE B (over B i [.int .i64 y]):=by
 have hi:i<B.length:=by
  rcases Nat.lt_or_ge i B.length with h1|h1
  ·exact h1
  ·rw[List.drop_eq_nil_of_le h1]at h;simp at h
 rw[List.drop_eq_getElem_cons hi]at h;simp only[List.take_succ_cons,List.take_zero,List.cons.injEq,and_true]at h;have hsplit:B=B.take i++(B[i]::B.drop (i+1)):=by rw[<-List.drop_eq_getElem_cons hi,List.take_append_drop]
 have key:All2 KE (B.take i++(B[i]::B.drop (i+1))) (B.take i++(.int .i64 y::B.drop (i+1))):=All2.append (Qk5 _) ⟨.inr ⟨x,y,h,rfl⟩,Qk5 _⟩;rw[<-hsplit]at key;exact key
def Sim (M M':Fz):Prop:=∀j B,M j=some B->∃B',M' j=some B'/\All2 KE B B'
theorem Qqh {M M':Fz} (hs:Sim M M') {s:Nat} {x:SV} {es:List (List SV)} (h:Sl M s x es):∃es',Sl M' s x es'/\All2 (All2 KE) es es':=by
 rcases h with⟨h,rfl⟩|⟨id,off,cap,B,rfl,h2,h3,h4,h5,h6,h7⟩
 ·exact⟨[],.inl ⟨h,rfl⟩,trivial⟩
 ·obtain⟨B',h8,h9⟩:=hs id B h3;have h10:=Qxj (es.length*s) (Qxo off h9);rw[h6]at h10;obtain⟨es',h11,h12⟩:=Qwj h10;have hl:=h12.length;have hm:∀{es es':List (List SV)},All2 (All2 KE) es es'->(∀e∈es,e.length=s/\Qeq e=true)->∀e∈es',e.length=s/\Qeq e=true:=by
   intro es;induction es with
   |nil=>intro es' h _ e he;cases es' with
    |nil=>cases he
    |cons _ _=>exact h.elim
   |cons a l ih=>
    intro es' h hall e he;cases es' with
    |nil=>exact h.elim
    |cons b l'=>
     rcases List.mem_cons.1 he with rfl|he
     ·have:=hall a List.mem_cons_self;exact⟨by rw[<-h.1.length];exact this.1,by rw[Qss h.1];exact this.2⟩
     ·exact ih h.2 (λe he=>hall e (List.mem_cons_of_mem _ he)) e he
  refine⟨es',.inr ⟨id,off,cap,B',by rw[hl],by rw[<-hl];exact h2,h8,by rw[ke_mkd h9];exact h4,by rw[<-hl,<-h9.length];exact h5,by rw[<-hl];exact h11,hm h12 h7⟩,h12⟩
theorem ptC_sim {p:Pt} {c:List SV} (h:All2 KE (ptC p) c):∃p':Pt,c=ptC p':=by
 match c,h with
 |[a,b,d],⟨h1,h2,h3,_⟩=>
  rcases h1 with rfl|⟨x,y,e,_⟩
  ·obtain⟨y2,rfl⟩:∃y,b=I y:=by rcases h2 with rfl|⟨x,y,_,rfl⟩;exact⟨_,rfl⟩;exact⟨_,rfl⟩
   obtain⟨y3,rfl⟩:∃y,d=I y:=by rcases h3 with rfl|⟨x,y,_,rfl⟩;exact⟨_,rfl⟩;exact⟨_,rfl⟩
   exact⟨⟨p.series,y2,y3⟩,rfl⟩
  ·cases e
theorem Qs3:∀{l:List Pt} {es:List (List SV)},All2 (All2 KE) (l.map ptC) es->∃l':List Pt,l'.length=l.length/\es=l'.map ptC
 |[],[],_=>⟨[],rfl,rfl⟩
 |[],_::_,h=>h.elim
 |_::_,[],h=>h.elim
 |p::l,e::es,h=>by
  obtain⟨p',rfl⟩:=ptC_sim h.1;obtain⟨l',h1,rfl⟩:=Qs3 h.2;exact⟨p'::l',by simp[h1],rfl⟩
theorem Qri {M M':Fz} (hs:Sim M M') {x:SV} {l:List Pt} (h:PtsR M x l):∃l',l'.length=l.length/\PtsR M' x l':=by
 obtain⟨es,h1,h2⟩:=Qqh hs h;obtain⟨l',h3,rfl⟩:=Qs3 h2;exact⟨l',h3,h1⟩
theorem Qqp:∀{l:List Int} {es:List (List SV)},All2 (All2 KE) (l.map intC) es->∃l':List Int,l'.length=l.length/\es=l'.map intC
 |[],[],_=>⟨[],rfl,rfl⟩
 |[],_::_,h=>h.elim
 |_::_,[],h=>h.elim
 |p::l,e::es,h=>by
  obtain⟨l',h1,rfl⟩:=Qqp h.2;match e,h.1 with
  |[a],⟨h2,_⟩=>
   obtain⟨y,rfl⟩:∃y,a=I y:=by rcases h2 with rfl|⟨x,y,_,rfl⟩;exact⟨_,rfl⟩;exact⟨_,rfl⟩
   exact⟨y::l',by simp[h1],rfl⟩
theorem Qon {M M':Fz} (hs:Sim M M') {x:SV} {l:List Int} (h:IntsR M x l):∃l',l'.length=l.length/\IntsR M' x l':=by
 obtain⟨es,h1,h2⟩:=Qqh hs h;obtain⟨l',h3,rfl⟩:=Qqp h2;exact⟨l',h3,h1⟩
theorem Qwx {M:Fz} {s:Nat} {x y:SV} {es:List (List SV)} (h:Sl M s x es) (k:KE x y):y=x:=by
 rcases k with rfl|⟨a,b,rfl,rfl⟩
 ·rfl
 ·rcases h with⟨h|h|h,_⟩|⟨_,_,_,_,e,_⟩
  ·cases h
  ·cases h
  ·cases h
  ·cases e
def EntsK (M:Fz) (x:SV) (L b:Nat):Prop:=∃l:List Ent,l.length=L/\(∀e∈l,e.batch.length<=b)/\EntsR M x l
theorem Qfd {a:SV} {l z:List SV} (h:All2 KE (a::l) z):∃b l',z=b::l'/\KE a b/\All2 KE l l':=by
 cases z with
 |nil=>exact h.elim
 |cons b l'=>exact⟨b,l',rfl,h.1,h.2⟩
theorem Qw5 {z:List SV} (h:All2 KE [] z):z=[]:=by
 cases z with
 |nil=>rfl
 |cons b l'=>exact h.elim
theorem Qge {v:Int} {a:SV} (h:KE (I v) a):∃y,a=I y:=by
 rcases h with rfl|⟨x,y,_,rfl⟩
 ·exact⟨_,rfl⟩
 ·exact⟨_,rfl⟩
theorem ent_sim {M M':Fz} (hs:Sim M M') {e:Ent} {c d:List SV} (h:EntR M c e) (k:All2 KE c d):∃e':Ent,e'.batch.length=e.batch.length/\EntR M' d e':=by
 obtain⟨b,rfl,h4⟩:=h;obtain⟨p',h5,h6⟩:=Qri hs h4;unfold entC at k;obtain⟨a1,d1,rfl,k1,k⟩:=Qfd k;obtain⟨a2,d2,rfl,k2,k⟩:=Qfd k;obtain⟨a3,d3,rfl,k3,k⟩:=Qfd k;obtain⟨a4,d4,rfl,k4,k⟩:=Qfd k;obtain⟨a5,d5,rfl,k5,k⟩:=Qfd k;obtain rfl:=Qw5 k;obtain⟨v1,rfl⟩:=Qge k1;obtain⟨v2,rfl⟩:=Qge k2;obtain⟨v3,rfl⟩:=Qge k3;obtain⟨v4,rfl⟩:=Qge k4;have e5:a5=b:=Qwx h4 k5;subst e5;exact⟨⟨v1,v2,v3,v4,p'⟩,h5,a5,rfl,h6⟩
theorem Qw6 {M M':Fz} (hs:Sim M M') {bd:Nat} (l:List Ent):∀(cs es:List (List SV)),All2 (EntR M) cs l->(∀e∈l,e.batch.length<=bd)->All2 (All2 KE) cs es->∃l':List Ent,l'.length=l.length/\(∀e∈l',e.batch.length<=bd)/\All2 (EntR M') es l':=by
 induction l with
 |nil=>
  intro cs es h hb k;cases cs with
  |cons _ _=>exact h.elim
  |nil=>
   cases es with
   |cons _ _=>exact k.elim
   |nil=>exact⟨[],rfl,λe he=>(List.not_mem_nil he).elim,trivial⟩
 |cons e l ih=>
  intro cs es h hb k;cases cs with
  |nil=>exact h.elim
  |cons c cs=>
   cases es with
   |nil=>exact k.elim
   |cons d es=>
    obtain⟨l',h1,h2,h3⟩:=ih cs es h.2 (λe he=>hb e (List.mem_cons_of_mem _ he)) k.2;obtain⟨e',h4,h5⟩:=ent_sim hs h.1 k.1;refine⟨e'::l',by simp[h1],λx hx=>?_,⟨h5,h3⟩⟩;rcases List.mem_cons.1 hx with rfl|hx
    ·rw[h4];exact hb e List.mem_cons_self
    ·exact h2 x hx
theorem EntsK.sim {M M':Fz} (hs:Sim M M') {x:SV} {L b:Nat} (h:EntsK M x L b):EntsK M' x L b:=by
 obtain⟨l,h1,h2,cs,h3,h4⟩:=h;obtain⟨es,h5,h6⟩:=Qqh hs h3;obtain⟨l',h7,h8,h9⟩:=Qw6 hs l _ _ h4 h2 h6;exact⟨l',by rw[h7,h1],h8,es,h5,h9⟩
def xor90 (a:Int):Int:=IntKind.i64.wrap ((BitVec.ofInt IntKind.i64.bits a^^^BitVec.ofInt IntKind.i64.bits 90).toNat)
theorem b_xor90 {a:Int} {k:SV->Prop}:binI .xor .i64 a 90 False k=k (.int .i64 (xor90 a)):=b_xor
def Rg (lo hi:Nat) (M:Fz):Fz:=λj=>if lo<=j/\j<hi then M j else none
theorem Rg.el {lo hi j:Nat} {M:Fz} {B:List SV} (h:Rg lo hi M j=some B):lo<=j/\j<hi/\M j=some B:=by
 unfold Rg at h;split at h
 ·rename_i e;exact⟨e.1,e.2,h⟩
 ·cases h
theorem Rg.at {lo hi j:Nat} {M:Fz} {B:List SV} (h1:lo<=j) (h2:j<hi) (h:M j=some B):Rg lo hi M j=some B:=by unfold Rg;rw[if_pos ⟨h1,h2⟩];exact h
theorem Rg.sub {lo hi:Nat} {M:Fz}:Sub (Rg lo hi M) M:=λ_ _ h=>(Rg.el h).2.2
structure SpR (lo hi:Nat) (fz:Fz) (mu mu':St) (n n':Nat):Prop where
 le:n<=n'
 free:Free fz mu' n'
 out:∀j,j<n->¬(lo<=j/\j<hi)->Ev.look mu' j=Ev.look mu j
 ins:∀j B,lo<=j->j<hi->Ev.look mu j=some B->∃B',Ev.look mu' j=some B'/\All2 KE B B'
section
variable {lo hi:Nat} {fz:Fz} {mu mu' mu2:St} {n n' n2:Nat}
theorem SpR.refl (h:Free fz mu n):SpR lo hi fz mu mu n n:=⟨Nat.le_refl _,h,λ_ _ _=>rfl,λj B _ _ hB=>⟨B,hB,Qk5 _⟩⟩
theorem SpR.trans (h:SpR lo hi fz mu mu' n n') (k:SpR lo hi fz mu' mu2 n' n2):SpR lo hi fz mu mu2 n n2:=
 ⟨Nat.le_trans h.le k.le,k.free,λj hj ho=>(k.out j (Nat.lt_of_lt_of_le hj h.le) ho).trans (h.out j hj ho),λj B h1 h2 h3=>by
  obtain⟨B',h4,h5⟩:=h.ins j B h1 h2 h3;obtain⟨B2,h6,h7⟩:=k.ins j B' h1 h2 h4;exact⟨B2,h6,Qsy h5 h7⟩⟩
theorem SpR.sim (h:SpR lo hi fz mu mu' n n') (hfz:∀j,lo<=j->fz j=none):Sim (Rg lo hi (with' mu fz)) (Rg lo hi (with' mu' fz)):=λj B hj=>by
 obtain⟨h1,h2,h3⟩:=Rg.el hj;rw[Qfp (hfz j h1)]at h3;obtain⟨B',h4,h5⟩:=h.ins j B h1 h2 h3;exact⟨B',Rg.at h1 h2 (Qem h4),h5⟩
theorem SpR.put (hf:Free fz mu n) {id i:Nat} {B:List SV} {x y:Int} (h1:lo<=id) (h2:id<hi) (h:Ev.look mu id=some B) (hx:(B.drop i).take 1=[.int .i64 x]):SpR lo hi fz mu (putS mu id (over B i [.int .i64 y])) n n:=by
 refine⟨Nat.le_refl _,λj=>?_,λj hj ho=>by rw[Qen,if_neg (λe:id=j=>ho ⟨by omega,by omega⟩)],λj B2 h3 h4 h5=>?_⟩
 ·have:=hf.lt (Qem (fz:=fz) h);rw[Qet h,if_neg (by omega)];exact hf j
 ·by_cases e:id=j
  ·subst e;rw[h]at h5;injection h5 with h5
   subst h5;exact⟨_,by rw[Qen,if_pos rfl,h];rfl,ke_over hx⟩
  ·exact⟨B2,by rw[Qen,if_neg e];exact h5,Qk5 _⟩
theorem SpR.gr (g:Gr n fz mu mu' n n') (hh:hi<=n):SpR lo hi fz mu mu' n n':=⟨g.le,g.free,λj hj _=>g.own j hj,λj B h1 h2 h3=>⟨B,(g.own j (by omega)).trans h3,Qk5 _⟩⟩
theorem Qkh {B:List SV} {k i m:Nat} {cs:List SV} (h:(B.drop k).take m=cs) (hi:i<cs.length) (hm:i<m):(B.drop (k+i)).take 1=[cs[i]]:=by
 subst h;have h1:i<(B.drop k).length:=by rw[List.length_take]at hi;omega
 rw[<-List.drop_drop,List.drop_eq_getElem_cons h1];simp[List.getElem_take]
end
section
variable {P:Program} (H:Fs P)
include H
theorem Qlj {lo hi:Nat} {fz:Fz} (hfz:∀j,lo<=j->fz j=none) {x:SV} {l:List Pt} (hl:l.length<=1152921504606846976) {mu:St} {n:Nat} (hf:Free fz mu n) (hx:PtsR (Rg lo hi (with' mu fz)) x l) {k:KT Prop} {w:WK k}
 (hk:∀mu',SpR lo hi fz mu mu' n n->k noVal mu' n):CPh P n_Qbr [.one x] fz mu n k w:=by
 refine CP_of H.Qbr H.mx (l.length+1) ?_;obtain⟨xl,xs,xk,xm⟩:=hx.len;rw[dY a_Qbr.eq_1 b_Qbr.eq_1];have hkH:=Hide.mk hk;clear hk;simp only[↓E1,E2,seval];refine loopI (x:=0) (L:=l.length) (p:=λ_=>true) (λi e mu1 n1=>n1=n/\SpR lo hi fz mu mu1 n n/\e 0 0=.one x/\e 0 2=.one (.int .i64 i)) (λ_ _ _=>False) ?_ ?_ _ _ _ _ _ (by omega) ⟨rfl,SpR.refl hf,by simp[updN,updE,envI],by simp[updN,updE]⟩ ?_ (by rintro⟨_,_,_,h⟩;cases h)
 ·rintro i e mu1 n1 K hi' ⟨rfl,hS,e0,e2⟩ hy hn;have hY:=Hide.mk hy;clear hy hn;obtain⟨l',hl',hx'⟩:=Qri (hS.sim hfz) hx;have hi2:i<l'.length:=by omega
  obtain⟨id,off,cap,B,rfl,p1,p2,p3,p4⟩:=hx'.elem hi2;obtain⟨q1,q2,q3⟩:=Rg.el p1;have q4:=q3;rw[Qfp (hfz id q1)]at q4;have hw:=Qev hi' (by omega);have hld:(B.drop (off+i*3+2)).take 1=[I l'[i].value]:=Qkh p4 (i:=2) (by simp[ptC]) (by omega);have hbd:off+i*3+2+1<=B.length:=by omega
  have hil:(i<l'.length)=True:=by simp;omega
  have hS2:=hS.trans (SpR.put (fz:=fz) (lo:=lo) (hi:=hi) hS.free q1 q2 q4 hld (y:=xor90 l'[i].value));clear hx hx' p1 p4;rw[hl']at e0;rw[dX l_Qbr_0.eq_1];simp only[↓E1,E2,seval,↓b_xor90, *];refine hY.out rfl _ _ _ ⟨rfl,hS2,?_,?_⟩;all_goals simp[updN,updE, *]
 ·rintro e mu1 n1 K ⟨rfl,hS,e0,e2⟩ hY;have hY':=Hide.mk hY;clear hY;rw[dX l_Qbr_0.eq_1];have hlt:((l.length:Int)<l.length)=False:=by simp
  have hlt2:(l.length<l.length)=False:=by simp
  simp only[↓E1,E2,seval, *];refine hY'.out _ _ _ ⟨rfl,hS,?_,?_⟩;all_goals simp[updN,updE, *]
 ·rintro -e mu1 n1 ⟨rfl,hS,e0,e2⟩;simp only[↓E1,E2,seval];exact hkH.out _ hS
theorem Qnt {lo hi:Nat} {fz:Fz} (hfz:∀j,lo<=j->fz j=none) {x:SV} {l:List Int} (hl:l.length<=1152921504606846976) {mu:St} {n:Nat} (hf:Free fz mu n) (hx:IntsR (Rg lo hi (with' mu fz)) x l) {k:KT Prop} {w:WK k}
 (hk:∀mu',SpR lo hi fz mu mu' n n->k noVal mu' n):CPh P n_Qch [.one x] fz mu n k w:=by
 refine CP_of H.Qch H.mx (l.length+1) ?_;obtain⟨xl,xs,xk,xm⟩:=hx.len;rw[dY a_Qch.eq_1 b_Qch.eq_1];have hkH:=Hide.mk hk;clear hk;simp only[↓E1,E2,seval];refine loopI (x:=0) (L:=l.length) (p:=λ_=>true) (λi e mu1 n1=>n1=n/\SpR lo hi fz mu mu1 n n/\e 0 0=.one x/\e 0 2=.one (.int .i64 i)) (λ_ _ _=>False) ?_ ?_ _ _ _ _ _ (by omega) ⟨rfl,SpR.refl hf,by simp[updN,updE,envI],by simp[updN,updE]⟩ ?_ (by rintro⟨_,_,_,h⟩;cases h)
 ·rintro i e mu1 n1 K hi' ⟨rfl,hS,e0,e2⟩ hy hn;have hY:=Hide.mk hy;clear hy hn;obtain⟨l',hl',hx'⟩:=Qon (hS.sim hfz) hx;have hi2:i<l'.length:=by omega
  obtain⟨id,off,cap,B,rfl,p1,p2,p3,p4⟩:=hx'.elem hi2;obtain⟨q1,q2,q3⟩:=Rg.el p1;have q4:=q3;rw[Qfp (hfz id q1)]at q4;have hw:=Qev hi' (by omega);have hil:(i<l'.length)=True:=by simp;omega
  have hS2:=hS.trans (SpR.put (fz:=fz) (lo:=lo) (hi:=hi) hS.free q1 q2 q4 p4 (y:=IntKind.i64.wrap (-9-l'[i])));clear hx hx' p1;rw[hl']at e0;rw[dX l_Qch_0.eq_1];simp only[↓E1,E2,seval, *];refine hY.out rfl _ _ _ ⟨rfl,hS2,?_,?_⟩;all_goals simp[updN,updE, *]
 ·rintro e mu1 n1 K ⟨rfl,hS,e0,e2⟩ hY;have hY':=Hide.mk hY;clear hY;rw[dX l_Qch_0.eq_1];have hlt:((l.length:Int)<l.length)=False:=by simp
  have hlt2:(l.length<l.length)=False:=by simp
  simp only[↓E1,E2,seval, *];refine hY'.out _ _ _ ⟨rfl,hS,?_,?_⟩;all_goals simp[updN,updE, *]
 ·rintro -e mu1 n1 ⟨rfl,hS,e0,e2⟩;simp only[↓E1,E2,seval];exact hkH.out _ hS
theorem Qml {lo hi:Nat} {fz:Fz} (hfz:∀j,lo<=j->fz j=none) (lb:Int) (ls:Tx) {x:SV} {L bd:Nat} (hL:L<=1152921504606846976) (hbd:bd<=1152921504606846976) {mu:St} {n:Nat} (hf:Free fz mu n) (hh:hi<=n) (hx:EntsK (Rg lo hi (with' mu fz)) x L bd) {k:KT Prop} {w:WK k}
 (hk:∀mu' n',SpR lo hi fz mu mu' n n'->k noVal mu' n'):CPh P n_Qcy [.ag [I lb,ls.sv,x]] fz mu n k w:=by
 refine CP_of H.Qcy H.mx (L+1) ?_;have hx0:=hx;obtain⟨l0,hl0,-,hx1⟩:=hx0;obtain⟨xl,xs,xk,xm⟩:=hx1.len;have gA:=(Gr.refl (lo:=n) hf).cons (Nat.le_refl _) [I lb,ls.sv,x];have hA:SpR lo hi fz mu ((n,[I lb,ls.sv,x])::mu) n (n+1):=SpR.gr gA hh;have b1:Ev.look ((n,[I lb,ls.sv,x])::mu) n=some [I lb,ls.sv,x]:=by rw[Qer,if_pos rfl]
 rw[dY a_Qcy.eq_1 b_Qcy.eq_1];have hkH:=Hide.mk hk;clear hk;simp only[↓E1,E2,seval, *];obtain⟨m1,hm1⟩:∃m,((n,[I lb,ls.sv,x])::mu)=m:=⟨_,rfl⟩
 rw[hm1]at hA b1;try rw[hm1]
 refine loopI (x:=0) (L:=L) (p:=λ_=>true) (λi e mu1 n1=>SpR lo hi fz mu mu1 n n1/\n+1<=n1/\Ev.look mu1 n=some [I lb,ls.sv,x]/\e 0 1=.one (.optr n 0)/\e 0 2=.one (.int .i64 i)) (λ_ _ _=>False) ?_ ?_ _ _ _ _ _ (by omega) ⟨hA,by omega,b1,by simp[updN,updE,envI],by simp[updN,updE]⟩ ?_ (by rintro⟨_,_,_,h⟩;cases h)
 ·rintro i e mu1 n1 K hi' ⟨hS,hn1,c1,e1,e2⟩ hy hn;have hY:=Hide.mk hy;clear hy hn;obtain⟨l',hl',hb',hx'⟩:=hx.sim (hS.sim hfz);have hi2:i<l'.length:=by omega
  have hx'':=hx';obtain⟨id,off,cap,B,b,rfl,p1,p2,p3,p4,p5⟩:=hx'.elem hi2;obtain⟨q1,q2,q3⟩:=Rg.el p1;have q4:=q3;rw[Qfp (hfz id q1)]at q4;have hw:=Qev hi' (by omega);have hld:(B.drop (off+i*5+0)).take 1=[I l'[i].view]:=Qkh p4 (i:=0) (by simp[entC]) (by omega);have hbd0:off+i*5+0+1<=B.length:=by omega
  have hil:(i<l'.length)=True:=by simp;omega
  have hS2:=SpR.put (fz:=fz) (lo:=lo) (hi:=hi) hS.free q1 q2 q4 hld (y:=xor90 l'[i].view);have hne:(id=n)=False:=by simp;omega
  have c2:=(show∀B':List SV,Ev.look (putS mu1 id B') n=Ev.look mu1 n fromλ_=>by rw[Qen,if_neg (by omega)]) (over B (off+i*5+0) [I (xor90 l'[i].view)]) |>.trans c1;have wc:=Qem (fz:=fz) c1;have wc2:=Qem (fz:=fz) c2;have hSS:=hS.trans hS2;obtain⟨l2,hl2,hb2,hx2⟩:=hx.sim (hSS.sim hfz);have hi3:i<l2.length:=by omega
  obtain⟨id2,off2,cap2,B2,bb,hq,r1,r2,r3,r4,r5⟩:=hx2.elem hi3;have hbl:=hb2 _ (List.getElem_mem hi3);injection hq with hq1 hq2 hq3 hq4
  subst hq1 hq2;obtain⟨-,-,s3⟩:=Rg.el r1;have hbd4:off+i*5+4+1<=B2.length:=by omega
  have hld4:(B2.drop (off+i*5+4)).take 1=[bb]:=Qkh r4 (i:=4) (by simp[entC]) (by omega);clear p1 r1;rw[dX l_Qcy_0.eq_1];simp only[↓E1,E2,seval,↓b_xor90, *];refine Qlj H hfz (by omega) hSS.free r5 ?_;intro mu' hS3;have hS4:=hSS.trans hS3;have c3:=(hS3.out n (by omega) (by omega)).trans c2;simp only[↓E1,E2,seval, *];refine hY.out rfl _ _ _ ⟨hS4,hn1,c3,?_,?_⟩;all_goals simp[updN,updE, *]
 ·rintro e mu1 n1 K ⟨hS,hn1,c1,e1,e2⟩ hY;have hY':=Hide.mk hY;clear hY;have wc:=Qem (fz:=fz) c1;rw[dX l_Qcy_0.eq_1];have hlt:((L:Int)<L)=False:=by simp
  have hlt2:(L<L)=False:=by simp
  simp only[↓E1,E2,seval, *];refine hY'.out _ _ _ ⟨hS,hn1,c1,?_,?_⟩;all_goals simp[updN,updE, *]
 ·rintro -e mu1 n1 ⟨hS,hn1,c1,e1,e2⟩;simp only[↓E1,E2,seval];exact hkH.out _ _ hS
end
theorem ke_tx {t:Tx} {a:SV} (h:KE t.sv a):a=t.sv:=by
 rcases h with h|⟨x,y,h,_⟩
 ·exact h.symm
 ·simp[Tx.sv]at h
def Qj2 (bd:Nat) (l:List Ent):Prop:=l.length<=bd/\∀e∈l,e.batch.length<=bd
def MsgsK (M:Fz) (x:SV) (L bd:Nat):Prop:=∃l:List Msg,l.length=L/\(∀m∈l,m.batch.length<=bd/\Qj2 bd m.log.ents)/\MsgsR M x l
def DvsK (M:Fz) (x:SV) (L bd:Nat):Prop:=∃l:List Dv,l.length=L/\(∀m∈l,Qj2 bd m.log.ents)/\DvsR M x l
theorem Qst {M M':Fz} (hs:Sim M M') {bd:Nat} {x:SV} {l:List Ent} (ho:Qj2 bd l) (h:EntsR M x l):∃l',l'.length=l.length/\Qj2 bd l'/\EntsR M' x l':=by
 obtain⟨l',h1,h2,h3⟩:=EntsK.sim hs (x:=x) (L:=l.length) (b:=bd) ⟨l,rfl,ho.2,h⟩;exact⟨l',h1,⟨by rw[h1];exact ho.1,h2⟩,h3⟩
theorem Qx6 {M:Fz} {x a:SV} {l:List Ent} (h:EntsR M x l) (k:KE x a):a=x:=by
 obtain⟨cs,h1,-⟩:=h;exact Qwx h1 k
theorem dv_sim {M M':Fz} (hs:Sim M M') {bd:Nat} {e:Dv} {c d:List SV} (ho:Qj2 bd e.log.ents) (h:DvR M c e) (k:All2 KE c d):∃e':Dv,Qj2 bd e'.log.ents/\DvR M' d e':=by
 obtain⟨b,rfl,h4⟩:=h;obtain⟨p',h5,h5',h6⟩:=Qst hs ho h4;unfold dvC at k;obtain⟨a1,d1,rfl,k1,k⟩:=Qfd k;obtain⟨a2,d2,rfl,k2,k⟩:=Qfd k;obtain⟨a3,d3,rfl,k3,k⟩:=Qfd k;obtain⟨a4,d4,rfl,k4,k⟩:=Qfd k;obtain⟨a5,d5,rfl,k5,k⟩:=Qfd k;obtain⟨a6,d6,rfl,k6,k⟩:=Qfd k;obtain rfl:=Qw5 k;obtain⟨v1,rfl⟩:=Qge k1;obtain⟨v2,rfl⟩:=Qge k2;obtain⟨v3,rfl⟩:=Qge k3;obtain⟨v4,rfl⟩:=Qge k4;obtain rfl:=ke_tx k5;obtain rfl:=Qx6 h4 k6;exact⟨⟨v1,v2,v3,⟨v4,e.log.snap,p'⟩⟩,h5',_,rfl,h6⟩
theorem msg_sim {M M':Fz} (hs:Sim M M') {bd:Nat} {e:Msg} {c d:List SV} (hb:e.batch.length<=bd) (ho:Qj2 bd e.log.ents) (h:MsgR M c e) (k:All2 KE c d):∃e':Msg,(e'.batch.length<=bd/\Qj2 bd e'.log.ents)/\MsgR M' d e':=by
 obtain⟨xb,xe,rfl,h3,h4⟩:=h;obtain⟨p',h5,h5',h6⟩:=Qst hs ho h4;obtain⟨q',h7,h8⟩:=Qri hs h3;unfold msgC at k;obtain⟨a1,d1,rfl,k1,k⟩:=Qfd k;obtain⟨a2,d2,rfl,k2,k⟩:=Qfd k;obtain⟨a3,d3,rfl,k3,k⟩:=Qfd k;obtain⟨a4,d4,rfl,k4,k⟩:=Qfd k;obtain⟨a5,d5,rfl,k5,k⟩:=Qfd k;obtain⟨a6,d6,rfl,k6,k⟩:=Qfd k;obtain⟨a7,d7,rfl,k7,k⟩:=Qfd k;obtain⟨a8,d8,rfl,k8,k⟩:=Qfd k;obtain⟨a9,d9,rfl,k9,k⟩:=Qfd k;obtain⟨a10,d10,rfl,k10,k⟩:=Qfd k;obtain⟨a11,d11,rfl,k11,k⟩:=Qfd k;obtain⟨a12,d12,rfl,k12,k⟩:=Qfd k;obtain⟨a13,d13,rfl,k13,k⟩:=Qfd k;obtain⟨a14,d14,rfl,k14,k⟩:=Qfd k;obtain⟨a15,d15,rfl,k15,k⟩:=Qfd k;obtain⟨a16,d16,rfl,k16,k⟩:=Qfd k;obtain⟨a17,d17,rfl,k17,k⟩:=Qfd k;obtain⟨a18,d18,rfl,k18,k⟩:=Qfd k;obtain⟨a19,d19,rfl,k19,k⟩:=Qfd k;obtain⟨a20,d20,rfl,k20,k⟩:=Qfd k;obtain rfl:=Qw5 k;obtain⟨v1,rfl⟩:=Qge k1;obtain⟨v2,rfl⟩:=Qge k2;obtain⟨v3,rfl⟩:=Qge k3;obtain⟨v4,rfl⟩:=Qge k4;obtain⟨v5,rfl⟩:=Qge k5;obtain⟨v6,rfl⟩:=Qge k6;obtain⟨v7,rfl⟩:=Qge k7;obtain⟨v8,rfl⟩:=Qge k8;obtain⟨v9,rfl⟩:=Qge k9;obtain⟨v10,rfl⟩:=Qge k10;obtain⟨v11,rfl⟩:=Qge k11;obtain⟨v12,rfl⟩:=Qge k12;obtain⟨v13,rfl⟩:=Qge k13;obtain⟨v14,rfl⟩:=Qge k14;obtain rfl:=ke_tx k15;obtain rfl:a16=_:=Qwx h3 k16;obtain⟨v17,rfl⟩:=Qge k17;obtain rfl:=ke_tx k18;obtain rfl:=Qx6 h4 k19;obtain rfl:=ke_tx k20;exact⟨⟨v1,v2,v3,v4,v5,v6,v7,v8,v9,v10,v11,v12,v13,v14,e.series,q',⟨v17,e.log.snap,p'⟩,e.text⟩,⟨by rw[h7];exact hb,h5'⟩,_,_,rfl,h8,h6⟩
theorem Qsh {A:Type} {R R':List SV->A->Prop} {Q:A->Prop} (hr:∀e c d,Q e->R c e->All2 KE c d->∃e',Q e'/\R' d e') (l:List A):∀(cs es:List (List SV)),All2 R cs l->(∀e∈l,Q e)->All2 (All2 KE) cs es->∃l':List A,l'.length=l.length/\(∀e∈l',Q e)/\All2 R' es l':=by
 induction l with
 |nil=>
  intro cs es h hb k;cases cs with
  |cons _ _=>exact h.elim
  |nil=>
   cases es with
   |cons _ _=>exact k.elim
   |nil=>exact⟨[],rfl,λe he=>(List.not_mem_nil he).elim,trivial⟩
 |cons e l ih=>
  intro cs es h hb k;cases cs with
  |nil=>exact h.elim
  |cons c cs=>
   cases es with
   |nil=>exact k.elim
   |cons d es=>
    obtain⟨l',h1,h2,h3⟩:=ih cs es h.2 (λe he=>hb e (List.mem_cons_of_mem _ he)) k.2;obtain⟨e',h4,h5⟩:=hr e c d (hb e List.mem_cons_self) h.1 k.1;refine⟨e'::l',by simp[h1],λx hx=>?_,⟨h5,h3⟩⟩;rcases List.mem_cons.1 hx with rfl|hx
    ·exact h4
    ·exact h2 x hx
theorem DvsK.sim {M M':Fz} (hs:Sim M M') {x:SV} {L b:Nat} (h:DvsK M x L b):DvsK M' x L b:=by
 obtain⟨l,h1,h2,cs,h3,h4⟩:=h;obtain⟨es,h5,h6⟩:=Qqh hs h3;obtain⟨l',h7,h8,h9⟩:=Qsh (R':=DvR M') (Q:=λe:Dv=>Qj2 b e.log.ents) (λe c d q r k=>dv_sim hs q r k) l _ _ h4 h2 h6;exact⟨l',by rw[h7,h1],h8,es,h5,h9⟩
theorem MsgsK.sim {M M':Fz} (hs:Sim M M') {x:SV} {L b:Nat} (h:MsgsK M x L b):MsgsK M' x L b:=by
 obtain⟨l,h1,h2,cs,h3,h4⟩:=h;obtain⟨es,h5,h6⟩:=Qqh hs h3;obtain⟨l',h7,h8,h9⟩:=Qsh (R':=MsgR M') (Q:=λe:Msg=>e.batch.length<=b/\Qj2 b e.log.ents) (λe c d q r k=>msg_sim hs q.1 q.2 r k) l _ _ h4 h2 h6;exact⟨l',by rw[h7,h1],h8,es,h5,h9⟩
theorem Qja {M:Fz} {x:SV} {l:List Msg} (h:MsgsR M x l) {i:Nat} (hi:i<l.length):∃id off cap B xb xe,x=.osl id off l.length cap 20/\M id=some B/\mkd B=false/\off+i*20+20<=B.length/\(B.drop (off+i*20)).take 20=msgC l[i] xb xe/\PtsR M xb l[i].batch/\EntsR M xe l[i].log.ents:=by
 obtain⟨cs,h1,h2⟩:=h;have hl:=h2.length;obtain⟨id,off,cap,B,g1,g2,g3,g4,g5⟩:=h1.elem (i:=i) (by omega);obtain⟨xb,xe,e1,e2,e3⟩:=h2.at (i:=i) (by omega) hi;exact⟨id,off,cap,B,xb,xe,by rw[<-hl];exact g1,g2,g3,g4,by rw[g5,e1],e2,e3⟩
theorem Qjv {M:Fz} {x:SV} {l:List Msg} (h:MsgsR M x l):(∀k,onLen x k=k l.length)/\x.isStr=false/\x.known=true/\x.isMk=false:=by
 obtain⟨cs,h1,h2⟩:=h;exact⟨λk=>by have:=(Sl.len h1 (k:=k)).1;rw[h2.length]at this;exact this,(Sl.len h1 (k:=λ_=>True)).2,(Sl.known h1).1,(Sl.known h1).2⟩
theorem Qp5 {B:List SV} {k i w m:Nat} {cs:List SV} (h:(B.drop k).take m=cs) (hm:i+w<=m):(B.drop (k+i)).take w=(cs.drop i).take w:=by
 subst h;rw[List.drop_take,List.drop_drop,List.take_take];congr 1;omega
section
variable {P:Program} (H:Fs P)
include H
theorem Qnf {lo hi:Nat} {fz:Fz} (hfz:∀j,lo<=j->fz j=none) {x:SV} {L bd:Nat} (hL:L<=1152921504606846976) (hbd:bd<=1152921504606846976) {mu:St} {n:Nat} (hf:Free fz mu n) (hh:hi<=n) (hx:MsgsK (Rg lo hi (with' mu fz)) x L bd) {k:KT Prop} {w:WK k}
 (hk:∀mu' n',SpR lo hi fz mu mu' n n'->k noVal mu' n'):CPh P n_Qa1 [.one x] fz mu n k w:=by
 refine CP_of H.Qa1 H.mx (L+1) ?_;have hx0:=hx;obtain⟨l0,hl0,-,hx1⟩:=hx0;obtain⟨xl,xs,xk,xm⟩:=Qjv hx1;rw[dY a_Qa1.eq_1 b_Qa1.eq_1];have hkH:=Hide.mk hk;clear hk;simp only[↓E1,E2,seval, *];refine loopI (x:=0) (L:=L) (p:=λ_=>true) (λi e mu1 n1=>SpR lo hi fz mu mu1 n n1/\e 0 0=.one x/\e 0 2=.one (.int .i64 i)) (λ_ _ _=>False) ?_ ?_ _ _ _ _ _ (by omega) ⟨SpR.refl hf,by simp[updN,updE,envI],by simp[updN,updE]⟩ ?_ (by rintro⟨_,_,_,h⟩;cases h)
 ·rintro i e mu1 n1 K hi' ⟨hS,e1,e2⟩ hy hn;have hY:=Hide.mk hy;clear hy hn;have hle:=hS.le;obtain⟨l',hl',hb',hx'⟩:=hx.sim (hS.sim hfz);have hi2:i<l'.length:=by omega
  obtain⟨id,off,cap,B,xb,xe,rfl,p1,p2,p3,p4,p5,p6⟩:=Qja hx' hi2;obtain⟨q1,q2,q3⟩:=Rg.el p1;have hw:=Qev hi' (by omega);have hld:(B.drop (off+i*20+15)).take 1=[xb]:=Qkh p4 (i:=15) (by simp[msgC]) (by omega);have hbd0:off+i*20+15+1<=B.length:=by omega
  have hil:(i<l'.length)=True:=by simp;omega
  have hbl:=(hb' _ (List.getElem_mem hi2)).1;clear p1;rw[dX l_Qa1_0.eq_1];simp only[↓E1,E2,seval, *];refine Qlj H hfz (by omega) hS.free p5 ?_;intro mu2 hS2;have hS3:=hS.trans hS2;obtain⟨l2,hl2,hb2,hx2⟩:=hx.sim (hS3.sim hfz);have hi3:i<l2.length:=by omega
  obtain⟨id2,off2,cap2,B2,xb2,xe2,hq,r1,r2,r3,r4,r5,r6⟩:=Qja hx2 hi3;obtain⟨hb3,hb4,hb5⟩:=hb2 _ (List.getElem_mem hi3);injection hq with hq1 hq2 hq3 hq4
  subst hq1 hq2;obtain⟨-,-,s3⟩:=Rg.el r1;have hbd1:off+i*20+16+3<=B2.length:=by omega
  have hld1:(B2.drop (off+i*20+16)).take 3=[I l2[i].log.base,l2[i].log.snap.sv,xe2]:=Qp5 r4 (i:=16) (w:=3) (by omega);clear r1;simp only[↓E1,E2,seval, *];refine Qml H hfz _ _ (L:=l2[i].log.ents.length) (bd:=bd) (by omega) hbd hS3.free (by omega) ⟨_,rfl,hb5,r6⟩ ?_;intro mu3 n3 hS4;have hS5:=hS3.trans hS4;obtain⟨l3,hl3,hb3',hx3⟩:=hx.sim (hS5.sim hfz);have hi4:i<l3.length:=by omega
  obtain⟨id3,off3,cap3,B3,xb3,xe3,hq',t1,t2,t3,t4,t5,t6⟩:=Qja hx3 hi4;injection hq' with hq1 hq2 hq3' hq4'
  subst hq1 hq2;obtain⟨-,-,u3⟩:=Rg.el t1;have u4:=u3;rw[Qfp (hfz id q1)]at u4;have hbd2:off+i*20+3+1<=B3.length:=by omega
  have hld2:(B3.drop (off+i*20+3)).take 1=[I l3[i].view]:=Qkh t4 (i:=3) (by simp[msgC]) (by omega);have hS6:=hS5.trans (SpR.put (fz:=fz) (lo:=lo) (hi:=hi) hS5.free q1 q2 u4 hld2 (y:=xor90 l3[i].view));clear t1;simp only[↓E1,E2,seval,↓b_xor90, *];refine hY.out rfl _ _ _ ⟨hS6,?_,?_⟩;all_goals simp[updN,updE, *]
 ·rintro e mu1 n1 K ⟨hS,e1,e2⟩ hY;have hY':=Hide.mk hY;clear hY;rw[dX l_Qa1_0.eq_1];have hlt:((L:Int)<L)=False:=by simp
  have hlt2:(L<L)=False:=by simp
  simp only[↓E1,E2,seval, *];refine hY'.out _ _ _ ⟨hS,?_,?_⟩;all_goals simp[updN,updE, *]
 ·rintro -e mu1 n1 ⟨hS,e1,e2⟩;simp only[↓E1,E2,seval];exact hkH.out _ _ hS
theorem Qok {lo hi:Nat} {fz:Fz} (hfz:∀j,lo<=j->fz j=none) (r:Rep) {xe xa xs xd:SV} {Le Ld bd:Nat} {la ls:List Int} (hLe:Le<=1152921504606846976) (hla:la.length<=1152921504606846976) (hls:ls.length<=1152921504606846976) (hLd:Ld<=1152921504606846976) (hbd:bd<=1152921504606846976) {mu:St} {n:Nat} (hf:Free fz mu n) (hh:hi<=n) (he:EntsK (Rg lo hi (with' mu fz)) xe Le bd) (ha:IntsR (Rg lo hi (with' mu fz)) xa la) (hs:IntsR (Rg lo hi (with' mu fz)) xs ls) (hd:DvsK (Rg lo hi (with' mu fz)) xd Ld bd) {k:KT Prop} {w:WK k}
 (hk:∀mu' n',SpR lo hi fz mu mu' n n'->k noVal mu' n'):CPh P n_Qbb [.ag (repC r xe xa xs xd)] fz mu n k w:=by
 refine CP_of H.Qbb H.mx (Ld+1) ?_;have hd0:=hd;obtain⟨l0,hl0,-,hx1⟩:=hd0;obtain⟨dl,ds,dk,dm⟩:=hx1.len;obtain⟨al,asq',ak,am⟩:=ha.len;obtain⟨sl,ss,sk,sm⟩:=hs.len;have he0:=he;obtain⟨l1,hl1,-,hx2⟩:=he0;obtain⟨el,es,ek,em⟩:=hx2.len;have gA:=(Gr.refl (lo:=n) hf).cons (Nat.le_refl _) (repC r xe xa xs xd);have hA:SpR lo hi fz mu ((n,repC r xe xa xs xd)::mu) n (n+1):=SpR.gr gA hh;have b1:Ev.look ((n,repC r xe xa xs xd)::mu) n=some (repC r xe xa xs xd):=by rw[Qer,if_pos rfl]
 unfold repC at hA b1;rw[dY a_Qbb.eq_1 b_Qbb.eq_1];have hkH:=Hide.mk hk;clear hk;unfold repC;simp only[↓E1,E2,seval, *];generalize hm1:((n,_)::mu:St)=m1 at hA b1⊢;have wb1:=Qem (fz:=fz) b1;refine Qml H hfz _ _ (L:=Le) (bd:=bd) hLe hbd hA.free (by omega) (he.sim (hA.sim hfz)) ?_;intro mu2 n2 hS2;have hS3:=hA.trans hS2;have b2:=(hS2.out n (by omega) (by omega)).trans b1;have wb2:=Qem (fz:=fz) b2;obtain⟨la',hla',ha'⟩:=Qon (hS3.sim hfz) ha;simp only[↓E1,E2,seval, *];refine Qnt H hfz (l:=la') (by omega) hS3.free ha' ?_;intro mu3 hS4;have hS5:=hS3.trans hS4;have h2:=hS2.le;have b3:=(hS4.out n (by omega) (by omega)).trans b2;have wb3:=Qem (fz:=fz) b3;obtain⟨ls',hls',hs'⟩:=Qon (hS5.sim hfz) hs;simp only[↓E1,E2,seval, *];refine Qnt H hfz (l:=ls') (by omega) hS5.free hs' ?_;intro mu4 hS6;have hS7:=hS5.trans hS6;have b4:=(hS6.out n (by omega) (by omega)).trans b3;simp only[↓E1,E2,seval, *];refine loopI (x:=0) (L:=Ld) (p:=λ_=>true) (λi e mu1 n1=>SpR lo hi fz mu mu1 n n1/\n+1<=n1/\Ev.look mu1 n=some [I r.me,I r.nodes,I r.view,I r.normal,I r.status,I r.commit,.bool r.sent,I r.log.base,r.log.snap.sv,xe,xa,xs,xd]/\e 0 1=.one (.optr n 0)/\e 0 2=.one (.int .i64 i)) (λ_ _ _=>False) ?_ ?_ _ _ _ _ _ (by omega) ⟨hS7,by omega,b4,by simp[updN,updE,envI],by simp[updN,updE]⟩ ?_ (by rintro⟨_,_,_,h⟩;cases h)
 ·rintro i e mu1 n1 K hi' ⟨hS,hn1,c1,e1,e2⟩ hy hn;have hY:=Hide.mk hy;clear hy hn;obtain⟨l',hl',hb',hx'⟩:=hd.sim (hS.sim hfz);have hi2:i<l'.length:=by omega
  obtain⟨id,off,cap,B,b,rfl,p1,p2,p3,p4,p5⟩:=hx'.elem hi2;obtain⟨q1,q2,q3⟩:=Rg.el p1;obtain⟨hb1,hb2⟩:=hb' _ (List.getElem_mem hi2);have hw:=Qev hi' (by omega);have hld:(B.drop (off+i*6+3)).take 3=[I l'[i].log.base,l'[i].log.snap.sv,b]:=Qp5 p4 (i:=3) (w:=3) (by omega);have hbd0:off+i*6+3+3<=B.length:=by omega
  have hil:(i<l'.length)=True:=by simp;omega
  have wc:=Qem (fz:=fz) c1;clear p1;rw[dX l_Qbb_0.eq_1];simp only[↓E1,E2,seval, *];refine Qml H hfz _ _ (L:=l'[i].log.ents.length) (bd:=bd) (by omega) hbd hS.free (by omega) ⟨_,rfl,hb2,p5⟩ ?_;intro mu5 n5 hS8;have hS9:=hS.trans hS8;have h8:=hS8.le;have c2:=(hS8.out n (by omega) (by omega)).trans c1;simp only[↓E1,E2,seval, *];refine hY.out rfl _ _ _ ⟨hS9,by omega,c2,?_,?_⟩;all_goals simp[updN,updE, *]
 ·rintro e mu1 n1 K ⟨hS,hn1,c1,e1,e2⟩ hY;have hY':=Hide.mk hY;clear hY;have wc:=Qem (fz:=fz) c1;rw[dX l_Qbb_0.eq_1];have hlt:((Ld:Int)<Ld)=False:=by simp
  have hlt2:(Ld<Ld)=False:=by simp
  simp only[↓E1,E2,seval, *];refine hY'.out _ _ _ ⟨hS,hn1,c1,?_,?_⟩;all_goals simp[updN,updE, *]
 ·rintro -e mu1 n1 ⟨hS,hn1,c1,e1,e2⟩;simp only[↓E1,E2,seval];exact hkH.out _ _ hS
theorem ref16_Same (r:Rep) (xe xa xs xd ye ya ys yd:SV) (hz:RepSz r):BoolC P n_Qd1 [.ag (repC r xe xa xs xd),.ag (repC r ye ya ys yd)] (λM=>RepS M r xe xa xs xd/\RepS M r ye ya ys yd) true:=boolC H.mx H.Qd1 (r.acks.length+r.starts.length+r.dos.length+1) λfz mu n k hfr g0 hx h=>by
 obtain⟨⟨s1,s2,s3,s4⟩,t1,t2,t3,t4⟩:=hx;obtain⟨-,-,xek,xem⟩:=s1.len;obtain⟨xal,xas,xak,xam⟩:=s2.len;obtain⟨xsl,xss,xsk,xsm⟩:=s3.len;obtain⟨xdl,xds,xdk,xdm⟩:=s4.len;obtain⟨-,-,yek,yem⟩:=t1.len;obtain⟨yal,yas,yak,yam⟩:=t2.len;obtain⟨ysl,yss,ysk,ysm⟩:=t3.len;obtain⟨ydl,yds,ydk,ydm⟩:=t4.len;have hsn:(true !=(r.sent==r.sent))=false:=by simp
 have hz1:=hz.acks;have hz2:=hz.starts;have hz3:=hz.dos;have hL:=ref4_SameLog H r.log xe ye hz.log;unfold lgC at hL;rw[dY a_Qd1.eq_1 b_Qd1.eq_1];unfold repC;have gB:Gr n fz mu ((n+1,repC r ye ya ys yd)::(n,repC r xe xa xs xd)::mu) n (n+1+1):=gr2 hfr;have b1:Ev.look ((n+1,repC r ye ya ys yd)::(n,repC r xe xa xs xd)::mu) n=some (repC r xe xa xs xd):=by rw[Qer,if_neg (by omega),Qer,if_pos rfl]
 have b2:Ev.look ((n+1,repC r ye ya ys yd)::(n,repC r xe xa xs xd)::mu) (n+1)=some (repC r ye ya ys yd):=by rw[Qer,if_pos rfl]
 obtain⟨m0,hm0⟩:∃m0:St,((n+1,repC r ye ya ys yd)::(n,repC r xe xa xs xd)::mu)=m0:=⟨_,rfl⟩
 rw[hm0]at gB b1 b2;unfold repC at hm0 b1 b2;have w1:=Qem (fz:=fz) b1;have w2:=Qem (fz:=fz) b2;simp only[↓E1,E2,seval, *];try rw[hm0]
 clear hm0;try simp only[↓E1,E2,seval, *]
 refine hL.c1 gB.free ⟨EntsR.mono (gB.sub hfr (Nat.le_refl _)) s1,EntsR.mono (gB.sub hfr (Nat.le_refl _)) t1⟩ ?_;rintro v m1 n1 g1 rfl;have gg:=gB.trans (g1.weaken (by omega));have l1:=g1.le;have c1:=(g1.own n (by omega)).trans b1;have c2:=(g1.own (n+1) (by omega)).trans b2;clear w1 w2 b1 b2 g1 gB hL;have w1:=Qem (fz:=fz) c1;have w2:=Qem (fz:=fz) c2;simp only[↓E1,E2,seval, *];have h':=Hide.mk h;clear h;refine loopI (x:=0) (L:=r.acks.length) (p:=λ_=>true) (λi e mu' n'=>Gr n fz mu mu' n n'/\n+1+1<=n'/\Ev.look mu' n=some [I r.me,I r.nodes,I r.view,I r.normal,I r.status,I r.commit,.bool r.sent,I r.log.base,r.log.snap.sv,xe,xa,xs,xd]/\Ev.look mu' (n+1)=some [I r.me,I r.nodes,I r.view,I r.normal,I r.status,I r.commit,.bool r.sent,I r.log.base,r.log.snap.sv,ye,ya,ys,yd]/\e 0 2=.one (.optr n 0)/\e 0 3=.one (.optr (n+1) 0)/\e 0 5=.one (.int .i64 i)) (λ_ _ _=>False) ?_ ?_ _ _ _ _ _ (by omega) ⟨gg,by omega,c1,c2,by simp[updN,updE,envI],by simp[updN,updE,envI],by simp[updN,updE,envI]⟩ ?_ (by rintro⟨_,_,_,h⟩;cases h)
 ·rintro i e mu4 n4 K hi ⟨g4,a0,a1,a2,e2,e3,e5⟩ hY hn;have u4:=g4.sub hfr (Nat.le_refl _);have hw:=Qev hi (by omega);obtain⟨id,off,cap,B,rfl,p1,p2,p3,p4⟩:=(IntsR.mono u4 s2).elem hi;obtain⟨id2,off2,cap2,B3,rfl,q1,q2,q3,q4⟩:=(IntsR.mono u4 t2).elem hi;clear w1 w2 c1 c2;have w1:=Qem (fz:=fz) a1;have w2:=Qem (fz:=fz) a2;rw[dX l_Qd1_0.eq_1];simp only[↓E1,E2,seval, *];try exact hY rfl _ _ _ ⟨g4,a0,a1,a2,by simp[updN,updE, *],by simp[updN,updE, *],by simp[updN,updE, *]⟩
 ·rintro e mu4 n4 K ⟨g4,a0,a1,a2,e2,e3,e5⟩ hY;clear w1 w2 c1 c2;have hlt:(r.acks.length<r.acks.length)=False:=by simp
  have w1:=Qem (fz:=fz) a1;rw[dX l_Qd1_0.eq_1];simp only[↓E1,E2,seval, *];try exact hY _ _ _ ⟨g4,a0,a1,a2,by simp[updN,updE, *],by simp[updN,updE, *],by simp[updN,updE, *]⟩
 rintro -e mu1 n1 ⟨gg,l1,c1,c2,e2,e3,e5⟩;clear w1 w2;simp only[↓E1,E2,seval, *];refine loopI (x:=2) (L:=r.starts.length) (p:=λ_=>true) (λi e mu' n'=>Gr n fz mu mu' n n'/\n+1+1<=n'/\Ev.look mu' n=some [I r.me,I r.nodes,I r.view,I r.normal,I r.status,I r.commit,.bool r.sent,I r.log.base,r.log.snap.sv,xe,xa,xs,xd]/\Ev.look mu' (n+1)=some [I r.me,I r.nodes,I r.view,I r.normal,I r.status,I r.commit,.bool r.sent,I r.log.base,r.log.snap.sv,ye,ya,ys,yd]/\e 0 2=.one (.optr n 0)/\e 0 3=.one (.optr (n+1) 0)/\e 0 6=.one (.int .i64 i)) (λ_ _ _=>False) ?_ ?_ _ _ _ _ _ (by omega) ⟨gg,by omega,c1,c2,by simp[updN,updE, *],by simp[updN,updE, *],by simp[updN,updE, *]⟩ ?_ (by rintro⟨_,_,_,h⟩;cases h)
 ·rintro i e mu4 n4 K hi ⟨g4,a0,a1,a2,e2,e3,e5⟩ hY hn;have u4:=g4.sub hfr (Nat.le_refl _);have hw:=Qev hi (by omega);obtain⟨id,off,cap,B,rfl,p1,p2,p3,p4⟩:=(IntsR.mono u4 s3).elem hi;obtain⟨id2,off2,cap2,B3,rfl,q1,q2,q3,q4⟩:=(IntsR.mono u4 t3).elem hi;clear c1 c2;have w1:=Qem (fz:=fz) a1;have w2:=Qem (fz:=fz) a2;rw[dX l_Qd1_1.eq_1];simp only[↓E1,E2,seval, *];try exact hY rfl _ _ _ ⟨g4,a0,a1,a2,by simp[updN,updE, *],by simp[updN,updE, *],by simp[updN,updE, *]⟩
 ·rintro e mu4 n4 K ⟨g4,a0,a1,a2,e2,e3,e5⟩ hY;clear c1 c2;have hlt:(r.starts.length<r.starts.length)=False:=by simp
  have w1:=Qem (fz:=fz) a1;rw[dX l_Qd1_1.eq_1];simp only[↓E1,E2,seval, *];try exact hY _ _ _ ⟨g4,a0,a1,a2,by simp[updN,updE, *],by simp[updN,updE, *],by simp[updN,updE, *]⟩
 clear gg l1 c1 c2 e2 e3 e5;rintro -e mu1 n1 ⟨gg,l1,c1,c2,e2,e3,e5⟩;simp only[↓E1,E2,seval, *];refine loopI (x:=4) (L:=r.dos.length) (p:=λ_=>true) (λi e mu' n'=>Gr n fz mu mu' n n'/\n+1+1<=n'/\Ev.look mu' n=some [I r.me,I r.nodes,I r.view,I r.normal,I r.status,I r.commit,.bool r.sent,I r.log.base,r.log.snap.sv,xe,xa,xs,xd]/\Ev.look mu' (n+1)=some [I r.me,I r.nodes,I r.view,I r.normal,I r.status,I r.commit,.bool r.sent,I r.log.base,r.log.snap.sv,ye,ya,ys,yd]/\e 0 2=.one (.optr n 0)/\e 0 3=.one (.optr (n+1) 0)/\e 0 7=.one (.int .i64 i)) (λ_ _ _=>False) ?_ ?_ _ _ _ _ _ (by omega) ⟨gg,by omega,c1,c2,by simp[updN,updE, *],by simp[updN,updE, *],by simp[updN,updE, *]⟩ ?_ (by rintro⟨_,_,_,h⟩;cases h)
 ·rintro i e mu4 n4 K hi ⟨g4,a0,a1,a2,e2,e3,e5⟩ hY hn;have u4:=g4.sub hfr (Nat.le_refl _);have hw:=Qev hi (by omega);obtain⟨id,off,cap,B,b,rfl,p1,p2,p3,p4,p5⟩:=(DvsR.mono u4 s4).elem hi;obtain⟨id2,off2,cap2,B3,b',rfl,q1,q2,q3,q4,q5⟩:=(DvsR.mono u4 t4).elem hi;obtain⟨zl,zs,zk,zm⟩:=p5.len;obtain⟨zl',zs',zk',zm'⟩:=q5.len;unfold dvC at p4 q4;clear c1 c2;have w1:=Qem (fz:=fz) a1;have w2:=Qem (fz:=fz) a2;have hLd:=ref4_SameLog H r.dos[i].log b b' (hz.dlog _ (List.getElem_mem hi));unfold lgC at hLd;rw[dX l_Qd1_2.eq_1];have hne:(n4=n)=False:=by simp;omega
  have hne1:(n4+1=n)=False:=by simp;omega
  have hne2:(n4+1=n+1)=False:=by simp;omega
  have hne3:(n4=n+1)=False:=by simp;omega
  simp only[↓E1,E2,seval, *];have gA:Gr n4 fz mu4 ((n4,[I r.dos[i].frm,I r.dos[i].normal,I r.dos[i].commit,I r.dos[i].log.base,r.dos[i].log.snap.sv,b])::(n4+1,[I r.dos[i].frm,I r.dos[i].normal,I r.dos[i].commit,I r.dos[i].log.base,r.dos[i].log.snap.sv,b'])::mu4) n4 (n4+1+1):=Gr.two (Gr.refl g4.free) (Nat.le_refl _) _ _;have uA:=gA.sub g4.free (Nat.le_refl _);refine hLd.c1 gA.free ⟨EntsR.mono uA p5,EntsR.mono uA q5⟩ ?_;rintro v mu5 n5 g5 rfl;have l5:=g5.le;have gC:=gA.trans (g5.weaken (by omega));have b1:=(gC.own n (by omega)).trans a1;have b2:=(gC.own (n+1) (by omega)).trans a2;clear hLd gA uA w1 w2 p1 q1;simp only[↓E1,E2,seval, *];try exact hY rfl _ _ _ ⟨g4.trans (gC.weaken (by omega)),by omega,b1,b2,by simp[updN,updE, *],by simp[updN,updE, *],by simp[updN,updE, *]⟩
 ·rintro e mu4 n4 K ⟨g4,a0,a1,a2,e2,e3,e5⟩ hY;clear c1 c2;have hlt:(r.dos.length<r.dos.length)=False:=by simp
  have w1:=Qem (fz:=fz) a1;rw[dX l_Qd1_2.eq_1];simp only[↓E1,E2,seval, *];try exact hY _ _ _ ⟨g4,a0,a1,a2,by simp[updN,updE, *],by simp[updN,updE, *],by simp[updN,updE, *]⟩
 clear gg l1 c1 c2 e2 e3 e5;rintro -e mu1 n1 ⟨gg,l1,c1,c2,e2,e3,e5⟩;simp only[↓E1,E2,seval, *];exact h'.out _ _ gg
theorem ref4_SameAll (l:List Msg) (x y:SV) (hl:l.length<=1152921504606846976) (hz:∀m∈l,MsgSz m):BoolC P n_Qdc [.one x,.one y] (λM=>MsgsR M x l/\MsgsR M y l) true:=boolC H.mx H.Qdc (l.length+1) λfz mu n k hfr g0 hx h=>by
 obtain⟨s1,s2⟩:=hx;obtain⟨xl,xs,xk,xm⟩:=Qjv s1;obtain⟨yl,ys,yk,ym⟩:=Qjv s2;rw[dY a_Qdc.eq_1 b_Qdc.eq_1];simp only[↓E1,E2,seval, *];refine scan (x:=0) (L:=l.length) (q:=0) (r:=5) (p:=λ_=>true) (λe mu' n'=>Gr n fz mu mu' n n'/\e 0 0=.one x/\e 0 1=.one y) (λe=>True) (λ_ _ _ h=>h.1.free) ?_ ?_ l.length 0 (l.length+1) _ _ _ _ _ (by omega) (by omega) (by omega) ⟨Gr.refl hfr,?_,?_⟩ ?_ ?_ ?_
 ·rintro i e mu4 n4 K hi ⟨g4,e2,e3⟩ hc hY hn;have u4:=g4.sub hfr (Nat.le_refl _);have hw:=Qev hi (by omega);obtain⟨id,off,cap,B,a,a',rfl,p1,p2,p3,p4,p5,p6⟩:=Qja (MsgsR.mono u4 s1) hi;obtain⟨id2,off2,cap2,B3,b,b',rfl,q1,q2,q3,q4,q5,q6⟩:=Qja (MsgsR.mono u4 s2) hi;have hs:=hz _ (List.getElem_mem hi);have hL:=ref4_Same H l[i] a a' b b' hs.bat hs.log;unfold msgC at p4 q4 hL;rw[dX l_Qdc_0.eq_1];simp only[↓E1,E2,seval, *];refine hL.d2 g4.free ⟨p5,p6,q5,q6⟩ ?_;rintro v new n5 g5 rfl;simp only[↓E1,E2,seval, *];exact hY rfl _ _ _ g5 ⟨g4.trans (g5.weaken g4.le),by simp[updN,updE, *],by simp[updN,updE, *]⟩ (by simp[updN,updE, *])
 ·rintro e mu4 n4 K ⟨g4,e2,e3⟩ hc hY;rw[dX l_Qdc_0.eq_1];have hlt:(l.length<l.length)=False:=by simp
  simp only[↓E1,E2,seval, *];exact hY _ _ _ (Gr.refl g4.free) ⟨g4,by simp[updN,updE,e2],by simp[updN,updE,e3]⟩
 ·simp[updN,updE,envI]
 ·simp[updN,updE,envI]
 ·simp[updN,updE,envI]
 ·rintro ha e' mu' n' g ⟨g4,e2,e3⟩;simp only[↓E1,E2,seval, *];try exact h _ _ g4
 ·rintro⟨j,j1,j2,j3⟩;cases j3
end
theorem Qm3 {o:Nat->Nat} {n n' t:Nat} {fz:Fz} {mu:St} (ht:t≠0) (ho:∀j,j<n->o j=0) (hf:Free fz mu n'):Sub (Tag o t (with' mu fz)) (Rg n n' (with' mu fz)):=λj B hj=>by
 obtain⟨h1,h2⟩:=Tag.el hj;refine Rg.at ?_ (hf.lt h2) h2;rcases Nat.lt_or_ge j n with h|h
 ·exact absurd (h1.symm.trans (ho j h)) ht
 ·exact h
theorem tag28_rg {o:Nat->Nat} {n n':Nat} {fz:Fz} {mu:St} (ho:∀j,j<n->o j=0) (hf:Free fz mu n'):Sub (Tag28 o (with' mu fz)) (Rg n n' (with' mu fz)):=λj B hj=>by
 obtain⟨h1,h2⟩:=Tag28.el hj;refine Rg.at ?_ (hf.lt h2) h2;rcases Nat.lt_or_ge j n with h|h
 ·rw[ho j h]at h1;omega
 ·exact h
theorem Qwm {o:Nat->Nat} {n n':Nat} {fz:Fz} {mu:St} (ho:∀j,j<n->o j=0) (hf:Free fz mu n') {r:Rep} {xe xa xs xd:SV} (h:RepT o (with' mu fz) r xe xa xs xd):RepS (Rg n n' (with' mu fz)) r xe xa xs xd:=by
 obtain⟨⟨cs,h1,h2⟩,h3,h4,ds,h5,h6⟩:=h;exact⟨⟨cs,(h1.mono (Qm3 (by decide) ho hf)).to,h2.imp λc a g=>(EntX.mono (Qm3 (by decide) ho hf) g).to⟩,(IntsX.mono (Qm3 (by decide) ho hf) h3).to,(IntsX.mono (Qm3 (by decide) ho hf) h4).to,⟨ds,(h5.mono (Qm3 (by decide) ho hf)).to,h6.imp λc a g=>(DvX.mono (Qm3 (by decide) ho hf) g).to⟩⟩
theorem Qxq {o:Nat->Nat} {n n':Nat} {fz:Fz} {mu:St} (ho:∀j,j<n->o j=0) (hf:Free fz mu n') {x:SV} {l:List Msg} (h:OutT o (with' mu fz) x l):MsgsR (Rg n n' (with' mu fz)) x l:=by
 obtain⟨cs,h1,h2⟩:=h;exact⟨cs,(h1.mono (Qm3 (by decide) ho hf)).to,h2.imp λc a g=>by
  obtain⟨xb,xe,e,h3,h4⟩:=MsgX.mono (tag28_rg ho hf) g;exact⟨xb,xe,e,h3.to,h4.to⟩⟩
def ownD (r:Rep):Dv:=⟨r.me,r.normal,r.commit,r.log⟩
def allD (r:Rep):List Dv:=r.dos++[ownD r]
def Qib (l:List Dv):Nat->Int
 |0=>0
 |i+1=>max (Qib l i) (l.getD i dv0).commit
def setM (r:Rep):Msg:=⟨9,0,0,r.view,0,0,r.commit,0,0,0,0,0,0,0,tx0,[],r.log,tx0⟩
def bestD (r:Rep):Dv:=(allD r).getD (Qf9 (allD r) (allD r).length) dv0
def Qia (r1:Rep):Rep:={r1 with commit:=max r1.commit (commF r1.acks r1.me (last r1.log))}
def Qfs (r:Rep) (N:Nat):Rep×List Msg×Bool:=
 if r.status=1/\(N-1)/2<=r.dos.length then
  match takeR r (bestD r).log (Qib (allD r) (allD r).length) N with
  |none=>(r,[],true)
  |some r1=>(Qia r1,allM (Qia r1) (setM (Qia r1)) N,false)
 else(r,[],false)
theorem half {N:Nat} (h1:1<=N) (hN7:N<=7):IntKind.i64.wrap ((IntKind.i64.wrap ((N:Int)-1)).tdiv 2)=(((N-1)/2:Nat):Int):=by
 have e:IntKind.i64.wrap ((N:Int)-1)=((N-1:Nat):Int):=by rw[wrap64 (by omega) (by omega)];omega
 rw[e,Int.tdiv_eq_ediv_of_nonneg (by omega),wrap64 (by omega) (by omega)];omega
theorem SW.un {lo:Nat} {fz:Fz} {s:Nat} {o:Nat->Nat} {mu:St} {n:Nat} {r:Rep} {out:List Msg} {vd:Bool} {xe xa xs xd xo:SV} (S:SW lo fz s o mu n r out vd xe xa xs xd xo):EntsR (Un s o (with' mu fz)) xe r.log.ents:=by
 obtain⟨cs,h1,h2⟩:=S.rt.ents;have u:∀t,t≠7->t≠9->Sub (Tag o t (with' mu fz)) (Un s o (with' mu fz)):=λt h7 h9 j B hj=>by
  obtain⟨p1,p2⟩:=Tag.el hj;exact Un.at (by omega) (λe=>by rw[e,S.os]at p1;omega) p2
 exact⟨cs,(h1.mono (u 1 (by omega) (by omega))).to,h2.imp λc a h=>(EntX.mono (u 2 (by omega) (by omega)) h).to⟩
theorem inst_sz {own got g:Lg} (hz:LgSz got) (h:instL own got=some g):LgSz g:=by
 unfold instL at h;split at h
 ·split at h
  ·cases h;exact hz
  ·cases h;exact⟨by have:=hz.ents;simp only[List.length_drop];omega,λe he=>hz.bat e (List.mem_of_mem_drop he)⟩
 ·cases h
theorem inst_ok {own got g:Lg} (hz:Ok got) (h:instL own got=some g):Ok g:=by
 unfold instL at h;split at h
 ·split at h
  ·cases h;exact hz
  ·cases h;exactλe he=>hz e (List.mem_of_mem_drop he)
 ·cases h
theorem Qo1 {r r1:Rep} {l:Lg} {c:Int} {N:Nat} (h:takeR r l c N=some r1):∃g,instL r.log l=some g/\r1.log=g/\r1.me=r.me/\r1.nodes=r.nodes/\r1.acks=List.replicate N 0/\r1.view=r.view:=by
 unfold takeR at h;split at h
 ·cases h
 ·rename_i g hg;split at h
  ·cases h
  ·cases h;exact⟨g,hg,rfl,rfl,rfl,rfl,rfl⟩
section
variable {P:Program} (H:Fs P)
include H
theorem Qmk (s:Nat) (r:Rep) (xe xa xs xd xo:SV) (vd:Bool) {N:Nat} (hN:r.nodes=(N:Int)) (hN7:N<=7) (h1:1<=N):Ctr P n_Qa0 [.one (.optr s 0)] (λM=>M s=some (stepC r xe xa xs xd xo vd)) (λ_ _ _ v=>v=.one (I ((N-1)/2:Nat))):=Ctr.of H.mx H.Qa0 (λ_=>0) λfz mu n k hfr b1 hk=>by
 have hh:=half h1 hN7;unfold stepC repC at b1;rw[hN]at b1;rw[dY a_Qa0.eq_1 b_Qa0.eq_1];clear hN;simp only[↓E1,E2,seval, *];exact hk _ _ _ (Gr.refl hfr) rfl
theorem play_f (s:Nat) (r:Rep) (xe xa xs xd xo:SV) (vd:Bool) {N:Nat} (hN:r.nodes=(N:Int)) (hN7:N<=7) (h1:1<=N):Ctr P n_Qdj [.one (.optr s 0)] (λM=>M s=some (stepC r xe xa xs xd xo vd)) (λ_ _ _ v=>v=.one (I ((N-1)/2:Nat))):=Ctr.of H.mx H.Qdj (λ_=>0) λfz mu n k hfr b1 hk=>by
 have hh:=half h1 hN7;unfold stepC repC at b1;rw[hN]at b1;rw[dY a_Qdj.eq_1 b_Qdj.eq_1];clear hN;simp only[↓E1,E2,seval, *];exact hk _ _ _ (Gr.refl hfr) rfl
theorem Qfq (s:Nat) (r:Rep) (xe xa xs xd xo:SV) (vd:Bool) (v:Int):Ctr P n_Qa6 [.one (.optr s 0),.one (I v)] (λM=>M s=some (stepC r xe xa xs xd xo vd)) (λ_ _ _ w=>w=.one (I (prim v r.nodes))):=Ctr.of H.mx H.Qa6 (λ_=>0) λfz mu n k hfr b1 hk=>by
 unfold stepC repC at b1;have hP:=ref16_Primary H v r.nodes;rw[dY a_Qa6.eq_1 b_Qa6.eq_1];simp only[↓E1,E2,seval, *];refine hP.q0 hfr trivial ?_;rintro w n' hl rfl;simp only[↓E1,E2,seval, *];exact hk _ _ _ ((Gr.refl hfr).le2 hl) rfl
end
def chose (r:Rep) (N:Nat):Option Rep->Rep×List Msg×Bool
 |none=>(r,[],true)
 |some r1=>(Qia r1,allM (Qia r1) (setM (Qia r1)) N,false)
theorem Qjh (r:Rep) (N:Nat):(decide (r.status=1)=false/\Qfs r N=(r,[],false))\/(decide (r.status=1)=true/\decide (r.dos.length<(N-1)/2)=true/\Qfs r N=(r,[],false))\/
 (decide (r.status=1)=true/\decide (r.dos.length<(N-1)/2)=false/\Qfs r N=chose r N (takeR r (bestD r).log (Qib (allD r) (allD r).length) N)):=by
 unfold Qfs;by_cases h1:r.status=1
 ·by_cases h2:(N-1)/2<=r.dos.length
  ·rw[if_pos ⟨h1,h2⟩];refine .inr (.inr ⟨decide_eq_true h1,decide_eq_false (by omega),?_⟩);cases h3:takeR r (bestD r).log (Qib (allD r) (allD r).length) N<;>rfl
  ·rw[if_neg (λh=>h2 h.2)];exact .inr (.inl ⟨decide_eq_true h1,decide_eq_true (by omega),rfl⟩)
 ·rw[if_neg (λh=>h1 h.1)];exact .inl ⟨decide_eq_false h1,rfl⟩
theorem Qjf {B c:List SV} {p m a b:Nat} (h:(B.drop p).take m=c) (hab:a+b<=m):(B.drop (p+a)).take b=(c.drop a).take b:=by
 rw[<-h,List.drop_take,List.take_take,List.drop_drop,Nat.min_eq_left (by omega)]
theorem Kp.lo {T:Nat->Prop} {s:Nat} {o o':Nat->Nat} {mu mu':St} {n n2 n':Nat} (h:Kp T s o o' mu n2 mu' n') (hn:n<=n2):Kp T s o o' mu n mu' n':=⟨Nat.le_trans hn h.le,λj hj=>h.tags j (by omega),λj hj=>h.keep j (by omega)⟩
theorem sz_set {r:Rep} (h:LgSz r.log):MsgSz (setM r):=⟨by simp[setM],h⟩
theorem Qrr (r:Rep):∃h:Qf9 (allD r) (allD r).length<(allD r).length,bestD r=(allD r)[Qf9 (allD r) (allD r).length]:=by
 have h:Qf9 (allD r) (allD r).length<(allD r).length:=Qk0 (by simp[allD]) (Nat.le_refl _);exact⟨h,by unfold bestD;rw[List.getD_eq_getElem?_getD,List.getElem?_eq_getElem h];rfl⟩
theorem Qmm {l:List Dv} {i:Nat} (hi:i<l.length):Qib l (i+1)=max (Qib l i) l[i].commit:=by
 rw[Qib,List.getD_eq_getElem?_getD,List.getElem?_eq_getElem hi];rfl
theorem app_dv {fz:Fz} {mu mB:St} {n nB:Nat} (hf:Free fz mu n) (g:Gr n fz mu mB n nB) {xc:SV} {ds:List (List SV)} {l:List Dv} (hx:SlX (From n (with' mB fz)) 6 xc ds) (hl:All2 (DvR (with' mu fz)) ds l) {d:Dv} {y:SV} (hy:EntsR (with' mu fz) y d.log.ents) (hlen:ds.length<=1954687338267) {K:KT Prop}
 (hk:∀x m4,Gr n fz mu m4 n (nB+1)->DvsR (with' m4 fz) x (l++[d])->K (.one x) m4 (nB+1)):onApp mB nB 6 72 xc (dvC d y) 1 K:=by
 obtain⟨-,-,yk,-⟩:=hy.len;have hkn:Qeq (dvC d y)=true:=by unfold dvC;simp only[↓E1,E2,seval, *]
 have hfl:onApp mB nB 6 72 xc ([dvC d y]:List (List SV)).flatten ([dvC d y]:List (List SV)).length K:=by
  refine Qhw (G:=From n (with' mB fz)) hx (λid B h=>Qmx hf (From.el h).1 (From.el h).2) (Qfc (by simp;omega) (by decide) (by decide)) (by simp) (λe he=>by rw[List.mem_singleton.1 he];exact⟨rfl,hkn⟩) λm4 ho hn=>?_;have hnB:=g.le;have g4:Gr n fz mu m4 n (nB+1):=by
   have h1:∀j,j<n->Ev.look m4 j=Ev.look mB j:=λj hj=>by
    rcases ho j (by omega)with h|⟨B,p1,-⟩
    ·exact h
    ·have:=(From.el p1).1;omega
   refine⟨by omega,λj hj=>(Qeu (h1 j hj)).trans (g.ext j hj),λj hj=>(h1 j hj).trans (g.own j hj),λj=>?_⟩;have h0:=g.free.none (show nB<=nB+1+j by omega);rcases ho (nB+1+j) (by omega)with h|⟨B,p1,-⟩
   ·rw[Qeu h];exact h0
   ·have:=(From.el p1).2;rw[h0]at this;cases this
  have hall:∀e∈ds++[dvC d y],e.length=6/\Qeq e=true:=λe he=>by
   rcases List.mem_append.1 he with he|he
   ·rcases hx with⟨_,rfl⟩|⟨id,_,_,_,h4⟩
    ·cases he
    ·exact h4 e he
   ·rw[List.mem_singleton.1 he];exact⟨rfl,hkn⟩
  refine hk _ _ g4 ⟨ds++[dvC d y],.inr ⟨nB,0,(ds++[dvC d y]).length,(ds++[dvC d y]).flatten,rfl,Nat.le_refl _,Qem hn,Qfu (Qe3 hall),?_,?_,hall⟩,All2.append (hl.imp λc a h=>DvR.mono (g4.sub hf (Nat.le_refl _)) h) ⟨⟨y,rfl,EntsR.mono (g4.sub hf (Nat.le_refl _)) hy⟩,trivial⟩⟩
  ·rw[Qfr λe he=>(hall e he).1];omega
  ·rw[List.drop_zero,List.take_of_length_le (by rw[Qfr λe he=>(hall e he).1];omega)]
 simpa only[List.flatten_cons,List.flatten_nil,List.append_nil,List.length_cons,List.length_nil,Nat.zero_add]using hfl
section
variable {P:Program} (H:Fs P)
include H
theorem Qmf (hS:SortC P) {lo:Nat} {fz:Fz} {s:Nat} {o:Nat->Nat} {mu:St} {n:Nat} {r:Rep} {out:List Msg} {xe xa xs xd xo:SV} (S:SW lo fz s o mu n r out false xe xa xs xd xo)
 {N:Nat} (hN:r.nodes=(N:Int)) (hN7:N<=7) (h1N:1<=N) (hz:RepSz r) (hl:out.length<=900) {k:KT Prop} {w:WK k}
 (hk:∀mu' n' o' xe' xa' xs' xd' xo',SW lo fz s o' mu' n' (Qfs r N).1 (out++(Qfs r N).2.1) (Qfs r N).2.2 xe' xa' xs' xd' xo'->Kp (· =7) s o o' mu n mu' n'->k noVal mu' n'):CPh P n_Qax [.one (.optr s 0)] fz mu n k w:=by
 refine CP_of H.Qax H.mx ((allD r).length+1) ?_;have hsn:s<n:=S.slt;have ws:=Qem (fz:=fz) S.cells;have hF:=Qmk H s r xe xa xs xd xo false hN hN7 h1N;obtain⟨⟨xek,xem⟩,⟨xak,xam⟩,⟨xsk,xsm⟩,⟨xdk,xdm⟩,xok,xom⟩:=S.ks;obtain⟨xdl,xds,-,-⟩:=S.rs.2.2.2.len;have ws':=ws;unfold stepC repC at ws;have hkH:=Hide.mk hk;have hNH:=Hide.mk hN;clear hk hN;rw[dY a_Qax.eq_1 b_Qax.eq_1];rcases Qjh r N with⟨h1,hR⟩|⟨h1,h2,hR⟩|⟨h1,h2,hR⟩
 ·have hk:=hkH.out;rw[hR]at hk;simp only[List.append_nil]at hk;have hk2:=hk _ _ _ _ _ _ _ _ S Kp.refl;clear hk hR;simp only[↓E1,E2,seval, *,E3];all_goals exact hk2
 ·have hk:=hkH.out;rw[hR]at hk;simp only[List.append_nil]at hk;have hk2:=λn' hn=>hk _ n' _ _ _ _ _ _ (S.le hn) (Kp.refl.le2 hn);clear hk hR;simp only[↓E1,E2,seval, *,E3];refine hF.q1 S.free ws' ?_;rintro v n2 l2 rfl;simp only[↓E1,E2,seval, *,E3];all_goals exact hk2 _ l2
 ·have hC:=λcs hcs=>Qi2 H xd cs hcs;simp only[↓E1,E2,seval, *,E3];refine hF.q1 S.free ws' ?_;rintro v n2 l2 rfl;simp only[↓E1,E2,seval, *,E3];obtain⟨ds,q1,q2⟩:=S.rs.2.2.2;have hcl:=q2.length;have hzd:=hz.dos;have S1:=S.trim.le l2;refine(hC ds (by omega)).d2 S1.free q1 ?_;rintro v new n3 g3 ⟨xc,rfl,hxc⟩;have l3:=g3.le;obtain⟨-,-,zck,zcm⟩:=hxc.len;have hX:∀j,Ev.look (new++[(n3,[I r.me,I r.normal,I r.commit,I r.log.base,r.log.snap.sv,xe])]++mu) j=Ev.look ((n3,[I r.me,I r.normal,I r.commit,I r.log.base,r.log.snap.sv,xe])::(new++mu)) j:=λj=>by
   rw[List.append_assoc];refine Qkr (b:=[(n3,[I r.me,I r.normal,I r.commit,I r.log.base,r.log.snap.sv,xe])]) λh=>?_;rw[Qer];split
   ·rename_i e;subst e;exfalso
    apply h;have h4:=g3.free.none (Nat.le_refl n3);rw[Qe5,Qe1]at h4;cases e:Ev.look new n3 with
    |none=>rfl
    |some c=>rw[e]at h4;cases h4
   ·rfl
  have gB:Gr n2 fz mu (new++[(n3,[I r.me,I r.normal,I r.commit,I r.log.base,r.log.snap.sv,xe])]++mu) n2 (n3+1):=(g3.cons (by omega) _).congr hX;have bB:Ev.look (new++[(n3,[I r.me,I r.normal,I r.commit,I r.log.base,r.log.snap.sv,xe])]++mu) n3=some [I r.me,I r.normal,I r.commit,I r.log.base,r.log.snap.sv,xe]:=by rw[hX,Qer,if_pos rfl]
  have hxB:SlX (From n2 (with' (new++[(n3,[I r.me,I r.normal,I r.commit,I r.log.base,r.log.snap.sv,xe])]++mu) fz)) 6 xc ds:=by
   rw[Ql3 (fz:=fz) hX];exact hxc.mono (From.mono (((Gr.refl (lo:=n3) g3.free).cons (Nat.le_refl _) _).sub g3.free (Nat.le_refl _)))
  have wB:=Qem (fz:=fz) bB;simp only[↓E1,E2,seval, *,E3];refine app_dv (d:=ownD r) (y:=xe) S1.free gB hxB q2 S.rs.1 (by omega) λx0 m4 g4 hD=>?_;obtain⟨n4,hn4⟩:∃n4,n3+1+1=n4:=⟨_,rfl⟩
  rw[hn4]at g4⊢;have hD:DvsR (with' m4 fz) x0 (allD r):=hD;have S4:=S1.gr g4;obtain⟨x0l,x0s,x0k,x0m⟩:=hD.len;have hlD:(allD r).length=r.dos.length+1:=by simp[allD]
  have hBest:=choose_Best H x0 (allD r) (by omega) (by omega);have K4:Kp (λ_=>False) s (trim o n) (trim o n) mu n2 m4 n4:=Gr.kp g4;clear hX gB bB hxB wB hxc q1 q2 g3 hC;simp only[↓E1,E2,seval, *,E3];refine hBest.q0 S4.free hD ?_;rintro v n5 l5 rfl;have g5:=g4.le2 l5;obtain⟨D,hDe⟩:∃D,allD r=D:=⟨_,rfl⟩
  obtain⟨bi,hbi⟩:∃bi,Qf9 D D.length=bi:=⟨_,rfl⟩
  have hbl:bi<D.length:=by rw[<-hbi,<-hDe];exact(Qrr r).1
  have hbdH:Hide (bestD r=D.getD bi dv0):=⟨by rw[<-hbi,<-hDe];rfl⟩
  have hRH:=Hide.mk hR;have hzD:∀d∈D,LgSz d.log:=λd hd=>by
   rw[<-hDe]at hd;rcases List.mem_append.1 hd with h|h
   ·exact hz.dlog _ h
   ·rw[List.mem_singleton.1 h];exact hz.log
  rw[hDe]at hD hlD x0l;clear hR hBest h1 h2;have hDeH:=Hide.mk hDe;have hlDH:=Hide.mk hlD;clear hlD;simp only[↓E1,E2,seval, *,E3];clear hbi hDe;refine loopI (x:=0) (L:=D.length) (p:=λ_=>true) (λi e mu' n'=>Gr n5 fz m4 mu' n5 n'/\e 0 0=.one (.optr s 0)/\e 0 2=.one x0/\e 0 3=.one (I (bi:Nat))/\e 0 5=.one (I (Qib D i))/\e 3 11=.one x0/\e 3 12=.one (I (D.length:Nat))/\e 3 13=.one (I (i:Nat))) (λ_ _ _=>False) ?_ ?_ _ _ _ _ _ (by have:=hlDH.out;omega) ?_ ?_ (by rintro⟨_,_,_,h⟩;cases h)
  ·rintro i e mu1 n1 K hi ⟨g1,e0,e2,e3,e5,e11,e12,e13⟩ hy hn;have hY:=Hide.mk hy;clear hy hn;have hw:=Qev hi (by have:=hlDH.out;omega);have hcs:=Qmm hi;obtain⟨id,off,cap,B,y,rfl,p1,p2,p3,p4,p5⟩:=(DvsR.mono (g1.sub (S4.free.le l5) (Nat.le_refl _)) hD).elem hi;obtain⟨-,-,yk,ym⟩:=p5.len;unfold dvC at p4;rw[dX l_Qax_0.eq_1];simp only[↓E1,E4,seval, *];refine hY.out rfl _ _ _ ⟨g1.cons (by have:=g1.le;omega) _,?_,?_,?_,?_,?_,?_,?_⟩;all_goals simp[updN,updE, *]
  ·rintro e mu1 n1 K ⟨g1,e0,e2,e3,e5,e11,e12,e13⟩ hx;have hX:=Hide.mk hx;clear hx;have hlt:((D.length:Int)<D.length)=False:=by simp
   have hlt2:(D.length<D.length)=False:=by simp
   rw[dX l_Qax_0.eq_1];simp only[↓E1,E2,seval, *];refine hX.out _ _ _ ⟨g1,?_,?_,?_,?_,?_,?_,?_⟩;all_goals simp[updN,updE, *]
  ·refine⟨Gr.refl (S4.free.le l5),?_,?_,?_,?_,?_,?_,?_⟩;all_goals clear hlDH
   all_goals simp[updN,updE,envI,Qib, *]
  ·rintro -e mu1 n1 ⟨g1,e0,e2,e3,e5,e11,e12,e13⟩;have S6:=(S4.le l5).gr g1;have K6:Kp (λ_=>False) s (trim o n) (trim o n) mu n2 mu1 n1:=(K4.le2 l5).trans (Gr.kp g1);obtain⟨id,off,cap,B,y,rfl,p1,p2,p3,p4,p5⟩:=(DvsR.mono (g1.sub (S4.free.le l5) (Nat.le_refl _)) hD).elem hbl;obtain⟨-,-,yk,ym⟩:=p5.len;have hsub:(B.drop (off+bi*6+3)).take 3=lgC D[bi].log y:=by rw[Qjf p4 (by omega)];rfl
   have hbd3:off+bi*6+3+3<=B.length:=by omega
   unfold lgC at hsub;have hc1:(bi:Int)<(D.length:Int):=by omega
   clear ws;simp only[↓E1,E2,seval, *,E3];refine step_take H S6 D[bi].log y (Qib D D.length) p5 (hzD _ (List.getElem_mem hbl)) hNH.out hN7 (λr1 hT m7 n7 o7 xe7 xa7 S7 K7=>?_) (λhT m7 n7 o7 S7 K7=>?_)
   ·have hch:Qfs r N=chose r N (some r1):=by rw[hRH.out,hbdH.out,hDeH.out,List.getD_eq_getElem?_getD,List.getElem?_eq_getElem hbl,Option.getD_some,hT]
    obtain⟨g,hg1,hg2,hg3,hg4,hg5,hg6⟩:=Qo1 hT;have hLz:LgSz r1.log:=by rw[hg2];exact inst_sz (hzD _ (List.getElem_mem hbl)) hg1
    have hNr:=Hide.mk (show r1.nodes=(N:Int) by rw[hg4];exact hNH.out);have hal:r1.acks.length<=17592186044415:=by rw[hg5,List.length_replicate];omega
    have hk:=hkH.out;rw[hch]at hk;have hkH2:=Hide.mk hk;have K67:=((K6.trans K7).lo l2).trim;clear hk hch hkH hRH hbdH hDeH hT hg1 hg2 hg3 hg4 hg5 hg6 hzD K6 K7 K4 g1 g4 g5 p1 p2 p3 p4 p5 hsub S6 S4 hD;have hs7:=S7.cells;have ws7:=Qem (fz:=fz) hs7;unfold stepC repC at ws7 hs7;obtain⟨⟨zek,zem⟩,⟨zak,zam⟩,-,-,-,-⟩:=S7.ks;have hLa:=replica_step_last H s r1 xe7 xa7 .nsl .nsl xo false;have hCm:=replica_Committed H hS xa7 r1.acks r1.me (last r1.log) hal;simp only[↓E1,E4,seval, *];refine hLa.q1 S7.free ⟨Qem S7.cells,S7.rs.1⟩ ?_;rintro v n8 l8 rfl;simp only[↓E1,E4,seval, *];refine hCm.q1 (S7.free.le l8) S7.rs.2.1 ?_;rintro v n9 l9 rfl;have S8:=(S7.le (Nat.le_trans l8 l9)).put (r':=Qia r1) (vd':=false) rfl rfl rfl rfl;have K8:=(K67.trans (S7.kput (c:=stepC (Qia r1) xe7 xa7 .nsl .nsl xo false))).le2 (Nat.le_trans l8 l9);have hcell:stepC (Qia r1) xe7 xa7 .nsl .nsl xo false=[I r1.me,I r1.nodes,I r1.view,I r1.normal,I r1.status,I (max r1.commit (commF r1.acks r1.me (last r1.log))),.bool r1.sent,I r1.log.base,r1.log.snap.sv,xe7,xa7,.nsl,.nsl,xo,.bool false]:=rfl;have w8:=Qem (fz:=fz) S8.cells;rw[hcell]at S8 K8 w8;clear hcell hLa hCm K67;simp only[↓E1,E4,seval, *];have hAll:=λ(k:KT Prop) (w:WK k)=>Qsw H S8 (setM (Qia r1)) .nsl xe7 ⟨nilP _,S8.un⟩ (sz_set hLz) hl (N:=N) hNr.out hN7 (k:=k) (w:=w);refine hAll _ _ λm10 n10 o10 xo10 S10 K10=>?_;simp only[↓E1,E4,seval, *];exact hkH2.out _ _ _ _ _ _ _ _ S10 ((K8.weaken (λt h=>h.elim)).trans K10)
   ·have hch:Qfs r N=chose r N none:=by rw[hRH.out,hbdH.out,hDeH.out,List.getD_eq_getElem?_getD,List.getElem?_eq_getElem hbl,Option.getD_some,hT]
    have hk:=hkH.out;rw[hch]at hk;simp only[chose,List.append_nil]at hk;have hk2:=hk _ _ _ _ _ _ _ _ S7 (((K6.trans K7).lo l2).trim.weaken (λt h=>h.elim));clear hk hch;simp only[↓E1,E2,seval, *,E3];all_goals exact hk2
end
theorem inst_last {own got g:Lg} (h:instL own got=some g):last g<=4611686018427387904:=by
 rcases inst_cases own got with⟨h1,hI⟩|⟨h1,h2,hI⟩|⟨h1,h2,h3,hI⟩|⟨h1,h2,h3,h4,hI⟩|⟨h1,h2,h3,h4,j,hj,hw,hj0,hjl,hI⟩
 ·rw[hI]at h;cases h
 ·rw[hI]at h;cases h
 ·rw[hI]at h;cases h
 ·rw[hI]at h;cases h;rw[Qrv h2];have:=Qji h2;omega
 ·rw[hI]at h;cases h;obtain⟨a1,a2,a3⟩:=Qji h1;obtain⟨b1,b2,b3⟩:=Qji h2;unfold last;simp only[List.length_drop];rw[wrap64 (by omega) (by omega)];omega
section
variable {P:Program} (H:Fs P)
include H
theorem Qj9 {lo:Nat} {fz:Fz} {s:Nat} {o:Nat->Nat} {mu:St} {n:Nat} {r:Rep} {out:List Msg} {xe xa xs xd xo:SV} (S:SW lo fz s o mu n r out false xe xa xs xd xo)
 {N:Nat} (hN:r.nodes=(N:Int)) (hN7:N<=7) (h1N:1<=N) (hz:RepSz r) (hok1:Ok r.log) (hok2:∀d∈r.dos,Ok d.log) (hl:out.length<=900) {k:KT Prop} {w:WK k}
 (hk:∀mu' n' o' xe' xa' xs' xd' xo',SW lo fz s o' mu' n' (Qfs r N).1 (out++(Qfs r N).2.1) (Qfs r N).2.2 xe' xa' xs' xd' xo'->Kp (· =7) s o o' mu n mu' n'->k noVal mu' n'):CPh P n_Qbe [.one (.optr s 0)] fz mu n k w:=by
 refine CP_of H.Qbe H.mx ((allD r).length+1) ?_;have hsn:s<n:=S.slt;have ws:=Qem (fz:=fz) S.cells;have hF:=play_f H s r xe xa xs xd xo false hN hN7 h1N;obtain⟨⟨xek,xem⟩,⟨xak,xam⟩,⟨xsk,xsm⟩,⟨xdk,xdm⟩,xok,xom⟩:=S.ks;obtain⟨xdl,xds,-,-⟩:=S.rs.2.2.2.len;have ws':=ws;unfold stepC repC at ws;have hkH:=Hide.mk hk;have hNH:=Hide.mk hN;clear hk hN;rw[dY a_Qbe.eq_1 b_Qbe.eq_1];rcases Qjh r N with⟨h1,hR⟩|⟨h1,h2,hR⟩|⟨h1,h2,hR⟩
 ·have hk:=hkH.out;rw[hR]at hk;simp only[List.append_nil]at hk;have hk2:=hk _ _ _ _ _ _ _ _ S Kp.refl;clear hk hR;simp only[↓E1,E2,seval, *,E3];all_goals exact hk2
 ·have hk:=hkH.out;rw[hR]at hk;simp only[List.append_nil]at hk;have hk2:=λn' hn=>hk _ n' _ _ _ _ _ _ (S.le hn) (Kp.refl.le2 hn);clear hk hR;simp only[↓E1,E2,seval, *,E3];refine hF.q1 S.free ws' ?_;rintro v n2 l2 rfl;simp only[↓E1,E2,seval, *,E3];all_goals exact hk2 _ l2
 ·have hne:∀j,n<=j->(j=s)=False:=λj hj=>by simp;omega
  simp only[↓E1,E2,seval, *,E3];refine hF.q1 S.free ws' ?_;rintro v n2 l2 rfl;have hne2:=hne n2 l2;simp only[↓E1,E2,seval, *,E3];obtain⟨ds,q1,q2⟩:=S.rs.2.2.2;have hcl:=q2.length;have hzd:=hz.dos;have S1:=S.trim.le l2;have hcs:∀e∈ds,e.length=6/\Qeq e=true:=by
   rcases q1 with⟨_,rfl⟩|⟨_,_,_,_,_,_,_,_,_,_,h⟩
   ·intro e he;cases he
   ·exact h
  obtain⟨e1,e2⟩:=Qg9 (Sl.mono q1 (sub1 S1.free (c:=[])));rw[e1];clear e1;refine⟨e2,Qha S1.free (Qfc (by omega) (by decide) (by decide)) hcs (λxc mA nA gA hxc=>?_)⟩;have lA:=gA.le;obtain⟨-,-,zck,zcm⟩:=SlX.len hxc;have SA:=S1.gr gA;have wsA:=Qem (fz:=fz) SA.cells;have hneA:=hne nA (by omega);unfold stepC repC at wsA;simp only[↓E1,E2,seval, *,E3];have hxB:SlX (From n2 (with' ((nA,[I r.me,I r.normal,I r.commit,I r.log.base,r.log.snap.sv,xe])::mA) fz)) 6 xc ds:=hxc.mono (From.mono (((Gr.refl (lo:=nA) gA.free).cons (Nat.le_refl _) _).sub gA.free (Nat.le_refl _)));refine app_dv (d:=ownD r) (y:=xe) S1.free (gA.cons (by omega) _) hxB q2 S.rs.1 (by omega) λx0 m4 g4 hD=>?_;obtain⟨n4,hn4⟩:∃n4,nA+1+1=n4:=⟨_,rfl⟩
  rw[hn4]at g4⊢;have hD:DvsR (with' m4 fz) x0 (allD r):=hD;have S4:=S1.gr g4;obtain⟨x0l,x0s,x0k,x0m⟩:=hD.len;have hlD:(allD r).length=r.dos.length+1:=by simp[allD]
  have hBest:=ref16_Best H x0 (allD r) (by omega) (by omega);have K4:Kp (λ_=>False) s (trim o n) (trim o n) mu n2 m4 n4:=Gr.kp g4;clear hxc q1 q2 gA e2 hcs hxB;have S4c:=S4.cells;have ws4:=Qem (fz:=fz) S4c;unfold stepC repC at ws4;simp only[↓E1,E2,seval, *,E3];refine hBest.q0 S4.free hD ?_;rintro v n5 l5 rfl;have g5:=g4.le2 l5;obtain⟨D,hDe⟩:∃D,allD r=D:=⟨_,rfl⟩
  obtain⟨bi,hbi⟩:∃bi,Qf9 D D.length=bi:=⟨_,rfl⟩
  have hbl:bi<D.length:=by rw[<-hbi,<-hDe];exact(Qrr r).1
  have hbdH:Hide (bestD r=D.getD bi dv0):=⟨by rw[<-hbi,<-hDe];rfl⟩
  have hRH:=Hide.mk hR;have hzD:∀d∈D,LgSz d.log:=λd hd=>by
   rw[<-hDe]at hd;rcases List.mem_append.1 hd with h|h
   ·exact hz.dlog _ h
   ·rw[List.mem_singleton.1 h];exact hz.log
  have hoD:∀d∈D,Ok d.log:=λd hd=>by
   rw[<-hDe]at hd;rcases List.mem_append.1 hd with h|h
   ·exact hok2 _ h
   ·rw[List.mem_singleton.1 h];exact hok1
  rw[hDe]at hD hlD x0l;clear hR hBest h1 h2;have hDeH:=Hide.mk hDe;have hlDH:=Hide.mk hlD;clear hlD;simp only[↓E1,E2,seval, *,E3];clear hbi hDe;refine loopI (x:=0) (L:=D.length) (p:=λ_=>true) (λi e mu' n'=>mu'=m4/\n5<=n'/\e 0 0=.one (.optr s 0)/\e 0 2=.one x0/\e 0 3=.one (I (bi:Nat))/\e 0 5=.one (I (Qib D i))/\e 0 6=.one (I (i:Nat))) (λ_ _ _=>False) ?_ ?_ _ _ _ _ _ (by have:=hlDH.out;omega) ?_ ?_ (by rintro⟨_,_,_,h⟩;cases h)
  ·rintro i e mu1 n1 K hi ⟨rfl,ln1,e0,e2,e3,e5,e6⟩ hy hn;have hY:=Hide.mk hy;clear hy hn;have hw:=Qev hi (by have:=hlDH.out;omega);have hcs:=Qmm hi;obtain⟨id,off,cap,B,y,rfl,p1,p2,p3,p4,p5⟩:=hD.elem hi;have hsub:(B.drop (off+i*6+2)).take 1=[I D[i].commit]:=by rw[Qjf p4 (by omega)];rfl
   have hbd3:off+i*6+2+1<=B.length:=by omega
   have hc0:(i:Int)<(D.length:Int):=by omega
   rw[dX l_Qbe_0.eq_1];simp only[↓E1,E4,seval, *];refine hY.out rfl _ _ _ ⟨rfl,ln1,?_,?_,?_,?_,?_⟩;all_goals simp[updN,updE, *]
  ·rintro e mu1 n1 K ⟨rfl,ln1,e0,e2,e3,e5,e6⟩ hx;have hX:=Hide.mk hx;clear hx;have hlt:((D.length:Int)<D.length)=False:=by simp
   have hlt2:(D.length<D.length)=False:=by simp
   rw[dX l_Qbe_0.eq_1];simp only[↓E1,E2,seval, *];refine hX.out _ _ _ ⟨rfl,ln1,?_,?_,?_,?_,?_⟩;all_goals simp[updN,updE, *]
  ·refine⟨rfl,Nat.le_refl _,?_,?_,?_,?_,?_⟩;all_goals clear hlDH
   all_goals simp[updN,updE,envI,Qib, *]
  ·rintro -e mu1 n1 ⟨rfl,ln1,e0,e2,e3,e5,e6⟩;have S6:=S4.le (Nat.le_trans l5 ln1);have K6:Kp (λ_=>False) s (trim o n) (trim o n) mu n2 mu1 n1:=(K4.le2 l5).le2 ln1;obtain⟨id,off,cap,B,y,rfl,p1,p2,p3,p4,p5⟩:=hD.elem hbl;obtain⟨-,-,yk,ym⟩:=p5.len;have hsub:(B.drop (off+bi*6+3)).take 3=lgC D[bi].log y:=by rw[Qjf p4 (by omega)];rfl
   have hbd3:off+bi*6+3+3<=B.length:=by omega
   unfold lgC at hsub;have hc1:(bi:Int)<(D.length:Int):=by omega
   clear ws;simp only[↓E1,E2,seval, *,E3];refine Qpn H S6 D[bi].log y (Qib D D.length) p5 (hzD _ (List.getElem_mem hbl)) hok1 (hoD _ (List.getElem_mem hbl)) hNH.out hN7 (λr1 hT m7 n7 o7 xe7 xa7 S7 K7=>?_) (λhT m7 n7 o7 S7 K7=>?_)
   ·have hch:Qfs r N=chose r N (some r1):=by rw[hRH.out,hbdH.out,hDeH.out,List.getD_eq_getElem?_getD,List.getElem?_eq_getElem hbl,Option.getD_some,hT]
    obtain⟨g,hg1,hg2,hg3,hg4,hg5,hg6⟩:=Qo1 hT;have hLz:LgSz r1.log:=by rw[hg2];exact inst_sz (hzD _ (List.getElem_mem hbl)) hg1
    have hNr:=Hide.mk (show r1.nodes=(N:Int) by rw[hg4];exact hNH.out);have hokg:Ok r1.log:=by rw[hg2];exact inst_ok (hoD _ (List.getElem_mem hbl)) hg1
    have hlst:last r1.log<=4611686018427387904:=by rw[hg2];exact inst_last hg1
    have hal:r1.acks.length<=17592186044415:=by rw[hg5,List.length_replicate];omega
    have hk:=hkH.out;rw[hch]at hk;have hkH2:=Hide.mk hk;have K67:=((K6.trans K7).lo l2).trim;clear hk hch hkH hRH hbdH hDeH hT hg1 hg2 hg3 hg4 hg5 hg6 hzD K6 K7 K4 g4 g5 p1 p2 p3 p4 p5 hsub S6 S4 hD hoD;have hs7:=S7.cells;have ws7:=Qem (fz:=fz) hs7;unfold stepC repC at ws7 hs7;obtain⟨⟨zek,zem⟩,⟨zak,zam⟩,-,-,-,-⟩:=S7.ks;have hLa:=ref16_Last H r1.log xe7;unfold lgC at hLa;have hCm:=ref16_Committed H xa7 r1.acks r1.me (last r1.log) (by omega) hlst;simp only[↓E1,E4,seval, *];refine hLa.q1 S7.free S7.rs.1 ?_;rintro v n8 l8 rfl;simp only[↓E1,E4,seval, *];refine hCm.q1 (S7.free.le l8) S7.rs.2.1 ?_;rintro v n9 l9 rfl;have S8:=(S7.le (Nat.le_trans l8 l9)).put (r':=Qia r1) (vd':=false) rfl rfl rfl rfl;have K8:=(K67.trans (S7.kput (c:=stepC (Qia r1) xe7 xa7 .nsl .nsl xo false))).le2 (Nat.le_trans l8 l9);have hcell:stepC (Qia r1) xe7 xa7 .nsl .nsl xo false=[I r1.me,I r1.nodes,I r1.view,I r1.normal,I r1.status,I (max r1.commit (commF r1.acks r1.me (last r1.log))),.bool r1.sent,I r1.log.base,r1.log.snap.sv,xe7,xa7,.nsl,.nsl,xo,.bool false]:=rfl;have w8:=Qem (fz:=fz) S8.cells;rw[hcell]at S8 K8 w8;clear hcell hLa hCm K67;simp only[↓E1,E4,seval, *];have hAll:=λ(k:KT Prop) (w:WK k)=>Qs8 H S8 (setM (Qia r1)) .nsl xe7 (.inl ⟨.inl rfl,rfl⟩) S8.un hLz hl (N:=N) hNr.out hN7 (k:=k) (w:=w);refine hAll _ _ λm10 n10 o10 xo10 S10 K10=>?_;simp only[↓E1,E4,seval, *];exact hkH2.out _ _ _ _ _ _ _ _ S10 ((K8.weaken (λt h=>h.elim)).trans K10)
   ·have hch:Qfs r N=chose r N none:=by rw[hRH.out,hbdH.out,hDeH.out,List.getD_eq_getElem?_getD,List.getElem?_eq_getElem hbl,Option.getD_some,hT]
    have hk:=hkH.out;rw[hch]at hk;simp only[chose,List.append_nil]at hk;have hk2:=hk _ _ _ _ _ _ _ _ S7 (((K6.trans K7).lo l2).trim.weaken (λt h=>h.elim));clear hk hch;have ws7:=Qem (fz:=fz) S7.cells;unfold stepC repC at ws7;simp only[↓E1,E2,seval, *,E3];all_goals exact hk2
end
def askG (r:Rep):Msg:=⟨10,0,0,r.view,0,last r.log,0,0,0,0,0,0,0,0,tx0,[],⟨0,tx0,[]⟩,tx0⟩
def ackG (r:Rep):Msg:=⟨5,0,0,r.view,0,last r.log,0,0,0,0,0,0,0,0,tx0,[],⟨0,tx0,[]⟩,tx0⟩
def voteG (r:Rep):Msg:=⟨8,0,0,r.view,r.normal,0,r.commit,0,0,0,0,0,0,0,tx0,[],r.log,tx0⟩
theorem Qm1 (r:Rep):MsgSz (askG r):=⟨by simp[askG],⟨by simp[askG],by simp[askG]⟩⟩
theorem Qoc (r:Rep):MsgSz (ackG r):=⟨by simp[ackG],⟨by simp[ackG],by simp[ackG]⟩⟩
theorem Qw0 {r:Rep} (h:LgSz r.log):MsgSz (voteG r):=⟨by simp[voteG],h⟩
def StepP (res:Rep×List Msg) (n:Nat) (M:Fz) (v:AV):Prop:=∃xe xa xs xd xo o,v=.tp [.ag (repC res.1 xe xa xs xd),.one xo]/\(∀j,j<n->o j=0)/\RepT o M res.1 xe xa xs xd/\OutT o M xo res.2
section
variable {P:Program} (H:Fs P)
include H
theorem Qkk {s:Nat} {r:Rep} {xe xa xs xd xo:SV} {vd:Bool}:Ctr P n_Qbu [.one (.optr s 0)] (λM=>M s=some (stepC r xe xa xs xd xo vd)/\EntsR M xe r.log.ents) (λ_ _ _ v=>v=.ag (msgC (askG r) .nsl .nsl)):=Ctr.of H.mx H.Qbu (λ_=>0) λfz mu n k hfr b hk=>by
 obtain⟨b1,s1⟩:=b;have hs:=hfr.lt b1;have hne:(n=s)=False:=by simp;omega
 have hL:=replica_step_last H s r xe xa xs xd xo vd;have b1':=b1;have hkH:=Hide.mk hk;clear hk;unfold stepC repC at b1;have g0:=(Gr.refl (lo:=n) hfr).cons (Nat.le_refl _) [I 0,I 0,I 0,I 0,I 0,I 0,I 0,I 0,I 0,I 0,I 0,I 0,I 0,I 0,.str 0 0,.nsl,I 0,.str 0 0,.nsl,.str 0 0];have hb1:with' ((n,[I 0,I 0,I 0,I 0,I 0,I 0,I 0,I 0,I 0,I 0,I 0,I 0,I 0,I 0,.str 0 0,.nsl,I 0,.str 0 0,.nsl,.str 0 0])::mu) fz s=some (stepC r xe xa xs xd xo vd):=(g0.sub hfr (Nat.le_refl _)) _ _ b1';have hb1H:=Hide.mk hb1;clear hb1 b1';rw[dY a_Qbu.eq_1 b_Qbu.eq_1];simp only[↓E1,E2,seval, *,E3];refine hL.q1 g0.free ⟨hb1H.out,EntsR.mono (g0.sub hfr (Nat.le_refl _)) s1⟩ ?_;rintro v n2 l2 rfl;simp only[↓E1,E2,seval, *,E3];exact hkH.out _ _ _ (((Gr.refl (lo:=n) hfr).cons (Nat.le_refl _) (msgC (askG r) .nsl .nsl)).le2 l2) rfl
theorem Qol {s:Nat} {r:Rep} {xe xa xs xd xo:SV} {vd:Bool}:Ctr P n_Qb0 [.one (.optr s 0)] (λM=>M s=some (stepC r xe xa xs xd xo vd)/\EntsR M xe r.log.ents) (λ_ _ _ v=>v=.ag (msgC (ackG r) .nsl .nsl)):=Ctr.of H.mx H.Qb0 (λ_=>0) λfz mu n k hfr b hk=>by
 obtain⟨b1,s1⟩:=b;have hs:=hfr.lt b1;have hne:(n=s)=False:=by simp;omega
 have hL:=replica_step_last H s r xe xa xs xd xo vd;have b1':=b1;have hkH:=Hide.mk hk;clear hk;unfold stepC repC at b1;have g0:=(Gr.refl (lo:=n) hfr).cons (Nat.le_refl _) [I 0,I 0,I 0,I 0,I 0,I 0,I 0,I 0,I 0,I 0,I 0,I 0,I 0,I 0,.str 0 0,.nsl,I 0,.str 0 0,.nsl,.str 0 0];have hb1:with' ((n,[I 0,I 0,I 0,I 0,I 0,I 0,I 0,I 0,I 0,I 0,I 0,I 0,I 0,I 0,.str 0 0,.nsl,I 0,.str 0 0,.nsl,.str 0 0])::mu) fz s=some (stepC r xe xa xs xd xo vd):=(g0.sub hfr (Nat.le_refl _)) _ _ b1';have hb1H:=Hide.mk hb1;clear hb1 b1';rw[dY a_Qb0.eq_1 b_Qb0.eq_1];simp only[↓E1,E2,seval, *,E3];refine hL.q1 g0.free ⟨hb1H.out,EntsR.mono (g0.sub hfr (Nat.le_refl _)) s1⟩ ?_;rintro v n2 l2 rfl;simp only[↓E1,E2,seval, *,E3];exact hkH.out _ _ _ (((Gr.refl (lo:=n) hfr).cons (Nat.le_refl _) (msgC (ackG r) .nsl .nsl)).le2 l2) rfl
theorem Qxp {s:Nat} {r:Rep} {xe xa xs xd xo:SV} {vd:Bool}:Ctr P n_Qbg [.one (.optr s 0)] (λM=>M s=some (stepC r xe xa xs xd xo vd)/\EntsR M xe r.log.ents) (λ_ _ _ v=>v=.ag (msgC (voteG r) .nsl xe)):=Ctr.of H.mx H.Qbg (λ_=>0) λfz mu n k hfr b hk=>by
 obtain⟨b1,s1⟩:=b;obtain⟨-,-,xek,xem⟩:=s1.len;have hs:=hfr.lt b1;have hne:(n=s)=False:=by simp;omega
 have hkH:=Hide.mk hk;clear hk;unfold stepC repC at b1;rw[dY a_Qbg.eq_1 b_Qbg.eq_1];simp only[↓E1,E2,seval, *,E3];exact hkH.out _ _ _ ((Gr.refl (lo:=n) hfr).cons (Nat.le_refl _) (msgC (voteG r) .nsl xe)) rfl
theorem Qwo {lo:Nat} {fz:Fz} {s:Nat} {o:Nat->Nat} {mu:St} {n:Nat} {r:Rep} {out:List Msg} {vd:Bool} {xe xa xs xd xo:SV} (S:SW lo fz s o mu n r out vd xe xa xs xd xo)
 (hz:LgSz r.log) (hl:out.length<=1000) {k:KT Prop} {w:WK k}
 (hk:∀mu' n' o' xo',SW lo fz s o' mu' n' r (out++[{voteG r with frm:=r.me,to:=prim r.view r.nodes}]) vd xe xa xs xd xo'->Kp (· =7) s o o' mu n mu' n'->k noVal mu' n'):CPh P n_Qb6 [.one (.optr s 0)] fz mu n k w:=by
 refine CP_of H.Qb6 H.mx 0 ?_;obtain⟨⟨xek,xem⟩,⟨xak,xam⟩,⟨xsk,xsm⟩,⟨xdk,xdm⟩,xok,xom⟩:=S.ks;have ws:=Qem (fz:=fz) S.cells;have hP:=Qfq H s r xe xa xs xd xo vd r.view;have hkH:=Hide.mk hk;clear hk;unfold stepC repC at ws;rw[dY a_Qb6.eq_1 b_Qb6.eq_1];simp only[↓E1,E2,seval, *,E3];refine hP.q1 S.free (Qem S.cells) ?_;rintro v n2 l2 rfl;have hS:=λ(k:KT Prop) (w:WK k)=>Qga H (S.le l2) (prim r.view r.nodes) (voteG r) .nsl xe (.inl ⟨.inl rfl,rfl⟩) S.rs.1 hz hl (k:=k) (w:=w);simp only[↓E1,E2,seval, *,E3];refine hS _ _ λm3 n3 o3 xo3 S3 K3=>?_;simp only[↓E1,E2,seval, *,E3];exact hkH.out _ _ _ _ S3 (K3.lo l2)
theorem Qoi (s:Nat) (r r0:Rep) (xe xa xs xd xo ye ya ys yd:SV) (hz:RepSz r0):Ctr P n_Qbs [.one (.optr s 0),.ag (repC r0 ye ya ys yd)] (λM=>M s=some (stepC r xe xa xs xd xo true)/\RepS M r0 ye ya ys yd) (λn _ M v=>StepP (r0,[]) n M v):=Ctr.of H.mx H.Qbs (λ_=>0) λfz mu n k hfr h hk=>by
 obtain⟨b1,s1⟩:=h;obtain⟨-,-,yek,yem⟩:=s1.1.len;obtain⟨-,-,yak,yam⟩:=s1.2.1.len;obtain⟨-,-,ysk,ysm⟩:=s1.2.2.1.len;obtain⟨-,-,ydk,ydm⟩:=s1.2.2.2.len;have hs:s<n:=hfr.lt b1;have hne:(n=s)=False:=by simp;omega
 have hne2:(n+1=s)=False:=by simp;omega
 have hC:=replica_Clone H r0 ye ya ys yd hz;have hkH:=Hide.mk hk;clear hk;unfold stepC repC at b1;unfold repC at hC⊢;have g0:=((Gr.refl (lo:=n) hfr).cons (Nat.le_refl _) [I r0.me,I r0.nodes,I r0.view,I r0.normal,I r0.status,I r0.commit,.bool r0.sent,I r0.log.base,r0.log.snap.sv,ye,ya,ys,yd]).cons (by omega) [I 0,I 0,I 0,I 0,I 0,I 0,.bool false,I 0,.str 0 0,.nsl,.nsl,.nsl,.nsl];have b2:Ev.look ((n+1,[I 0,I 0,I 0,I 0,I 0,I 0,.bool false,I 0,.str 0 0,.nsl,.nsl,.nsl,.nsl])::(n,[I r0.me,I r0.nodes,I r0.view,I r0.normal,I r0.status,I r0.commit,.bool r0.sent,I r0.log.base,r0.log.snap.sv,ye,ya,ys,yd])::mu) (n+1)=some [I 0,I 0,I 0,I 0,I 0,I 0,.bool false,I 0,.str 0 0,.nsl,.nsl,.nsl,.nsl]:=by rw[Qer,if_pos rfl]
 rw[dY a_Qbs.eq_1 b_Qbs.eq_1];simp only[↓E1,E2,seval, *,E3];refine hC.c1 g0.free (RepS.mono (g0.sub hfr (Nat.le_refl _)) s1) ?_;rintro v m2 n2 g2 ⟨xe',xa',xs',xd',o,rfl,ho,hT⟩;have l2:=g2.le;have c2:=(g2.own (n+1) (by omega)).trans b2;have gz:=(g0.trans (g2.weaken (by omega))).put (id:=n+1) (by omega) c2 (c:=[I r0.me,I r0.nodes,I r0.view,I r0.normal,I r0.status,I r0.commit,.bool r0.sent,I r0.log.base,r0.log.snap.sv,xe',xa',xs',xd']);have hT2:=hT.keep (M':=with' (putS m2 (n+1) [I r0.me,I r0.nodes,I r0.view,I r0.normal,I r0.status,I r0.commit,.bool r0.sent,I r0.log.base,r0.log.snap.sv,xe',xa',xs',xd']) fz) (o':=o) λt h6 h7=>Tag.put (lookI c2) (by rw[ho _ (by omega)];omega);obtain⟨⟨es,t1,t2⟩,t3,t4,ds,t5,t6⟩:=hT;obtain⟨-,-,zek,zem⟩:=t1.len;obtain⟨-,-,zak,zam⟩:=SlX.len t3;obtain⟨-,-,zsk,zsm⟩:=SlX.len t4;obtain⟨-,-,zdk,zdm⟩:=SlX.len t5;have w2:=Qem (fz:=fz) c2;clear t1 t2 t3 t4 t5 t6 hC b2;simp only[↓E1,E2,seval, *,E3];exact hkH.out _ _ _ gz ⟨xe',xa',xs',xd',.nsl,o,rfl,λj hj=>ho j (by omega),hT2,⟨[],.inl ⟨.inl rfl,rfl⟩,trivial⟩⟩
end
def lagR (r:Rep) (v:Int) (N:Nat):Rep:=if decide (r.view<v)||decide (r.status=1)then anewR {r with view:=v,status:=2} N else r
def lagO (r:Rep) (v:Int):List Msg:=if decide (prim v r.nodes=r.me)then[]else[⟨10,r.me,prim v r.nodes,v,0,last r.log,0,0,0,0,0,0,0,0,tx0,[],⟨0,tx0,[]⟩,tx0⟩]
theorem Qnk (r:Rep) (v:Int) (N:Nat):(lagR r v N).me=r.me/\(lagR r v N).nodes=r.nodes/\(lagR r v N).log=r.log:=by unfold lagR;split<;>exact⟨rfl,rfl,rfl⟩
theorem Qo3 {r:Rep} {v:Int} (h:r.view<=v) (N:Nat):(lagR r v N).view=v:=by
 unfold lagR;split
 ·rfl
 ·rename_i h1;simp only[Bool.or_eq_true,decide_eq_true_eq,not_or]at h1;omega
def Qe4 (r:Rep) (c:Int):Rep:={r with commit:=max r.commit (min c (last r.log))}
theorem Qpl (r:Rep) (v:Int):(decide (r.view<v)=true/\(decide (r.view<v)||decide (r.status=1))=true)\/(decide (r.view<v)=false/\decide (r.status=1)=true/\(decide (r.view<v)||decide (r.status=1))=true)\/(decide (r.view<v)=false/\decide (r.status=1)=false/\(decide (r.view<v)||decide (r.status=1))=false):=by
 cases decide (r.view<v)<;>cases decide (r.status=1)<;>simp
section
variable {P:Program} (H:Fs P)
include H
theorem Qhy {lo:Nat} {fz:Fz} {s:Nat} {o:Nat->Nat} {mu:St} {n:Nat} {r:Rep} {out:List Msg} {vd:Bool} {xe xa xs xd xo:SV} (S:SW lo fz s o mu n r out vd xe xa xs xd xo) (c:Int) {k:KT Prop} {w:WK k}
 (hk:∀mu' n',SW lo fz s o mu' n' (Qe4 r c) out vd xe xa xs xd xo->Kp (λ_=>False) s o o mu n mu' n'->k noVal mu' n'):CPh P n_Qba [.one (.optr s 0),.one (I c)] fz mu n k w:=by
 refine CP_of H.Qba H.mx 0 ?_;obtain⟨⟨xek,xem⟩,⟨xak,xam⟩,⟨xsk,xsm⟩,⟨xdk,xdm⟩,xok,xom⟩:=S.ks;have hc:=S.cells;have ws:=Qem (fz:=fz) hc;have hLa:=replica_step_last H s r xe xa xs xd xo vd;have hkH:=Hide.mk hk;clear hk;unfold stepC repC at ws hc;rw[dY a_Qba.eq_1 b_Qba.eq_1];simp only[↓E1,E4,seval, *];refine hLa.q1 S.free ⟨Qem S.cells,S.rs.1⟩ ?_;rintro v n2 l2 rfl;have S2:=(S.le l2).put (r':=Qe4 r c) (vd':=vd) rfl rfl rfl rfl;have hk:=hkH.out _ _ S2 (S.kput.le2 l2);clear S2;simp only[↓E1,E4,seval, *];all_goals exact hk
theorem Qs2 {lo:Nat} {fz:Fz} {s:Nat} {o:Nat->Nat} {mu:St} {n:Nat} {r:Rep} {out:List Msg} {vd:Bool} {xe xa xs xd xo:SV} (S:SW lo fz s o mu n r out vd xe xa xs xd xo) (v:Int) (hv:r.view<=v)
 {N:Nat} (hN:r.nodes=(N:Int)) (hN7:N<=7) (hl:out.length<=900) {k:KT Prop} {w:WK k}
 (hk:∀mu' n' o' xa' xs' xd' xo',SW lo fz s o' mu' n' (lagR r v N) (out++lagO r v) vd xe xa' xs' xd' xo'->Kp (· =7) s o o' mu n mu' n'->k noVal mu' n'):CPh P n_Qbz [.one (.optr s 0),.one (I v)] fz mu n k w:=by
 refine CP_of H.Qbz H.mx 0 ?_;have hkH:=Hide.mk hk;have hNH:=Hide.mk hN;have hvH:=Hide.mk hv;clear hk hN hv;have hc:=S.cells;have ws:=Qem (fz:=fz) hc;obtain⟨⟨xek,xem⟩,⟨xak,xam⟩,⟨xsk,xsm⟩,⟨xdk,xdm⟩,xok,xom⟩:=S.ks;unfold stepC repC at hc ws;rw[dY a_Qbz.eq_1 b_Qbz.eq_1];rcases Qpl r v with⟨h1,hcd⟩|⟨h1,h2,hcd⟩|⟨h1,h2,hcd⟩
 ·have hcd:=Hide.mk hcd;have S1:=S.put (r':={r with view:=v,status:=2}) (vd':=vd) rfl rfl rfl rfl;have K1:Kp (λ_=>False) s o o mu n _ n:=S.kput (c:=stepC {r with view:=v,status:=2} xe xa xs xd xo vd);unfold stepC repC at S1 K1;simp only[↓E1,E4,seval, *];refine Qkt H S1 hNH.out hN7 λm2 n2 o2 xa2 S2 K2=>?_;have K2:=(K1.trans K2).weaken (T':=(· =7)) (λt h=>h.elim);obtain⟨r2,hr2⟩:∃r2,anewR {r with view:=v,status:=2} N=r2:=⟨_,rfl⟩
  rw[hr2]at S2;have hlag:lagR r v N=r2:=by rw[<-hr2];unfold lagR;rw[hcd.out];rfl
  clear S1 K1 hcd hr2;obtain⟨q1,q2,q3⟩:=Qnk r v N;have q4:=Qo3 hvH.out N;rw[hlag]at q1 q2 q3 q4;have hfin:=hkH.out;rw[hlag]at hfin;have ws2:=Qem (fz:=fz) S2.cells;obtain⟨-,⟨zak,zam⟩,⟨zsk,zsm⟩,⟨zdk,zdm⟩,-,-⟩:=S2.ks;have hLs:=replica_step_leads H s r2 xe xa2 .nsl .nsl xo vd;have hleads:Qgj r2=decide (prim v r.nodes=r.me):=by unfold Qgj;rw[q1,q2,q4]
  rw[hleads]at hLs;unfold stepC repC at ws2;have hfH:=Hide.mk hfin;clear hfin hkH ws hc hlag hleads;simp only[↓E1,E4,seval, *];refine hLs.q0 S2.free (Qem S2.cells) ?_;rintro w n3 l3 rfl;cases hp:decide (prim v r.nodes=r.me)with
  |true=>
   have hO:lagO r v=[]:=by unfold lagO;rw[hp];rfl
   have hk:=hfH.out;rw[hO,List.append_nil]at hk;have hk2:=hk _ _ _ _ _ _ _ (S2.le l3) (K2.le2 l3);clear hk hO;simp only[↓E1,E4,seval, *];all_goals exact hk2
  |false=>
   have hO:lagO r v=[{askG r2 with frm:=r2.me,to:=prim r2.view r2.nodes}]:=by unfold lagO;rw[hp,if_neg (by decide),q1,q2,q4];unfold askG;rw[q3,q4]
   have hk:=hfH.out;rw[hO]at hk;have hk2:=Hide.mk hk;have S3:=S2.le l3;have hPr:=replica_Primary H r2.view r2.nodes;have hV:=Qkk H (s:=s) (r:=r2) (xe:=xe) (xa:=xa2) (xs:=.nsl) (xd:=.nsl) (xo:=xo) (vd:=vd);unfold msgC askG at hV;clear hk hO q1 q2 q3 q4 hLs;simp only[↓E1,E4,seval, *];refine hPr.q1 S3.free trivial ?_;rintro w n7 l7 rfl;simp only[↓E1,E4,seval, *];refine hV.q1 (S3.free.le l7) ⟨Qem S3.cells,S3.rs.1⟩ ?_;rintro w n8 l8 rfl;have S8:=(S3.le l7).le l8;clear hV;simp only[↓E1,E4,seval, *];have hSd:=λ(k:KT Prop) (w:WK k)=>Qgc H S8 (prim r2.view r2.nodes) (askG r2) .nsl .nsl ⟨nilP _,nilE _⟩ (Qm1 r2) (by omega) (k:=k) (w:=w);refine hSd _ _ λm9 n9 o9 xo9 S9 K9=>?_;clear hSd;simp only[↓E1,E4,seval, *];exact hk2.out _ _ _ _ _ _ _ S9 ((K2.trans (K9.lo (by omega))))
 ·have hcd:=Hide.mk hcd;have S1:=S.put (r':={r with view:=v,status:=2}) (vd':=vd) rfl rfl rfl rfl;have K1:Kp (λ_=>False) s o o mu n _ n:=S.kput (c:=stepC {r with view:=v,status:=2} xe xa xs xd xo vd);unfold stepC repC at S1 K1;simp only[↓E1,E4,seval, *];refine Qkt H S1 hNH.out hN7 λm2 n2 o2 xa2 S2 K2=>?_;have K2:=(K1.trans K2).weaken (T':=(· =7)) (λt h=>h.elim);obtain⟨r2,hr2⟩:∃r2,anewR {r with view:=v,status:=2} N=r2:=⟨_,rfl⟩
  rw[hr2]at S2;have hlag:lagR r v N=r2:=by rw[<-hr2];unfold lagR;rw[hcd.out];rfl
  clear S1 K1 hcd hr2;obtain⟨q1,q2,q3⟩:=Qnk r v N;have q4:=Qo3 hvH.out N;rw[hlag]at q1 q2 q3 q4;have hfin:=hkH.out;rw[hlag]at hfin;have ws2:=Qem (fz:=fz) S2.cells;obtain⟨-,⟨zak,zam⟩,⟨zsk,zsm⟩,⟨zdk,zdm⟩,-,-⟩:=S2.ks;have hLs:=replica_step_leads H s r2 xe xa2 .nsl .nsl xo vd;have hleads:Qgj r2=decide (prim v r.nodes=r.me):=by unfold Qgj;rw[q1,q2,q4]
  rw[hleads]at hLs;unfold stepC repC at ws2;have hfH:=Hide.mk hfin;clear hfin hkH ws hc hlag hleads;simp only[↓E1,E4,seval, *];refine hLs.q0 S2.free (Qem S2.cells) ?_;rintro w n3 l3 rfl;cases hp:decide (prim v r.nodes=r.me)with
  |true=>
   have hO:lagO r v=[]:=by unfold lagO;rw[hp];rfl
   have hk:=hfH.out;rw[hO,List.append_nil]at hk;have hk2:=hk _ _ _ _ _ _ _ (S2.le l3) (K2.le2 l3);clear hk hO;simp only[↓E1,E4,seval, *];all_goals exact hk2
  |false=>
   have hO:lagO r v=[{askG r2 with frm:=r2.me,to:=prim r2.view r2.nodes}]:=by unfold lagO;rw[hp,if_neg (by decide),q1,q2,q4];unfold askG;rw[q3,q4]
   have hk:=hfH.out;rw[hO]at hk;have hk2:=Hide.mk hk;have S3:=S2.le l3;have hPr:=replica_Primary H r2.view r2.nodes;have hV:=Qkk H (s:=s) (r:=r2) (xe:=xe) (xa:=xa2) (xs:=.nsl) (xd:=.nsl) (xo:=xo) (vd:=vd);unfold msgC askG at hV;clear hk hO q1 q2 q3 q4 hLs;simp only[↓E1,E4,seval, *];refine hPr.q1 S3.free trivial ?_;rintro w n7 l7 rfl;simp only[↓E1,E4,seval, *];refine hV.q1 (S3.free.le l7) ⟨Qem S3.cells,S3.rs.1⟩ ?_;rintro w n8 l8 rfl;have S8:=(S3.le l7).le l8;clear hV;simp only[↓E1,E4,seval, *];have hSd:=λ(k:KT Prop) (w:WK k)=>Qgc H S8 (prim r2.view r2.nodes) (askG r2) .nsl .nsl ⟨nilP _,nilE _⟩ (Qm1 r2) (by omega) (k:=k) (w:=w);refine hSd _ _ λm9 n9 o9 xo9 S9 K9=>?_;clear hSd;simp only[↓E1,E4,seval, *];exact hk2.out _ _ _ _ _ _ _ S9 ((K2.trans (K9.lo (by omega))))
 ·have hlag:lagR r v N=r:=by unfold lagR;rw[hcd];rfl
  have S2:=S;have K2:Kp (· =7) s o o mu n mu n:=Kp.refl;obtain⟨q1,q2,q3⟩:=Qnk r v N;have q4:=Qo3 hvH.out N;rw[hlag]at q4;have q4H:=Hide.mk q4;clear q4 q1 q2 q3;have hfin:=hkH.out;rw[hlag]at hfin;skip
  have hLs:=replica_step_leads H s r xe xa xs xd xo vd;have hleads:Qgj r=decide (prim v r.nodes=r.me):=by unfold Qgj;rw[q4H.out]
  rw[hleads]at hLs;have hfH:=Hide.mk hfin;clear hfin hkH hlag hleads;simp only[↓E1,E4,seval, *];refine hLs.q0 S2.free (Qem S2.cells) ?_;rintro w n3 l3 rfl;cases hp:decide (prim v r.nodes=r.me)with
  |true=>
   have hO:lagO r v=[]:=by unfold lagO;rw[hp];rfl
   have hk:=hfH.out;rw[hO,List.append_nil]at hk;have hk2:=hk _ _ _ _ _ _ _ (S2.le l3) (K2.le2 l3);clear hk hO;simp only[↓E1,E4,seval, *];all_goals exact hk2
  |false=>
   have hO:lagO r v=[{askG r with frm:=r.me,to:=prim r.view r.nodes}]:=by unfold lagO;rw[hp,if_neg (by decide)];unfold askG;rw[q4H.out]
   have hk:=hfH.out;rw[hO]at hk;have hk2:=Hide.mk hk;have S3:=S2.le l3;have hPr:=replica_Primary H r.view r.nodes;have hV:=Qkk H (s:=s) (r:=r) (xe:=xe) (xa:=xa) (xs:=xs) (xd:=xd) (xo:=xo) (vd:=vd);unfold msgC askG at hV;clear hk hO hLs;simp only[↓E1,E4,seval, *];refine hPr.q1 S3.free trivial ?_;rintro w n7 l7 rfl;simp only[↓E1,E4,seval, *];refine hV.q1 (S3.free.le l7) ⟨Qem S3.cells,S3.rs.1⟩ ?_;rintro w n8 l8 rfl;have S8:=(S3.le l7).le l8;clear hV;simp only[↓E1,E4,seval, *];have hSd:=λ(k:KT Prop) (w:WK k)=>Qgc H S8 (prim r.view r.nodes) (askG r) .nsl .nsl ⟨nilP _,nilE _⟩ (Qm1 r) (by omega) (k:=k) (w:=w);refine hSd _ _ λm9 n9 o9 xo9 S9 K9=>?_;clear hSd;simp only[↓E1,E4,seval, *];exact hk2.out _ _ _ _ _ _ _ S9 ((K2.trans (K9.lo (by omega))))
theorem Qsf {lo:Nat} {fz:Fz} {s:Nat} {o:Nat->Nat} {mu:St} {n:Nat} {r:Rep} {out:List Msg} {vd:Bool} {xe xa xs xd xo:SV} (S:SW lo fz s o mu n r out vd xe xa xs xd xo) (v:Int)
 {N:Nat} (hN:r.nodes=(N:Int)) (hN7:N<=7) (hl:out.length<=900) {k:KT Prop} {w:WK k}
 (hk:∀mu' n' o' xa' xs' xd' xo',SW lo fz s o' mu' n' (lagR r v N) (out++lagO r v) vd xe xa' xs' xd' xo'->Kp (· =7) s o o' mu n mu' n'->k noVal mu' n'):CPh P n_Qcr [.one (.optr s 0),.one (I v)] fz mu n k w:=by
 refine CP_of H.Qcr H.mx 0 ?_;have hkH:=Hide.mk hk;have hNH:=Hide.mk hN;clear hk hN;have hc:=S.cells;have ws:=Qem (fz:=fz) hc;obtain⟨⟨xek,xem⟩,⟨xak,xam⟩,⟨xsk,xsm⟩,⟨xdk,xdm⟩,xok,xom⟩:=S.ks;unfold stepC repC at hc ws;rw[dY a_Qcr.eq_1 b_Qcr.eq_1];rcases Qpl r v with⟨h1,hcd⟩|⟨h1,h2,hcd⟩|⟨h1,h2,hcd⟩
 ·have hcd:=Hide.mk hcd;have S1:=S.put (r':={r with view:=v,status:=2}) (vd':=vd) rfl rfl rfl rfl;have K1:Kp (λ_=>False) s o o mu n _ n:=S.kput (c:=stepC {r with view:=v,status:=2} xe xa xs xd xo vd);unfold stepC repC at S1 K1;simp only[↓E1,E4,seval, *];refine Qjn H S1 hNH.out hN7 λm2 n2 o2 xa2 S2 K2=>?_;have K2:=(K1.trans K2).weaken (T':=(· =7)) (λt h=>h.elim);obtain⟨r2,hr2⟩:∃r2,anewR {r with view:=v,status:=2} N=r2:=⟨_,rfl⟩
  rw[hr2]at S2;have hlag:lagR r v N=r2:=by rw[<-hr2];unfold lagR;rw[hcd.out];rfl
  clear S1 K1 hcd hr2;obtain⟨q1,q2,q3⟩:=Qnk r v N;rw[hlag]at q1 q2 q3;have hfin:=hkH.out;rw[hlag]at hfin;have hlo:lagO r v=if decide (prim v r2.nodes=r2.me)then[]else[⟨10,r2.me,prim v r2.nodes,v,0,last r2.log,0,0,0,0,0,0,0,0,tx0,[],⟨0,tx0,[]⟩,tx0⟩]:=by rw[q1,q2,q3];rfl
  have ws2:=Qem (fz:=fz) S2.cells;obtain⟨⟨xek2,xem2⟩,⟨zak,zam⟩,⟨zsk,zsm⟩,⟨zdk,zdm⟩,-,-⟩:=S2.ks;have hPm:=Qfq H s r2 xe xa2 .nsl .nsl xo vd v;unfold stepC repC at ws2;have hfH:=Hide.mk hfin;have hloH:=Hide.mk hlo;clear hfin hkH ws hc hlag q1 q2 q3 hlo;simp only[↓E1,E4,seval, *];refine hPm.q1 S2.free (Qem S2.cells) ?_;rintro w n3 l3 rfl;have S3:=S2.le l3;cases hp:decide (prim v r2.nodes=r2.me)with
  |true=>
   have hk:=hfH.out;rw[hloH.out,hp,if_pos rfl,List.append_nil]at hk;have hk2:=hk _ _ _ _ _ _ _ S3 (K2.le2 l3);clear hk;simp only[↓E1,E4,seval, *];all_goals exact hk2
  |false=>
   have hk:=hfH.out;rw[hloH.out,hp,if_neg (by decide)]at hk;have hk2:=Hide.mk hk;have hLa:=ref16_Last H r2.log xe;unfold lgC at hLa;clear hk;simp only[↓E1,E4,seval, *];refine hPm.q1 S3.free (Qem S3.cells) ?_;rintro w n7 l7 rfl;simp only[↓E1,E4,seval, *];refine hLa.q1 (S3.free.le l7) S3.rs.1 ?_;rintro w n8 l8 rfl;have S8:=(S3.le l7).le l8;simp only[↓E1,E4,seval, *];have hSd:=λ(k:KT Prop) (w:WK k)=>Qga H S8 (prim v r2.nodes) ⟨10,0,0,v,0,last r2.log,0,0,0,0,0,0,0,0,tx0,[],⟨0,tx0,[]⟩,tx0⟩ .nsl .nsl (.inl ⟨.inl rfl,rfl⟩) (nilE _) ⟨by simp,by simp⟩ (by omega) (k:=k) (w:=w);refine hSd _ _ λm9 n9 o9 xo9 S9 K9=>?_;clear hSd;simp only[↓E1,E4,seval, *];exact hk2.out _ _ _ _ _ _ _ S9 ((K2.trans (K9.lo (by omega))))
 ·have hcd:=Hide.mk hcd;have S1:=S.put (r':={r with view:=v,status:=2}) (vd':=vd) rfl rfl rfl rfl;have K1:Kp (λ_=>False) s o o mu n _ n:=S.kput (c:=stepC {r with view:=v,status:=2} xe xa xs xd xo vd);unfold stepC repC at S1 K1;simp only[↓E1,E4,seval, *];refine Qjn H S1 hNH.out hN7 λm2 n2 o2 xa2 S2 K2=>?_;have K2:=(K1.trans K2).weaken (T':=(· =7)) (λt h=>h.elim);obtain⟨r2,hr2⟩:∃r2,anewR {r with view:=v,status:=2} N=r2:=⟨_,rfl⟩
  rw[hr2]at S2;have hlag:lagR r v N=r2:=by rw[<-hr2];unfold lagR;rw[hcd.out];rfl
  clear S1 K1 hcd hr2;obtain⟨q1,q2,q3⟩:=Qnk r v N;rw[hlag]at q1 q2 q3;have hfin:=hkH.out;rw[hlag]at hfin;have hlo:lagO r v=if decide (prim v r2.nodes=r2.me)then[]else[⟨10,r2.me,prim v r2.nodes,v,0,last r2.log,0,0,0,0,0,0,0,0,tx0,[],⟨0,tx0,[]⟩,tx0⟩]:=by rw[q1,q2,q3];rfl
  have ws2:=Qem (fz:=fz) S2.cells;obtain⟨⟨xek2,xem2⟩,⟨zak,zam⟩,⟨zsk,zsm⟩,⟨zdk,zdm⟩,-,-⟩:=S2.ks;have hPm:=Qfq H s r2 xe xa2 .nsl .nsl xo vd v;unfold stepC repC at ws2;have hfH:=Hide.mk hfin;have hloH:=Hide.mk hlo;clear hfin hkH ws hc hlag q1 q2 q3 hlo;simp only[↓E1,E4,seval, *];refine hPm.q1 S2.free (Qem S2.cells) ?_;rintro w n3 l3 rfl;have S3:=S2.le l3;cases hp:decide (prim v r2.nodes=r2.me)with
  |true=>
   have hk:=hfH.out;rw[hloH.out,hp,if_pos rfl,List.append_nil]at hk;have hk2:=hk _ _ _ _ _ _ _ S3 (K2.le2 l3);clear hk;simp only[↓E1,E4,seval, *];all_goals exact hk2
  |false=>
   have hk:=hfH.out;rw[hloH.out,hp,if_neg (by decide)]at hk;have hk2:=Hide.mk hk;have hLa:=ref16_Last H r2.log xe;unfold lgC at hLa;clear hk;simp only[↓E1,E4,seval, *];refine hPm.q1 S3.free (Qem S3.cells) ?_;rintro w n7 l7 rfl;simp only[↓E1,E4,seval, *];refine hLa.q1 (S3.free.le l7) S3.rs.1 ?_;rintro w n8 l8 rfl;have S8:=(S3.le l7).le l8;simp only[↓E1,E4,seval, *];have hSd:=λ(k:KT Prop) (w:WK k)=>Qga H S8 (prim v r2.nodes) ⟨10,0,0,v,0,last r2.log,0,0,0,0,0,0,0,0,tx0,[],⟨0,tx0,[]⟩,tx0⟩ .nsl .nsl (.inl ⟨.inl rfl,rfl⟩) (nilE _) ⟨by simp,by simp⟩ (by omega) (k:=k) (w:=w);refine hSd _ _ λm9 n9 o9 xo9 S9 K9=>?_;clear hSd;simp only[↓E1,E4,seval, *];exact hk2.out _ _ _ _ _ _ _ S9 ((K2.trans (K9.lo (by omega))))
 ·have hlag:lagR r v N=r:=by unfold lagR;rw[hcd];rfl
  have S2:=S;have K2:Kp (· =7) s o o mu n mu n:=Kp.refl;obtain⟨q1,q2,q3⟩:=Qnk r v N;rw[hlag]at q1 q2 q3;have hfin:=hkH.out;rw[hlag]at hfin;have hlo:lagO r v=if decide (prim v r.nodes=r.me)then[]else[⟨10,r.me,prim v r.nodes,v,0,last r.log,0,0,0,0,0,0,0,0,tx0,[],⟨0,tx0,[]⟩,tx0⟩]:=by rfl
  skip
  have hPm:=Qfq H s r xe xa xs xd xo vd v;have hfH:=Hide.mk hfin;have hloH:=Hide.mk hlo;clear hfin hkH hlag q1 q2 q3 hlo;simp only[↓E1,E4,seval, *];refine hPm.q1 S2.free (Qem S2.cells) ?_;rintro w n3 l3 rfl;have S3:=S2.le l3;cases hp:decide (prim v r.nodes=r.me)with
  |true=>
   have hk:=hfH.out;rw[hloH.out,hp,if_pos rfl,List.append_nil]at hk;have hk2:=hk _ _ _ _ _ _ _ S3 (K2.le2 l3);clear hk;simp only[↓E1,E4,seval, *];all_goals exact hk2
  |false=>
   have hk:=hfH.out;rw[hloH.out,hp,if_neg (by decide)]at hk;have hk2:=Hide.mk hk;have hLa:=ref16_Last H r.log xe;unfold lgC at hLa;clear hk;simp only[↓E1,E4,seval, *];refine hPm.q1 S3.free (Qem S3.cells) ?_;rintro w n7 l7 rfl;simp only[↓E1,E4,seval, *];refine hLa.q1 (S3.free.le l7) S3.rs.1 ?_;rintro w n8 l8 rfl;have S8:=(S3.le l7).le l8;simp only[↓E1,E4,seval, *];have hSd:=λ(k:KT Prop) (w:WK k)=>Qga H S8 (prim v r.nodes) ⟨10,0,0,v,0,last r.log,0,0,0,0,0,0,0,0,tx0,[],⟨0,tx0,[]⟩,tx0⟩ .nsl .nsl (.inl ⟨.inl rfl,rfl⟩) (nilE _) ⟨by simp,by simp⟩ (by omega) (k:=k) (w:=w);refine hSd _ _ λm9 n9 o9 xo9 S9 K9=>?_;clear hSd;simp only[↓E1,E4,seval, *];exact hk2.out _ _ _ _ _ _ _ S9 ((K2.trans (K9.lo (by omega))))
end
end Go.Proofs.YtnnjlnkoomeadaaGreat.Pv
