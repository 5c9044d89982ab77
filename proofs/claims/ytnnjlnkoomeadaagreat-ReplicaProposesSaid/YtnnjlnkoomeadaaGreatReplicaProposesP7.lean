/-
  ReplicaProposes: part 7 of what the proof is made of.
-/
import Derived.Test.YtnnjlnkoomeadaaGreatReplicaProposesP6
import Derived.Deep.Slices
import Derived.ChangeArms
import Derived.DataReads
import Derived.SizedLaws
import Derived.Carry
import Derived.OpenShut
import Derived.Test.YtnnjlnkoomeadaaGreatRows
import Derived.KernelRfl
import Derived.Test.YtnnjlnkoomeadaaGreatProg
set_option linter.unusedVariables false
set_option linter.unusedSimpArgs false
open Int renaming reduceEq → zA,reduceNe → zB,reduceLT → zC,reduceLE → zD,reduceNeg → zE,reduceAdd → zF,reduceSub → zG,reduceToNat → zH
open Nat renaming reduceEqDiff → zI,reduceAdd → zJ,reduceMul → zK,reduceSub → zL,reduceLeDiff → zM,reduceBEq → zN,reduceLT → zO,reduceBneDiff → zP
namespace Go.Proofs.YtnnjlnkoomeadaaGreat.Pv
open Go.Ev Go.Ev.Rp
set_option maxRecDepth 100000
set_option maxHeartbeats 4000000
set_option linter.unusedSimpArgs false
set_option linter.unusedVariables false
set_option linter.unusedSectionVars false
variable {P : Program} (H : Fs P)
include H
theorem ref16_Propose (r : Rep) (xe xa xs xd : SV) (e : Ent) (b : SV) (hz : RepSz r) (hzb : e.batch.length ≤ 4398046511104) (hok1 : Ok r.log) (hok2 : ∀ d ∈ r.dos,Ok d.log) : Ctr P n_ref16_Propose [.ag (repC r xe xa xs xd),.ag (entC e b)] (λM=>RepS M r xe xa xs xd ∧ PtsR M b e.batch) (λn _ M v=>PropP r e n M v):=Ctr.of H.mx H.ref16_Propose (λ_=>0) λfz mu n k hfr s hk=>by
  obtain ⟨s1,s2⟩:=s
  obtain ⟨-,-,xek,xem⟩:=s1.1.len
  obtain ⟨-,-,xak,xam⟩:=s1.2.1.len
  obtain ⟨-,-,xsk,xsm⟩:=s1.2.2.1.len
  obtain ⟨-,-,xdk,xdm⟩:=s1.2.2.2.len
  obtain ⟨-,-,bk,bm⟩:=s2.len
  have hC:=ref16_Copy H r xe xa xs xd hz
  have hM:=ref16_May H r xe xa xs xd (RepSz.s r hz).1 (RepSz.s r hz).2.1 (RepSz.s r hz).2.2 hok1 hok2
  have hLd:=ref16_lead H r xe xa xs xd
  have hEM:=ref4_EntryMay H e b (by omega)
  have hLa:=ref16_Last H r.log xe
  have hkH:=Hide.mk hk
  clear hk
  unfold lgC at hLa
  unfold repC at hC hM hLd ⊢
  unfold entC at hEM ⊢
  rw [i_ref16_Propose,dc_at b_ref16_Propose.eq_1]
  have g1 : Gr n fz mu ((n + 1 + 1,[I 0,I 0,I 0,I 0,I 0,I 0,.bool false,I 0,.str 0 0,.nsl,.nsl,.nsl,.nsl]) :: (n + 1,[I e.view,I e.client,I e.session,I e.number,b]) :: (n,[I r.me,I r.nodes,I r.view,I r.normal,I r.status,I r.commit,.bool r.sent,I r.log.base,r.log.snap.sv,xe,xa,xs,xd]) :: mu) n (n + 3):=gr3 hfr
  have b1 : Ev.look ((n + 1 + 1,[I 0,I 0,I 0,I 0,I 0,I 0,.bool false,I 0,.str 0 0,.nsl,.nsl,.nsl,.nsl]) :: (n + 1,[I e.view,I e.client,I e.session,I e.number,b]) :: (n,[I r.me,I r.nodes,I r.view,I r.normal,I r.status,I r.commit,.bool r.sent,I r.log.base,r.log.snap.sv,xe,xa,xs,xd]) :: mu) n = some [I r.me,I r.nodes,I r.view,I r.normal,I r.status,I r.commit,.bool r.sent,I r.log.base,r.log.snap.sv,xe,xa,xs,xd]:=by rw [look_c,if_neg (by omega),look_c,if_neg (by omega),look_c,if_pos rfl]
  have b2 : Ev.look ((n + 1 + 1,[I 0,I 0,I 0,I 0,I 0,I 0,.bool false,I 0,.str 0 0,.nsl,.nsl,.nsl,.nsl]) :: (n + 1,[I e.view,I e.client,I e.session,I e.number,b]) :: (n,[I r.me,I r.nodes,I r.view,I r.normal,I r.status,I r.commit,.bool r.sent,I r.log.base,r.log.snap.sv,xe,xa,xs,xd]) :: mu) (n + 1) = some [I e.view,I e.client,I e.session,I e.number,b]:=by rw [look_c,if_neg (by omega),look_c,if_pos rfl]
  have b3 : Ev.look ((n + 1 + 1,[I 0,I 0,I 0,I 0,I 0,I 0,.bool false,I 0,.str 0 0,.nsl,.nsl,.nsl,.nsl]) :: (n + 1,[I e.view,I e.client,I e.session,I e.number,b]) :: (n,[I r.me,I r.nodes,I r.view,I r.normal,I r.status,I r.commit,.bool r.sent,I r.log.base,r.log.snap.sv,xe,xa,xs,xd]) :: mu) (n + 1 + 1) = some [I 0,I 0,I 0,I 0,I 0,I 0,.bool false,I 0,.str 0 0,.nsl,.nsl,.nsl,.nsl]:=by rw [look_c,if_pos rfl]
  obtain ⟨m1,hm1⟩ : ∃ m,((n + 1 + 1,[I 0,I 0,I 0,I 0,I 0,I 0,.bool false,I 0,.str 0 0,.nsl,.nsl,.nsl,.nsl]) :: (n + 1,[I e.view,I e.client,I e.session,I e.number,b]) :: (n,[I r.me,I r.nodes,I r.view,I r.normal,I r.status,I r.commit,.bool r.sent,I r.log.base,r.log.snap.sv,xe,xa,xs,xd]) :: mu) = m:=⟨_,rfl⟩
  rw [hm1] at g1 b1 b2 b3
  have u1:=g1.sub hfr (Nat.le_refl _)
  have w1:=look_with (fz:=fz) b1
  have w2:=look_with (fz:=fz) b2
  have w3:=look_with (fz:=fz) b3
  have hf1 : Free fz m1 (n + 1 + 1 + 1):=g1.free
  have q1:=RepS.mono u1 s1
  have q2:=PtsR.mono u1 s2
  rcases prop_cases r e with ⟨hp,h1,h2,h3,h4,h5⟩ | ⟨hp,hrej⟩
  · simp only [↓E1,E2,zA,zB,zC,zD,zE,zF,zG,zH,zI,zJ,zK,zL,zM,zN,reduceIte,zO,zP, *,with_putI,look_putS,putS_putS,Option.isSome_some,Option.map_some]
    try rw [hm1]
    clear hm1
    refine hM.q1 hf1 q1 ?_
    rintro v k1 j1 rfl
    have f1:=hf1.le j1
    simp only [↓E1,E2,zA,zB,zC,zD,zE,zF,zG,zH,zI,zJ,zK,zL,zM,zN,reduceIte,zO,zP, *,with_putI,look_putS,putS_putS,Option.isSome_some,Option.map_some]
    refine hLd.q1 f1 q1 ?_
    rintro v k2 j2 rfl
    have f2:=f1.le j2
    simp only [↓E1,E2,zA,zB,zC,zD,zE,zF,zG,zH,zI,zJ,zK,zL,zM,zN,reduceIte,zO,zP, *,with_putI,look_putS,putS_putS,Option.isSome_some,Option.map_some]
    refine hEM.q1 f2 q2 ?_
    rintro v k3 j3 rfl
    have f3:=f2.le j3
    simp only [↓E1,E2,zA,zB,zC,zD,zE,zF,zG,zH,zI,zJ,zK,zL,zM,zN,reduceIte,zO,zP, *,with_putI,look_putS,putS_putS,Option.isSome_some,Option.map_some]
    refine hLa.q1 f3 q1.1 ?_
    rintro v k4 j4 rfl
    have f4:=f3.le j4
    simp only [↓E1,E2,zA,zB,zC,zD,zE,zF,zG,zH,zI,zJ,zK,zL,zM,zN,reduceIte,zO,zP, *,with_putI,look_putS,putS_putS,Option.isSome_some,Option.map_some]
    refine hLa.q1 f4 q1.1 ?_
    rintro v k5 j5 rfl
    have f5:=f4.le j5
    simp only [↓E1,E2,zA,zB,zC,zD,zE,zF,zG,zH,zI,zJ,zK,zL,zM,zN,reduceIte,zO,zP, *,with_putI,look_putS,putS_putS,Option.isSome_some,Option.map_some]
    refine hC.c1 f5 q1 ?_
    rintro v m6 n6 g6 ⟨xe',xa',xs',xd',o,rfl,ho,hT⟩
    have l6:=g6.le
    obtain ⟨⟨es,t1,t2⟩,t3,t4,ds,t5,t6⟩:=hT
    have hT : RepT o (with' m6 fz) r xe' xa' xs' xd':=⟨⟨es,t1,t2⟩,t3,t4,ds,t5,t6⟩
    obtain ⟨-,-,yek,yem⟩:=t1.len
    obtain ⟨-,-,yak,yam⟩:=SlX.len t3
    obtain ⟨-,-,ysk,ysm⟩:=SlX.len t4
    obtain ⟨-,-,ydk,ydm⟩:=SlX.len t5
    have c1:=(g6.own n (by omega)).trans b1
    have c2:=(g6.own (n + 1) (by omega)).trans b2
    have c3:=(g6.own (n + 1 + 1) (by omega)).trans b3
    have gg:=(g1.le2 (show n + 3 ≤ k5 by omega)).trans (g6.weaken (by omega))
    -- the play
    have g7:=(Gr.refl (lo:=n6) g6.free).cons (Nat.le_refl _) (stepC r xe' xa' xs' xd' .nsl false)
    have S7 : SW (n + 3) fz n6 (λj=>if j = n6 then 9 else if j < n6 then o j else 0) ((n6,stepC r xe' xa' xs' xd' .nsl false) :: m6) (n6 + 1) r [] false xe' xa' xs' xd' .nsl:=by
      refine ⟨by rw [look_c,if_pos rfl],hT.keep λt _ _ j B hj=>?_,⟨[],.inl ⟨.inl rfl,rfl⟩,trivial⟩,g7.free,by omega,by simp,λj hj=>by rw [if_neg (by omega),if_pos (by omega)]; exact ho j (by omega),λj hj=>?_⟩
      · obtain ⟨p1,p2⟩:=Tag.el hj
        have p3:=g6.free.lt p2
        exact Tag.at (by rw [if_neg (by omega),if_pos p3]; exact p1) (by rw [with_c,if_neg (by omega)]; exact p2)
      · have:=hfr.none (show n ≤ j by omega)
        rw [with_eq] at this
        cases h6 : Ev.look mu j with
        | none=>rw [h6] at this; exact this
        | some c=>rw [h6] at this; cases this
    clear w1 w2 w3 hT t1 t2 t3 t4 t5 t6
    have w1:=look_with (fz:=fz) c1
    have w2:=look_with (fz:=fz) c2
    have w3:=look_with (fz:=fz) c3
    have hq1 : (n6 = n) = False:=by simp; omega
    have hq2 : (n6 = n + 1) = False:=by simp; omega
    have hq3 : (n6 = n + 1 + 1) = False:=by simp; omega
    simp only [↓E1,E2,zA,zB,zC,zD,zE,zF,zG,zH,zI,zJ,zK,zL,zM,zN,reduceIte,zO,zP, *,with_putI,look_putS,putS_putS,Option.isSome_some,Option.map_some]
    have hcellr : stepC r xe' xa' xs' xd' .nsl false = [I r.me,I r.nodes,I r.view,I r.normal,I r.status,I r.commit,.bool r.sent,I r.log.base,r.log.snap.sv,xe',xa',xs',xd',.nsl,.bool false]:=rfl
    rw [hcellr] at S7 g7
    have hoE : (λj=>if j = n6 then 9 else if j < n6 then o j else 0) (n + 1) = 0:=by show (if n + 1 = n6 then 9 else if n + 1 < n6 then o (n + 1) else 0) = 0; rw [if_neg (by omega),if_pos (by omega)]; exact ho _ (by omega)
    have c2' : Ev.look ((n6,[I r.me,I r.nodes,I r.view,I r.normal,I r.status,I r.commit,.bool r.sent,I r.log.base,r.log.snap.sv,xe',xa',xs',xd',.nsl,.bool false]) :: m6) (n + 1) = some [I e.view,I e.client,I e.session,I e.number,b]:=by rw [look_c,if_neg (by omega)]; exact c2
    have S8:=S7.put0 (c:=[I r.view,I e.client,I e.session,I e.number,b]) c2' hoE
    have gB8:=(gg.trans (g7.weaken (by omega))).put (id:=n + 1) (by omega) c2' (c:=[I r.view,I e.client,I e.session,I e.number,b])
    have c28 : Ev.look (putS ((n6,[I r.me,I r.nodes,I r.view,I r.normal,I r.status,I r.commit,.bool r.sent,I r.log.base,r.log.snap.sv,xe',xa',xs',xd',.nsl,.bool false]) :: m6) (n + 1) [I r.view,I e.client,I e.session,I e.number,b]) (n + 1) = some [I r.view,I e.client,I e.session,I e.number,b]:=by rw [look_putS,if_pos rfl,c2']; rfl
    have c18 : Ev.look (putS ((n6,[I r.me,I r.nodes,I r.view,I r.normal,I r.status,I r.commit,.bool r.sent,I r.log.base,r.log.snap.sv,xe',xa',xs',xd',.nsl,.bool false]) :: m6) (n + 1) [I r.view,I e.client,I e.session,I e.number,b]) n = some [I r.me,I r.nodes,I r.view,I r.normal,I r.status,I r.commit,.bool r.sent,I r.log.base,r.log.snap.sv,xe,xa,xs,xd]:=by rw [look_putS,if_neg (by omega),look_c,if_neg (by omega)]; exact c1
    have c38 : Ev.look (putS ((n6,[I r.me,I r.nodes,I r.view,I r.normal,I r.status,I r.commit,.bool r.sent,I r.log.base,r.log.snap.sv,xe',xa',xs',xd',.nsl,.bool false]) :: m6) (n + 1) [I r.view,I e.client,I e.session,I e.number,b]) (n + 1 + 1) = some [I 0,I 0,I 0,I 0,I 0,I 0,.bool false,I 0,.str 0 0,.nsl,.nsl,.nsl,.nsl]:=by rw [look_putS,if_neg (by omega),look_c,if_neg (by omega)]; exact c3
    rw [putS_c,if_neg (by omega)] at S8 gB8 c28 c18 c38
    obtain ⟨m8,hm8⟩ : ∃ m,((n6,[I r.me,I r.nodes,I r.view,I r.normal,I r.status,I r.commit,.bool r.sent,I r.log.base,r.log.snap.sv,xe',xa',xs',xd',.nsl,.bool false]) :: putS m6 (n + 1) [I r.view,I e.client,I e.session,I e.number,b]) = m:=⟨_,rfl⟩
    rw [hm8] at S8 gB8 c28 c18 c38
    rw [hm8]
    obtain ⟨h8,h9⟩:=onSrc_Sl (Sl.mono (PtsR.mono (gB8.sub hfr (Nat.le_refl _)) s2) (sub1 S8.free (c:=[])))
    rw [h8]; clear h8
    refine ⟨h9,app_empty S8.free (fits_le (by rw [List.length_map]; omega) (by decide) (by decide)) pt_ok (λb' m9 n9 g9 hb'=>?_)⟩
    clear h9
    have l9:=g9.le
    obtain ⟨-,-,bk',bm'⟩:=SlX.len hb'
    have S9:=S8.grT (λ_=>2) g9
    have d1:=(g9.own n (by omega)).trans c18
    have d2:=(g9.own (n + 1) (by omega)).trans c28
    have d3:=(g9.own (n + 1 + 1) (by omega)).trans c38
    have ws9:=look_with (fz:=fz) S9.cells
    unfold stepC repC at ws9
    have hs1 : (n + 1 = n6) = False:=by simp; omega
    have hs2 : (n + 1 + 1 = n6) = False:=by simp; omega
    have hsn : (n = n6) = False:=by simp; omega
    have hs3 : (n9 = n6) = False:=by simp; omega
    have hs4 : (n9 = n + 1) = False:=by simp; omega
    have hs5 : (n9 = n) = False:=by simp; omega
    clear w1 w2 w3 g7 S7 c2' hm8 c18 c28 c38 c1 c2 c3
    have w2:=look_with (fz:=fz) d2
    simp only [↓E1,E2,zA,zB,zC,zD,zE,zF,zG,zH,zI,zJ,zK,zL,zM,zN,reduceIte,zO,zP, *,with_putI,look_putS,putS_putS,Option.isSome_some,Option.map_some]
    have hoE9 : tagN (λj=>if j = n6 then 9 else if j < n6 then o j else 0) (n6 + 1) (λ_=>2) (n + 1) = 0:=by rw [tagN_lt (by omega)]; exact hoE
    have S10:=S9.put0 (c:=[I r.view,I e.client,I e.session,I e.number,b']) d2 hoE9
    have gB : Gr n9 fz (putS m9 (n + 1) [I r.view,I e.client,I e.session,I e.number,b']) ((n9,[I r.view,I e.client,I e.session,I e.number,b']) :: putS m9 (n + 1) [I r.view,I e.client,I e.session,I e.number,b']) n9 (n9 + 1):=(Gr.refl S10.free).cons (Nat.le_refl _) _
    have hb9 : PtsX (F2 (tagN (λj=>if j = n6 then 9 else if j < n6 then o j else 0) (n6 + 1) λ_=>2) n9 (with' ((n9,[I r.view,I e.client,I e.session,I e.number,b']) :: putS m9 (n + 1) [I r.view,I e.client,I e.session,I e.number,b']) fz)) b' ({ e with view:=r.view } : Ent).batch:=PtsX.mono (λj B hj=>by
      obtain ⟨p1,p2⟩:=From.el hj
      have p3:=g9.free.lt p2
      exact F2.at (.inr (by rw [tagN_ge p1])) (by rw [with_c,if_neg (by omega),with_putS d2,if_neg (by omega)]; exact p2)) (show PtsX _ b' e.batch from hb')
    have hlen : r.log.ents.length ≤ 1000000:=by have:=rep_ents h1; omega
    refine SW.appE S10 gB (e:={ e with view:=r.view }) hb9 hlen λm10 o' xe2 hko hs10 S11 K11 hb11 hnew=>?_
    have hkom:=known_mk hko
    unfold stepC repC at hs10
    have ws11:=look_with (fz:=fz) S11.cells
    unfold stepC repC at ws11
    have hn : nodesB r.nodes = true:=rep_nodes h1
    obtain ⟨N,hN⟩ : ∃ N : Nat,r.nodes = (N : Int):=⟨r.nodes.toNat,by rcases nodes_cases hn with h | h | h | h <;> rw [h] <;> rfl⟩
    have hN7 : N ≤ 7:=by rcases nodes_cases hn with h | h | h | h <;> omega
    have hNH:=Hide.mk hN
    clear hN
    have hLa2:=ref16_Last H (addE r { e with view:=r.view }).log xe2
    unfold lgC at hLa2
    have hcell : stepC (addE r { e with view:=r.view }) xe2 xa' xs' xd' .nsl false = [I r.me,I r.nodes,I r.view,I r.normal,I r.status,I r.commit,.bool r.sent,I r.log.base,r.log.snap.sv,xe2,xa',xs',xd',.nsl,.bool false]:=rfl
    rw [hcell] at S11 K11 hb11
    have ho7 : ∀ j,j < n + 3 → tagN (λj=>if j = n6 then 9 else if j < n6 then o j else 0) (n6 + 1) (λ_=>2) j = 0:=λj hj=>by
      rw [tagN_lt (by omega)]
      show (if j = n6 then 9 else if j < n6 then o j else 0) = 0
      rw [if_neg (by omega),if_pos (by omega)]; exact ho _ (by omega)
    obtain ⟨m11,hm11⟩ : ∃ m,putS m10 n6 [I r.me,I r.nodes,I r.view,I r.normal,I r.status,I r.commit,.bool r.sent,I r.log.base,r.log.snap.sv,xe2,xa',xs',xd',.nsl,.bool false] = m:=⟨_,rfl⟩
    rw [hm11] at S11 K11 hb11
    have ws11b:=look_with (fz:=fz) S11.cells
    rw [hcell] at ws11b
    simp only [↓E1,E2,zA,zB,zC,zD,zE,zF,zG,zH,zI,zJ,zK,zL,zM,zN,reduceIte,zO,zP, *,with_putI,look_putS,putS_putS,Option.isSome_some,Option.map_some]
    try rw [hm11]
    refine hLa2.q0 S11.free S11.rs.1 ?_
    rintro v n12 l12 rfl
    have e2:=(K11.keep (n + 1) (by omega) (by omega) (by rw [hoE9]; omega)).trans (show _ = some [I r.view,I e.client,I e.session,I e.number,b'] by rw [look_putS,if_pos rfl,d2]; rfl)
    have e1:=(K11.keep n (by omega) (by omega) (by rw [ho7 _ (by omega)]; omega)).trans (show _ = some [I r.me,I r.nodes,I r.view,I r.normal,I r.status,I r.commit,.bool r.sent,I r.log.base,r.log.snap.sv,xe,xa,xs,xd] by rw [look_putS,if_neg (by omega)]; exact d1)
    have e3:=(K11.keep (n + 1 + 1) (by omega) (by omega) (by rw [ho7 _ (by omega)]; omega)).trans (show _ = some [I 0,I 0,I 0,I 0,I 0,I 0,.bool false,I 0,.str 0 0,.nsl,.nsl,.nsl,.nsl] by rw [look_putS,if_neg (by omega)]; exact d3)
    have we1:=look_with (fz:=fz) e1
    have we2:=look_with (fz:=fz) e2
    clear hs10 hnew ws11 ws9 w2 hm11 ws11b
    simp only [↓E1,E2,zA,zB,zC,zD,zE,zF,zG,zH,zI,zJ,zK,zL,zM,zN,reduceIte,zO,zP, *,with_putI,look_putS,putS_putS,Option.isSome_some,Option.map_some]
    have hAll:=λ(k : KT Prop) (w : WK k)=>play_all H (S11.le l12) (prepM r e) b' .nsl hb11 (nilE _) ⟨by simp [prepM],by simp [prepM]⟩ (by simp) (N:=N) hNH.out hN7 (k:=k) (w:=w)
    unfold msgC at hAll
    refine hAll _ _ λm13 n13 o13 xo13 S13 K13=>?_
    have l13:=K13.le
    have f1:=(K13.keep n (by omega) (by omega) (by rw [K11.tags _ (by omega),ho7 _ (by omega)]; omega)).trans e1
    have f3:=(K13.keep (n + 1 + 1) (by omega) (by omega) (by rw [K11.tags _ (by omega),ho7 _ (by omega)]; omega)).trans e3
    have ho13 : ∀ j,j < n + 3 → o13 j = 0:=λj hj=>by rw [K13.tags j (by omega),K11.tags j (by omega)]; exact ho7 j hj
    have gK9:=(gB8.trans (g9.weaken (by omega))).put (id:=n + 1) (by omega) d2 (c:=[I r.view,I e.client,I e.session,I e.number,b'])
    have gK11:=K11.gr (lo:=n) S11.free (by omega) (by omega) (λj hj=>ho7 j (by omega)) (by omega)
    have gK13:=K13.gr (lo:=n) S13.free (by omega) (by omega) (λj hj=>by rw [K11.tags j (by omega)]; exact ho7 j (by omega)) (by omega)
    have gK : Gr n fz mu m13 n n13:=(gK9.trans gK11).trans ((Gr.le2 (Gr.refl S11.free) l12).trans gK13)
    have wf1:=look_with (fz:=fz) f1
    have ws13:=look_with (fz:=fz) S13.cells
    obtain ⟨⟨zek,zem⟩,⟨zak,zam⟩,⟨zsk,zsm⟩,⟨zdk,zdm⟩,⟨zok,zom⟩⟩:=S13.ks
    rw [List.nil_append] at S13
    have hmsg : allM (addE r { e with view:=r.view }) (prepM r e) N = allM r (prepM r e) r.nodes.toNat:=by rw [hNH.out]; rfl
    rw [hmsg] at S13
    have hps : proposeS r e = (propR r e,allM r (prepM r e) r.nodes.toNat,last (addE r { e with view:=r.view }).log):=by unfold proposeS; rw [if_pos hp]
    obtain ⟨rA,hrA⟩ : ∃ rA,addE r { e with view:=r.view } = rA:=⟨_,rfl⟩
    have hpr : propR r e = if r.nodes = 1 then { rA with commit:=last rA.log } else rA:=by rw [← hrA]; rfl
    have hz13 : o13 (n + 1 + 1) = 0:=ho13 _ (by omega)
    have hfz2 : fz (n + 1 + 1) = none:=by
      have:=hfr.none (show n ≤ n + 1 + 1 by omega)
      rw [with_eq] at this
      cases h6 : Ev.look mu (n + 1 + 1) with
      | none=>rw [h6] at this; exact this
      | some c=>rw [h6] at this; cases this
    clear hLa2 hLa hM hLd hEM h1 h2 h3 h4 h5 hp K11 hb11 S11 we1 we2 e1 e2 e3 hAll hcell hmsg gK9 gK11 gK13 gB8 S8 S9 S10 d1 d2 d3
    rw [hrA] at S13 hps ws13
    unfold stepC repC at ws13
    simp only [↓E1,E2,zA,zB,zC,zD,zE,zF,zG,zH,zI,zJ,zK,zL,zM,zN,reduceIte,zO,zP, *,with_putI,look_putS,putS_putS,Option.isSome_some,Option.map_some]
    have hs5 : (n + 1 + 1 = n6) = False:=hs2
    have f3c:=f3
    refine Br_intro (λhb=>?_) (λhb=>?_)
    · have hn1 : r.nodes = 1:=of_decide_eq_true hb
      have S14:=S13.put (r':={ rA with commit:=last rA.log }) (vd':=false) rfl rfl rfl rfl
      have gK3:=gK.put (id:=n6) (by omega) S13.cells (c:=stepC { rA with commit:=last rA.log } xe2 xa' xs' xd' xo13 false)
      have hpr2 : propR r e = { rA with commit:=last rA.log }:=by rw [hpr,if_pos hn1]
      have e13 : Ev.look (putS m13 n6 (stepC { rA with commit:=last rA.log } xe2 xa' xs' xd' xo13 false)) (n + 1 + 1) = some [I 0,I 0,I 0,I 0,I 0,I 0,.bool false,I 0,.str 0 0,.nsl,.nsl,.nsl,.nsl]:=(look_putS ..).trans ((if_neg (by omega)).trans f3)
      have hs12c:=S13.cells
      unfold stepC repC at hs12c
      have hcell : stepC { rA with commit:=last rA.log } xe2 xa' xs' xd' xo13 false = [I rA.me,I rA.nodes,I rA.view,I rA.normal,I rA.status,I (last rA.log),.bool rA.sent,I rA.log.base,rA.log.snap.sv,xe2,xa',xs',xd',xo13,.bool false]:=rfl
      have w14c:=S14.cells
      rw [hcell] at S14 gK3 e13 w14c
      clear hn1 hpr hcell hNH
      simp only [↓E1,E2,zA,zB,zC,zD,zE,zF,zG,zH,zI,zJ,zK,zL,zM,zN,reduceIte,zO,zP, *,with_putI,look_putS,putS_putS,Option.isSome_some,Option.map_some]
      obtain ⟨m14,hm14⟩ : ∃ m,putS m13 n6 [I rA.me,I rA.nodes,I rA.view,I rA.normal,I rA.status,I (last rA.log),.bool rA.sent,I rA.log.base,rA.log.snap.sv,xe2,xa',xs',xd',xo13,.bool false] = m:=⟨_,rfl⟩
      rw [hm14] at S14 gK3 e13 w14c
      try rw [hm14]
      rw [saP_some e13 rfl]
      have hw:=(with_congr (fz:=fz) (show Ev.look (killS m14 (n + 1 + 1)) n6 = Ev.look m14 n6 by rw [look_killS,if_neg (by omega)])).trans (look_with w14c)
      clear ws13 hs12c hm14
      simp only [↓E1,E2,zA,zB,zC,zD,zE,zF,zG,zH,zI,zJ,zK,zL,zM,zN,reduceIte,zO,zP, *,with_putI,look_putS,putS_putS,Option.isSome_some,Option.map_some]
      have S15:=S14.put0 (c:=[I rA.me,I rA.nodes,I rA.view,I rA.normal,I rA.status,I (last rA.log),.bool rA.sent,I rA.log.base,rA.log.snap.sv,xe2,xa',xs',xd']) e13 hz13
      have g15:=gK3.put (id:=n + 1 + 1) (by omega) e13 (c:=[I rA.me,I rA.nodes,I rA.view,I rA.normal,I rA.status,I (last rA.log),.bool rA.sent,I rA.log.base,rA.log.snap.sv,xe2,xa',xs',xd'])
      have hX:=look_kc (c:=[I rA.me,I rA.nodes,I rA.view,I rA.normal,I rA.status,I (last rA.log),.bool rA.sent,I rA.log.base,rA.log.snap.sv,xe2,xa',xs',xd']) e13
      have hXw:=with_fun (fz:=fz) hX
      refine hkH.out _ _ _ (g15.congr hX) ⟨xe2,xa',xs',xd',xo13,o13,?_,λj hj=>ho13 j (by omega),?_,?_⟩
      · rw [hps,hpr2]; rfl
      · rw [hps,hpr2,hXw]; exact S15.rt
      · rw [hps,hXw]; exact S15.ot
    · have hn1 : ¬ r.nodes = 1:=of_decide_eq_false hb
      have hpr2 : propR r e = rA:=by rw [hpr,if_neg hn1]
      have e13 : Ev.look m13 (n + 1 + 1) = some [I 0,I 0,I 0,I 0,I 0,I 0,.bool false,I 0,.str 0 0,.nsl,.nsl,.nsl,.nsl]:=f3
      have S14:=S13
      have gK3:=gK
      have hs12c:=S13.cells
      unfold stepC repC at hs12c
      clear hn1 hpr hNH
      simp only [↓E1,E2,zA,zB,zC,zD,zE,zF,zG,zH,zI,zJ,zK,zL,zM,zN,reduceIte,zO,zP, *,with_putI,look_putS,putS_putS,Option.isSome_some,Option.map_some]
      rw [saP_some e13 rfl]
      have hw:=(with_congr (fz:=fz) (show Ev.look (killS m13 (n + 1 + 1)) n6 = Ev.look m13 n6 by rw [look_killS,if_neg (by omega)])).trans (look_with hs12c)
      clear ws13 hs12c
      simp only [↓E1,E2,zA,zB,zC,zD,zE,zF,zG,zH,zI,zJ,zK,zL,zM,zN,reduceIte,zO,zP, *,with_putI,look_putS,putS_putS,Option.isSome_some,Option.map_some]
      have S15:=S14.put0 (c:=[I rA.me,I rA.nodes,I rA.view,I rA.normal,I rA.status,I rA.commit,.bool rA.sent,I rA.log.base,rA.log.snap.sv,xe2,xa',xs',xd']) e13 hz13
      have g15:=gK3.put (id:=n + 1 + 1) (by omega) e13 (c:=[I rA.me,I rA.nodes,I rA.view,I rA.normal,I rA.status,I rA.commit,.bool rA.sent,I rA.log.base,rA.log.snap.sv,xe2,xa',xs',xd'])
      have hX:=look_kc (c:=[I rA.me,I rA.nodes,I rA.view,I rA.normal,I rA.status,I rA.commit,.bool rA.sent,I rA.log.base,rA.log.snap.sv,xe2,xa',xs',xd']) e13
      have hXw:=with_fun (fz:=fz) hX
      refine hkH.out _ _ _ (g15.congr hX) ⟨xe2,xa',xs',xd',xo13,o13,?_,λj hj=>ho13 j (by omega),?_,?_⟩
      · rw [hps,hpr2]; rfl
      · rw [hps,hpr2,hXw]; exact S15.rt
      · rw [hps,hXw]; exact S15.ot
  · have hps : proposeS r e = (r,[],-1):=by unfold proposeS; rw [if_neg (by rw [hp]; decide)]
    clear hp
    rcases hrej with h1 | ⟨h1,h2⟩ | ⟨h1,h2,h3⟩ | ⟨h1,h2,h3,h4⟩ | ⟨h1,h2,h3,h4,h5⟩
    · simp only [↓E1,E2,zA,zB,zC,zD,zE,zF,zG,zH,zI,zJ,zK,zL,zM,zN,reduceIte,zO,zP, *,with_putI,look_putS,putS_putS,Option.isSome_some,Option.map_some]
      try rw [hm1]
      clear hm1
      refine hM.q1 hf1 q1 ?_
      rintro v k0 j0 rfl
      have f0:=(hf1).le j0
      simp only [↓E1,E2,zA,zB,zC,zD,zE,zF,zG,zH,zI,zJ,zK,zL,zM,zN,reduceIte,zO,zP, *,with_putI,look_putS,putS_putS,Option.isSome_some,Option.map_some]
      refine hC.c1 f0 q1 ?_
      rintro v m6 n6 g6 ⟨xe',xa',xs',xd',o,rfl,ho,hT⟩
      have l6:=g6.le
      have c3:=(g6.own (n + 1 + 1) (by omega)).trans b3
      have gz:=((g1.le2 j0).trans (g6.weaken (by omega))).put (id:=n + 1 + 1) (by omega) c3 (c:=[I r.me,I r.nodes,I r.view,I r.normal,I r.status,I r.commit,.bool r.sent,I r.log.base,r.log.snap.sv,xe',xa',xs',xd'])
      have hT2:=hT.keep (M':=with' (putS m6 (n + 1 + 1) [I r.me,I r.nodes,I r.view,I r.normal,I r.status,I r.commit,.bool r.sent,I r.log.base,r.log.snap.sv,xe',xa',xs',xd']) fz) (o':=o) λt h6 h7=>Tag.put (lookI c3) (by rw [ho _ (by omega)]; omega)
      obtain ⟨⟨es,t1,t2⟩,t3,t4,ds,t5,t6⟩:=hT
      obtain ⟨-,-,yek,yem⟩:=t1.len
      obtain ⟨-,-,yak,yam⟩:=SlX.len t3
      obtain ⟨-,-,ysk,ysm⟩:=SlX.len t4
      obtain ⟨-,-,ydk,ydm⟩:=SlX.len t5
      have w3':=look_with (fz:=fz) c3
      clear w1 w2 w3 t1 t2 t3 t4 t5 t6
      simp only [↓E1,E2,zA,zB,zC,zD,zE,zF,zG,zH,zI,zJ,zK,zL,zM,zN,reduceIte,zO,zP, *,with_putI,look_putS,putS_putS,Option.isSome_some,Option.map_some]
      refine hkH.out _ _ _ gz ⟨xe',xa',xs',xd',.nsl,o,by rw [hps]; rfl,λj hj=>ho j (by omega),by rw [hps]; exact hT2,by rw [hps]; exact ⟨[],.inl ⟨.inl rfl,rfl⟩,trivial⟩⟩
    · simp only [↓E1,E2,zA,zB,zC,zD,zE,zF,zG,zH,zI,zJ,zK,zL,zM,zN,reduceIte,zO,zP, *,with_putI,look_putS,putS_putS,Option.isSome_some,Option.map_some]
      try rw [hm1]
      clear hm1
      refine hM.q1 hf1 q1 ?_
      rintro v k0 j0 rfl
      have f0:=(hf1).le j0
      simp only [↓E1,E2,zA,zB,zC,zD,zE,zF,zG,zH,zI,zJ,zK,zL,zM,zN,reduceIte,zO,zP, *,with_putI,look_putS,putS_putS,Option.isSome_some,Option.map_some]
      refine hLd.q1 f0 q1 ?_
      rintro v k1 j1 rfl
      have f1:=(f0).le j1
      simp only [↓E1,E2,zA,zB,zC,zD,zE,zF,zG,zH,zI,zJ,zK,zL,zM,zN,reduceIte,zO,zP, *,with_putI,look_putS,putS_putS,Option.isSome_some,Option.map_some]
      refine hC.c1 f1 q1 ?_
      rintro v m6 n6 g6 ⟨xe',xa',xs',xd',o,rfl,ho,hT⟩
      have l6:=g6.le
      have c3:=(g6.own (n + 1 + 1) (by omega)).trans b3
      have gz:=(((g1.le2 j0).le2 j1).trans (g6.weaken (by omega))).put (id:=n + 1 + 1) (by omega) c3 (c:=[I r.me,I r.nodes,I r.view,I r.normal,I r.status,I r.commit,.bool r.sent,I r.log.base,r.log.snap.sv,xe',xa',xs',xd'])
      have hT2:=hT.keep (M':=with' (putS m6 (n + 1 + 1) [I r.me,I r.nodes,I r.view,I r.normal,I r.status,I r.commit,.bool r.sent,I r.log.base,r.log.snap.sv,xe',xa',xs',xd']) fz) (o':=o) λt h6 h7=>Tag.put (lookI c3) (by rw [ho _ (by omega)]; omega)
      obtain ⟨⟨es,t1,t2⟩,t3,t4,ds,t5,t6⟩:=hT
      obtain ⟨-,-,yek,yem⟩:=t1.len
      obtain ⟨-,-,yak,yam⟩:=SlX.len t3
      obtain ⟨-,-,ysk,ysm⟩:=SlX.len t4
      obtain ⟨-,-,ydk,ydm⟩:=SlX.len t5
      have w3':=look_with (fz:=fz) c3
      clear w1 w2 w3 t1 t2 t3 t4 t5 t6
      simp only [↓E1,E2,zA,zB,zC,zD,zE,zF,zG,zH,zI,zJ,zK,zL,zM,zN,reduceIte,zO,zP, *,with_putI,look_putS,putS_putS,Option.isSome_some,Option.map_some]
      refine hkH.out _ _ _ gz ⟨xe',xa',xs',xd',.nsl,o,by rw [hps]; rfl,λj hj=>ho j (by omega),by rw [hps]; exact hT2,by rw [hps]; exact ⟨[],.inl ⟨.inl rfl,rfl⟩,trivial⟩⟩
    · simp only [↓E1,E2,zA,zB,zC,zD,zE,zF,zG,zH,zI,zJ,zK,zL,zM,zN,reduceIte,zO,zP, *,with_putI,look_putS,putS_putS,Option.isSome_some,Option.map_some]
      try rw [hm1]
      clear hm1
      refine hM.q1 hf1 q1 ?_
      rintro v k0 j0 rfl
      have f0:=(hf1).le j0
      simp only [↓E1,E2,zA,zB,zC,zD,zE,zF,zG,zH,zI,zJ,zK,zL,zM,zN,reduceIte,zO,zP, *,with_putI,look_putS,putS_putS,Option.isSome_some,Option.map_some]
      refine hLd.q1 f0 q1 ?_
      rintro v k1 j1 rfl
      have f1:=(f0).le j1
      simp only [↓E1,E2,zA,zB,zC,zD,zE,zF,zG,zH,zI,zJ,zK,zL,zM,zN,reduceIte,zO,zP, *,with_putI,look_putS,putS_putS,Option.isSome_some,Option.map_some]
      refine hEM.q1 f1 q2 ?_
      rintro v k2 j2 rfl
      have f2:=(f1).le j2
      simp only [↓E1,E2,zA,zB,zC,zD,zE,zF,zG,zH,zI,zJ,zK,zL,zM,zN,reduceIte,zO,zP, *,with_putI,look_putS,putS_putS,Option.isSome_some,Option.map_some]
      refine hC.c1 f2 q1 ?_
      rintro v m6 n6 g6 ⟨xe',xa',xs',xd',o,rfl,ho,hT⟩
      have l6:=g6.le
      have c3:=(g6.own (n + 1 + 1) (by omega)).trans b3
      have gz:=((((g1.le2 j0).le2 j1).le2 j2).trans (g6.weaken (by omega))).put (id:=n + 1 + 1) (by omega) c3 (c:=[I r.me,I r.nodes,I r.view,I r.normal,I r.status,I r.commit,.bool r.sent,I r.log.base,r.log.snap.sv,xe',xa',xs',xd'])
      have hT2:=hT.keep (M':=with' (putS m6 (n + 1 + 1) [I r.me,I r.nodes,I r.view,I r.normal,I r.status,I r.commit,.bool r.sent,I r.log.base,r.log.snap.sv,xe',xa',xs',xd']) fz) (o':=o) λt h6 h7=>Tag.put (lookI c3) (by rw [ho _ (by omega)]; omega)
      obtain ⟨⟨es,t1,t2⟩,t3,t4,ds,t5,t6⟩:=hT
      obtain ⟨-,-,yek,yem⟩:=t1.len
      obtain ⟨-,-,yak,yam⟩:=SlX.len t3
      obtain ⟨-,-,ysk,ysm⟩:=SlX.len t4
      obtain ⟨-,-,ydk,ydm⟩:=SlX.len t5
      have w3':=look_with (fz:=fz) c3
      clear w1 w2 w3 t1 t2 t3 t4 t5 t6
      simp only [↓E1,E2,zA,zB,zC,zD,zE,zF,zG,zH,zI,zJ,zK,zL,zM,zN,reduceIte,zO,zP, *,with_putI,look_putS,putS_putS,Option.isSome_some,Option.map_some]
      refine hkH.out _ _ _ gz ⟨xe',xa',xs',xd',.nsl,o,by rw [hps]; rfl,λj hj=>ho j (by omega),by rw [hps]; exact hT2,by rw [hps]; exact ⟨[],.inl ⟨.inl rfl,rfl⟩,trivial⟩⟩
    · simp only [↓E1,E2,zA,zB,zC,zD,zE,zF,zG,zH,zI,zJ,zK,zL,zM,zN,reduceIte,zO,zP, *,with_putI,look_putS,putS_putS,Option.isSome_some,Option.map_some]
      try rw [hm1]
      clear hm1
      refine hM.q1 hf1 q1 ?_
      rintro v k0 j0 rfl
      have f0:=(hf1).le j0
      simp only [↓E1,E2,zA,zB,zC,zD,zE,zF,zG,zH,zI,zJ,zK,zL,zM,zN,reduceIte,zO,zP, *,with_putI,look_putS,putS_putS,Option.isSome_some,Option.map_some]
      refine hLd.q1 f0 q1 ?_
      rintro v k1 j1 rfl
      have f1:=(f0).le j1
      simp only [↓E1,E2,zA,zB,zC,zD,zE,zF,zG,zH,zI,zJ,zK,zL,zM,zN,reduceIte,zO,zP, *,with_putI,look_putS,putS_putS,Option.isSome_some,Option.map_some]
      refine hEM.q1 f1 q2 ?_
      rintro v k2 j2 rfl
      have f2:=(f1).le j2
      simp only [↓E1,E2,zA,zB,zC,zD,zE,zF,zG,zH,zI,zJ,zK,zL,zM,zN,reduceIte,zO,zP, *,with_putI,look_putS,putS_putS,Option.isSome_some,Option.map_some]
      refine hLa.q1 f2 q1.1 ?_
      rintro v k3 j3 rfl
      have f3:=(f2).le j3
      simp only [↓E1,E2,zA,zB,zC,zD,zE,zF,zG,zH,zI,zJ,zK,zL,zM,zN,reduceIte,zO,zP, *,with_putI,look_putS,putS_putS,Option.isSome_some,Option.map_some]
      refine hC.c1 f3 q1 ?_
      rintro v m6 n6 g6 ⟨xe',xa',xs',xd',o,rfl,ho,hT⟩
      have l6:=g6.le
      have c3:=(g6.own (n + 1 + 1) (by omega)).trans b3
      have gz:=(((((g1.le2 j0).le2 j1).le2 j2).le2 j3).trans (g6.weaken (by omega))).put (id:=n + 1 + 1) (by omega) c3 (c:=[I r.me,I r.nodes,I r.view,I r.normal,I r.status,I r.commit,.bool r.sent,I r.log.base,r.log.snap.sv,xe',xa',xs',xd'])
      have hT2:=hT.keep (M':=with' (putS m6 (n + 1 + 1) [I r.me,I r.nodes,I r.view,I r.normal,I r.status,I r.commit,.bool r.sent,I r.log.base,r.log.snap.sv,xe',xa',xs',xd']) fz) (o':=o) λt h6 h7=>Tag.put (lookI c3) (by rw [ho _ (by omega)]; omega)
      obtain ⟨⟨es,t1,t2⟩,t3,t4,ds,t5,t6⟩:=hT
      obtain ⟨-,-,yek,yem⟩:=t1.len
      obtain ⟨-,-,yak,yam⟩:=SlX.len t3
      obtain ⟨-,-,ysk,ysm⟩:=SlX.len t4
      obtain ⟨-,-,ydk,ydm⟩:=SlX.len t5
      have w3':=look_with (fz:=fz) c3
      clear w1 w2 w3 t1 t2 t3 t4 t5 t6
      simp only [↓E1,E2,zA,zB,zC,zD,zE,zF,zG,zH,zI,zJ,zK,zL,zM,zN,reduceIte,zO,zP, *,with_putI,look_putS,putS_putS,Option.isSome_some,Option.map_some]
      refine hkH.out _ _ _ gz ⟨xe',xa',xs',xd',.nsl,o,by rw [hps]; rfl,λj hj=>ho j (by omega),by rw [hps]; exact hT2,by rw [hps]; exact ⟨[],.inl ⟨.inl rfl,rfl⟩,trivial⟩⟩
    · simp only [↓E1,E2,zA,zB,zC,zD,zE,zF,zG,zH,zI,zJ,zK,zL,zM,zN,reduceIte,zO,zP, *,with_putI,look_putS,putS_putS,Option.isSome_some,Option.map_some]
      try rw [hm1]
      clear hm1
      refine hM.q1 hf1 q1 ?_
      rintro v k0 j0 rfl
      have f0:=(hf1).le j0
      simp only [↓E1,E2,zA,zB,zC,zD,zE,zF,zG,zH,zI,zJ,zK,zL,zM,zN,reduceIte,zO,zP, *,with_putI,look_putS,putS_putS,Option.isSome_some,Option.map_some]
      refine hLd.q1 f0 q1 ?_
      rintro v k1 j1 rfl
      have f1:=(f0).le j1
      simp only [↓E1,E2,zA,zB,zC,zD,zE,zF,zG,zH,zI,zJ,zK,zL,zM,zN,reduceIte,zO,zP, *,with_putI,look_putS,putS_putS,Option.isSome_some,Option.map_some]
      refine hEM.q1 f1 q2 ?_
      rintro v k2 j2 rfl
      have f2:=(f1).le j2
      simp only [↓E1,E2,zA,zB,zC,zD,zE,zF,zG,zH,zI,zJ,zK,zL,zM,zN,reduceIte,zO,zP, *,with_putI,look_putS,putS_putS,Option.isSome_some,Option.map_some]
      refine hLa.q1 f2 q1.1 ?_
      rintro v k3 j3 rfl
      have f3:=(f2).le j3
      simp only [↓E1,E2,zA,zB,zC,zD,zE,zF,zG,zH,zI,zJ,zK,zL,zM,zN,reduceIte,zO,zP, *,with_putI,look_putS,putS_putS,Option.isSome_some,Option.map_some]
      refine hLa.q1 f3 q1.1 ?_
      rintro v k4 j4 rfl
      have f4:=(f3).le j4
      simp only [↓E1,E2,zA,zB,zC,zD,zE,zF,zG,zH,zI,zJ,zK,zL,zM,zN,reduceIte,zO,zP, *,with_putI,look_putS,putS_putS,Option.isSome_some,Option.map_some]
      refine hC.c1 f4 q1 ?_
      rintro v m6 n6 g6 ⟨xe',xa',xs',xd',o,rfl,ho,hT⟩
      have l6:=g6.le
      have c3:=(g6.own (n + 1 + 1) (by omega)).trans b3
      have gz:=((((((g1.le2 j0).le2 j1).le2 j2).le2 j3).le2 j4).trans (g6.weaken (by omega))).put (id:=n + 1 + 1) (by omega) c3 (c:=[I r.me,I r.nodes,I r.view,I r.normal,I r.status,I r.commit,.bool r.sent,I r.log.base,r.log.snap.sv,xe',xa',xs',xd'])
      have hT2:=hT.keep (M':=with' (putS m6 (n + 1 + 1) [I r.me,I r.nodes,I r.view,I r.normal,I r.status,I r.commit,.bool r.sent,I r.log.base,r.log.snap.sv,xe',xa',xs',xd']) fz) (o':=o) λt h6 h7=>Tag.put (lookI c3) (by rw [ho _ (by omega)]; omega)
      obtain ⟨⟨es,t1,t2⟩,t3,t4,ds,t5,t6⟩:=hT
      obtain ⟨-,-,yek,yem⟩:=t1.len
      obtain ⟨-,-,yak,yam⟩:=SlX.len t3
      obtain ⟨-,-,ysk,ysm⟩:=SlX.len t4
      obtain ⟨-,-,ydk,ydm⟩:=SlX.len t5
      have w3':=look_with (fz:=fz) c3
      clear w1 w2 w3 t1 t2 t3 t4 t5 t6
      simp only [↓E1,E2,zA,zB,zC,zD,zE,zF,zG,zH,zI,zJ,zK,zL,zM,zN,reduceIte,zO,zP, *,with_putI,look_putS,putS_putS,Option.isSome_some,Option.map_some]
      refine hkH.out _ _ _ gz ⟨xe',xa',xs',xd',.nsl,o,by rw [hps]; rfl,λj hj=>ho j (by omega),by rw [hps]; exact hT2,by rw [hps]; exact ⟨[],.inl ⟨.inl rfl,rfl⟩,trivial⟩⟩
end Go.Proofs.YtnnjlnkoomeadaaGreat.Pv
namespace Go.Proofs.YtnnjlnkoomeadaaGreat.Pv
open Go.Ev Go.Ev.Rp
set_option maxRecDepth 100000
set_option maxHeartbeats 4000000
set_option linter.unusedSimpArgs false
set_option linter.unusedVariables false
set_option linter.unusedSectionVars false
def KE (a b : SV) : Prop:=a = b ∨ ∃ x y,a = .int .i64 x ∧ b = .int .i64 y
theorem KE.refl (a : SV) : KE a a:=.inl rfl
theorem KE.trans {a b c : SV} (h : KE a b) (k : KE b c) : KE a c:=by
  rcases h with rfl | ⟨x,y,rfl,rfl⟩
  · exact k
  · rcases k with rfl | ⟨x',y',e,rfl⟩
    · exact .inr ⟨x,y,rfl,rfl⟩
    · exact .inr ⟨x,y',rfl,rfl⟩
theorem KE.known {a b : SV} (h : KE a b) : b.known = a.known ∧ b.isMk = a.isMk:=by
  rcases h with rfl | ⟨x,y,rfl,rfl⟩ <;> exact ⟨rfl,rfl⟩
theorem ke_refl : ∀ l : List SV,All2 KE l l
  | []=>trivial
  | a :: l=>⟨.inl rfl,ke_refl l⟩
theorem ke_trans : ∀ {a b c : List SV},All2 KE a b → All2 KE b c → All2 KE a c
  | [],[],[],_,_=>trivial
  | _ :: _,_ :: _,_ :: _,h,k=>⟨h.1.trans k.1,ke_trans h.2 k.2⟩
  | [],[],_ :: _,_,k=>k.elim
  | [],_ :: _,_,h,_=>h.elim
  | _ :: _,[],_,h,_=>h.elim
  | _ :: _,_ :: _,[],_,k=>k.elim
theorem ke_mkd : ∀ {a b : List SV},All2 KE a b → mkd b = mkd a
  | [],[],_=>rfl
  | a :: l,b :: l',h=>h.1.known.2
  | [],_ :: _,h=>h.elim
  | _ :: _,[],h=>h.elim
theorem ke_drop : ∀ {a b : List SV} (k : Nat),All2 KE a b → All2 KE (a.drop k) (b.drop k)
  | [],[],_,_=>by simp [All2]
  | _ :: _,_ :: _,0,h=>h
  | _ :: _,_ :: _,k + 1,h=>by simpa using ke_drop k h.2
  | [],_ :: _,_,h=>h.elim
  | _ :: _,[],_,h=>h.elim
theorem ke_take : ∀ {a b : List SV} (k : Nat),All2 KE a b → All2 KE (a.take k) (b.take k)
  | [],[],_,_=>by simp [All2]
  | _ :: _,_ :: _,0,_=>trivial
  | _ :: _,_ :: _,k + 1,h=>⟨h.1,ke_take k h.2⟩
  | [],_ :: _,_,h=>h.elim
  | _ :: _,[],_,h=>h.elim
theorem ke_split : ∀ {a b c : List SV},All2 KE (a ++ b) c → ∃ c1 c2,c = c1 ++ c2 ∧ All2 KE a c1 ∧ All2 KE b c2
  | [],b,c,h=>⟨[],c,rfl,trivial,h⟩
  | a :: l,b,[],h=>h.elim
  | a :: l,b,c :: cs,h=>by
    obtain ⟨c1,c2,e,h1,h2⟩:=ke_split (a:=l) h.2
    exact ⟨c :: c1,c2,by rw [e]; rfl,⟨h.1,h1⟩,h2⟩
theorem ke_known : ∀ {a b : List SV},All2 KE a b → knownAll b = knownAll a
  | [],[],_=>rfl
  | a :: l,b :: l',h=>by rw [knownAll_cons,knownAll_cons,h.1.known.1,ke_known h.2]
  | [],_ :: _,h=>h.elim
  | _ :: _,[],h=>h.elim
theorem ke_rows : ∀ {es : List (List SV)} {c : List SV},All2 KE es.flatten c → ∃ es' : List (List SV),c = es'.flatten ∧ All2 (All2 KE) es es'
  | [],[],_=>⟨[],rfl,trivial⟩
  | [],_ :: _,h=>h.elim
  | e :: es,c,h=>by
    rw [List.flatten_cons] at h
    obtain ⟨c1,c2,rfl,h1,h2⟩:=ke_split h
    obtain ⟨es',rfl,h3⟩:=ke_rows h2
    exact ⟨c1 :: es',rfl,⟨h1,h3⟩⟩
theorem ke_over {B : List SV} {i : Nat} {x y : Int} (h : (B.drop i).take 1 = [.int .i64 x]) : All2 KE B (over B i [.int .i64 y]):=by
  have hi : i < B.length:=by
    rcases Nat.lt_or_ge i B.length with h1 | h1
    · exact h1
    · rw [List.drop_eq_nil_of_le h1] at h; simp at h
  rw [List.drop_eq_getElem_cons hi] at h
  simp only [List.take_succ_cons,List.take_zero,List.cons.injEq,and_true] at h
  have hsplit : B = B.take i ++ (B[i] :: B.drop (i + 1)):=by rw [← List.drop_eq_getElem_cons hi,List.take_append_drop]
  have key : All2 KE (B.take i ++ (B[i] :: B.drop (i + 1))) (B.take i ++ (.int .i64 y :: B.drop (i + 1))):=All2.append (ke_refl _) ⟨.inr ⟨x,y,h,rfl⟩,ke_refl _⟩
  rw [← hsplit] at key
  exact key
def Sim (M M' : Fz) : Prop:=∀ j B,M j = some B → ∃ B',M' j = some B' ∧ All2 KE B B'
theorem sl_sim {M M' : Fz} (hs : Sim M M') {s : Nat} {x : SV} {es : List (List SV)} (h : Sl M s x es) : ∃ es',Sl M' s x es' ∧ All2 (All2 KE) es es':=by
  rcases h with ⟨h,rfl⟩ | ⟨id,off,cap,B,rfl,h2,h3,h4,h5,h6,h7⟩
  · exact ⟨[],.inl ⟨h,rfl⟩,trivial⟩
  · obtain ⟨B',h8,h9⟩:=hs id B h3
    have h10:=ke_take (es.length * s) (ke_drop off h9)
    rw [h6] at h10
    obtain ⟨es',h11,h12⟩:=ke_rows h10
    have hl:=h12.length
    have hm : ∀ {es es' : List (List SV)},All2 (All2 KE) es es' → (∀ e ∈ es,e.length = s ∧ knownAll e = true) → ∀ e ∈ es',e.length = s ∧ knownAll e = true:=by
      intro es
      induction es with
      | nil=>intro es' h _ e he; cases es' with
        | nil=>cases he
        | cons _ _=>exact h.elim
      | cons a l ih =>
        intro es' h hall e he
        cases es' with
        | nil=>exact h.elim
        | cons b l' =>
          rcases List.mem_cons.1 he with rfl | he
          · have:=hall a List.mem_cons_self
            exact ⟨by rw [← h.1.length]; exact this.1,by rw [ke_known h.1]; exact this.2⟩
          · exact ih h.2 (λe he=>hall e (List.mem_cons_of_mem _ he)) e he
    refine ⟨es',.inr ⟨id,off,cap,B',by rw [hl],by rw [← hl]; exact h2,h8,by rw [ke_mkd h9]; exact h4,by rw [← hl,← h9.length]; exact h5,by rw [← hl]; exact h11,hm h12 h7⟩,h12⟩
theorem ptC_sim {p : Pt} {c : List SV} (h : All2 KE (ptC p) c) : ∃ p' : Pt,c = ptC p':=by
  match c,h with
  | [a,b,d],⟨h1,h2,h3,_⟩ =>
    rcases h1 with rfl | ⟨x,y,e,_⟩
    · obtain ⟨y2,rfl⟩ : ∃ y,b = I y:=by rcases h2 with rfl | ⟨x,y,_,rfl⟩; exact ⟨_,rfl⟩; exact ⟨_,rfl⟩
      obtain ⟨y3,rfl⟩ : ∃ y,d = I y:=by rcases h3 with rfl | ⟨x,y,_,rfl⟩; exact ⟨_,rfl⟩; exact ⟨_,rfl⟩
      exact ⟨⟨p.series,y2,y3⟩,rfl⟩
    · cases e
theorem pts_rows : ∀ {l : List Pt} {es : List (List SV)},All2 (All2 KE) (l.map ptC) es → ∃ l' : List Pt,l'.length = l.length ∧ es = l'.map ptC
  | [],[],_=>⟨[],rfl,rfl⟩
  | [],_ :: _,h=>h.elim
  | _ :: _,[],h=>h.elim
  | p :: l,e :: es,h=>by
    obtain ⟨p',rfl⟩:=ptC_sim h.1
    obtain ⟨l',h1,rfl⟩:=pts_rows h.2
    exact ⟨p' :: l',by simp [h1],rfl⟩
theorem pts_sim {M M' : Fz} (hs : Sim M M') {x : SV} {l : List Pt} (h : PtsR M x l) : ∃ l',l'.length = l.length ∧ PtsR M' x l':=by
  obtain ⟨es,h1,h2⟩:=sl_sim hs h
  obtain ⟨l',h3,rfl⟩:=pts_rows h2
  exact ⟨l',h3,h1⟩
theorem ints_rows : ∀ {l : List Int} {es : List (List SV)},All2 (All2 KE) (l.map intC) es → ∃ l' : List Int,l'.length = l.length ∧ es = l'.map intC
  | [],[],_=>⟨[],rfl,rfl⟩
  | [],_ :: _,h=>h.elim
  | _ :: _,[],h=>h.elim
  | p :: l,e :: es,h=>by
    obtain ⟨l',h1,rfl⟩:=ints_rows h.2
    match e,h.1 with
    | [a],⟨h2,_⟩ =>
      obtain ⟨y,rfl⟩ : ∃ y,a = I y:=by rcases h2 with rfl | ⟨x,y,_,rfl⟩; exact ⟨_,rfl⟩; exact ⟨_,rfl⟩
      exact ⟨y :: l',by simp [h1],rfl⟩
theorem ints_sim {M M' : Fz} (hs : Sim M M') {x : SV} {l : List Int} (h : IntsR M x l) : ∃ l',l'.length = l.length ∧ IntsR M' x l':=by
  obtain ⟨es,h1,h2⟩:=sl_sim hs h
  obtain ⟨l',h3,rfl⟩:=ints_rows h2
  exact ⟨l',h3,h1⟩
theorem notint {M : Fz} {s : Nat} {x y : SV} {es : List (List SV)} (h : Sl M s x es) (k : KE x y) : y = x:=by
  rcases k with rfl | ⟨a,b,rfl,rfl⟩
  · rfl
  · rcases h with ⟨h | h | h,_⟩ | ⟨_,_,_,_,e,_⟩
    · cases h
    · cases h
    · cases h
    · cases e
def EntsK (M : Fz) (x : SV) (L b : Nat) : Prop:=∃ l : List Ent,l.length = L ∧ (∀ e ∈ l,e.batch.length ≤ b) ∧ EntsR M x l
theorem ke_cons {a : SV} {l z : List SV} (h : All2 KE (a :: l) z) : ∃ b l',z = b :: l' ∧ KE a b ∧ All2 KE l l':=by
  cases z with
  | nil=>exact h.elim
  | cons b l'=>exact ⟨b,l',rfl,h.1,h.2⟩
theorem ke_nil {z : List SV} (h : All2 KE [] z) : z = []:=by
  cases z with
  | nil=>rfl
  | cons b l'=>exact h.elim
theorem ke_int {v : Int} {a : SV} (h : KE (I v) a) : ∃ y,a = I y:=by
  rcases h with rfl | ⟨x,y,_,rfl⟩
  · exact ⟨_,rfl⟩
  · exact ⟨_,rfl⟩
theorem ent_sim {M M' : Fz} (hs : Sim M M') {e : Ent} {c d : List SV} (h : EntR M c e) (k : All2 KE c d) : ∃ e' : Ent,e'.batch.length = e.batch.length ∧ EntR M' d e':=by
  obtain ⟨b,rfl,h4⟩:=h
  obtain ⟨p',h5,h6⟩:=pts_sim hs h4
  unfold entC at k
  obtain ⟨a1,d1,rfl,k1,k⟩:=ke_cons k
  obtain ⟨a2,d2,rfl,k2,k⟩:=ke_cons k
  obtain ⟨a3,d3,rfl,k3,k⟩:=ke_cons k
  obtain ⟨a4,d4,rfl,k4,k⟩:=ke_cons k
  obtain ⟨a5,d5,rfl,k5,k⟩:=ke_cons k
  obtain rfl:=ke_nil k
  obtain ⟨v1,rfl⟩:=ke_int k1
  obtain ⟨v2,rfl⟩:=ke_int k2
  obtain ⟨v3,rfl⟩:=ke_int k3
  obtain ⟨v4,rfl⟩:=ke_int k4
  have e5 : a5 = b:=notint h4 k5
  subst e5
  exact ⟨⟨v1,v2,v3,v4,p'⟩,h5,a5,rfl,h6⟩
theorem ents_rows {M M' : Fz} (hs : Sim M M') {bd : Nat} (l : List Ent) : ∀ (cs es : List (List SV)),All2 (EntR M) cs l → (∀ e ∈ l,e.batch.length ≤ bd) → All2 (All2 KE) cs es → ∃ l' : List Ent,l'.length = l.length ∧ (∀ e ∈ l',e.batch.length ≤ bd) ∧ All2 (EntR M') es l':=by
  induction l with
  | nil =>
    intro cs es h hb k
    cases cs with
    | cons _ _=>exact h.elim
    | nil =>
      cases es with
      | cons _ _=>exact k.elim
      | nil=>exact ⟨[],rfl,λe he=>(List.not_mem_nil he).elim,trivial⟩
  | cons e l ih =>
    intro cs es h hb k
    cases cs with
    | nil=>exact h.elim
    | cons c cs =>
      cases es with
      | nil=>exact k.elim
      | cons d es =>
        obtain ⟨l',h1,h2,h3⟩:=ih cs es h.2 (λe he=>hb e (List.mem_cons_of_mem _ he)) k.2
        obtain ⟨e',h4,h5⟩:=ent_sim hs h.1 k.1
        refine ⟨e' :: l',by simp [h1],λx hx=>?_,⟨h5,h3⟩⟩
        rcases List.mem_cons.1 hx with rfl | hx
        · rw [h4]; exact hb e List.mem_cons_self
        · exact h2 x hx
theorem EntsK.sim {M M' : Fz} (hs : Sim M M') {x : SV} {L b : Nat} (h : EntsK M x L b) : EntsK M' x L b:=by
  obtain ⟨l,h1,h2,cs,h3,h4⟩:=h
  obtain ⟨es,h5,h6⟩:=sl_sim hs h3
  obtain ⟨l',h7,h8,h9⟩:=ents_rows hs l _ _ h4 h2 h6
  exact ⟨l',by rw [h7,h1],h8,es,h5,h9⟩
end Go.Proofs.YtnnjlnkoomeadaaGreat.Pv
namespace Go.Proofs.YtnnjlnkoomeadaaGreat.Pv
open Go.Ev Go.Ev.Rp
set_option maxRecDepth 100000
set_option maxHeartbeats 4000000
set_option linter.unusedSimpArgs false
set_option linter.unusedVariables false
set_option linter.unusedSectionVars false
def xor90 (a : Int) : Int:=IntKind.i64.wrap ((BitVec.ofInt IntKind.i64.bits a ^^^ BitVec.ofInt IntKind.i64.bits 90).toNat)
theorem b_xor90 {a : Int} {k : SV → Prop} : binI .xor .i64 a 90 False k = k (.int .i64 (xor90 a)):=b_xor
def Rg (lo hi : Nat) (M : Fz) : Fz:=λj=>if lo ≤ j ∧ j < hi then M j else none
theorem Rg.el {lo hi j : Nat} {M : Fz} {B : List SV} (h : Rg lo hi M j = some B) : lo ≤ j ∧ j < hi ∧ M j = some B:=by
  unfold Rg at h
  split at h
  · rename_i e; exact ⟨e.1,e.2,h⟩
  · cases h
theorem Rg.at {lo hi j : Nat} {M : Fz} {B : List SV} (h1 : lo ≤ j) (h2 : j < hi) (h : M j = some B) : Rg lo hi M j = some B:=by unfold Rg; rw [if_pos ⟨h1,h2⟩]; exact h
theorem Rg.sub {lo hi : Nat} {M : Fz} : Sub (Rg lo hi M) M:=λ_ _ h=>(Rg.el h).2.2
structure SpR (lo hi : Nat) (fz : Fz) (mu mu' : St) (n n' : Nat) : Prop where
  le : n ≤ n'
  free : Free fz mu' n'
  out : ∀ j,j < n → ¬ (lo ≤ j ∧ j < hi) → Ev.look mu' j = Ev.look mu j
  ins : ∀ j B,lo ≤ j → j < hi → Ev.look mu j = some B → ∃ B',Ev.look mu' j = some B' ∧ All2 KE B B'
section
variable {lo hi : Nat} {fz : Fz} {mu mu' mu2 : St} {n n' n2 : Nat}
theorem SpR.refl (h : Free fz mu n) : SpR lo hi fz mu mu n n:=⟨Nat.le_refl _,h,λ_ _ _=>rfl,λj B _ _ hB=>⟨B,hB,ke_refl _⟩⟩
theorem SpR.trans (h : SpR lo hi fz mu mu' n n') (k : SpR lo hi fz mu' mu2 n' n2) : SpR lo hi fz mu mu2 n n2 :=
  ⟨Nat.le_trans h.le k.le,k.free,λj hj ho=>(k.out j (Nat.lt_of_lt_of_le hj h.le) ho).trans (h.out j hj ho),λj B h1 h2 h3=>by
    obtain ⟨B',h4,h5⟩:=h.ins j B h1 h2 h3
    obtain ⟨B2,h6,h7⟩:=k.ins j B' h1 h2 h4
    exact ⟨B2,h6,ke_trans h5 h7⟩⟩
theorem SpR.sim (h : SpR lo hi fz mu mu' n n') (hfz : ∀ j,lo ≤ j → fz j = none) : Sim (Rg lo hi (with' mu fz)) (Rg lo hi (with' mu' fz)):=λj B hj=>by
  obtain ⟨h1,h2,h3⟩:=Rg.el hj
  rw [with_look (hfz j h1)] at h3
  obtain ⟨B',h4,h5⟩:=h.ins j B h1 h2 h3
  exact ⟨B',Rg.at h1 h2 (look_with h4),h5⟩
theorem SpR.put (hf : Free fz mu n) {id i : Nat} {B : List SV} {x y : Int} (h1 : lo ≤ id) (h2 : id < hi) (h : Ev.look mu id = some B) (hx : (B.drop i).take 1 = [.int .i64 x]) : SpR lo hi fz mu (putS mu id (over B i [.int .i64 y])) n n:=by
  refine ⟨Nat.le_refl _,λj=>?_,λj hj ho=>by rw [look_putS,if_neg (λe : id = j=>ho ⟨by omega,by omega⟩)],λj B2 h3 h4 h5=>?_⟩
  · have:=hf.lt (look_with (fz:=fz) h)
    rw [with_putS h,if_neg (by omega)]; exact hf j
  · by_cases e : id = j
    · subst e
      rw [h] at h5
      injection h5 with h5
      subst h5
      exact ⟨_,by rw [look_putS,if_pos rfl,h]; rfl,ke_over hx⟩
    · exact ⟨B2,by rw [look_putS,if_neg e]; exact h5,ke_refl _⟩
theorem SpR.gr (g : Gr n fz mu mu' n n') (hh : hi ≤ n) : SpR lo hi fz mu mu' n n':=⟨g.le,g.free,λj hj _=>g.own j hj,λj B h1 h2 h3=>⟨B,(g.own j (by omega)).trans h3,ke_refl _⟩⟩
theorem take_sub {B : List SV} {k i m : Nat} {cs : List SV} (h : (B.drop k).take m = cs) (hi : i < cs.length) (hm : i < m) : (B.drop (k + i)).take 1 = [cs[i]]:=by
  subst h
  have h1 : i < (B.drop k).length:=by rw [List.length_take] at hi; omega
  rw [← List.drop_drop,List.drop_eq_getElem_cons h1]
  simp [List.getElem_take]
end
variable {P : Program} (H : Fs P)
include H
theorem spoil_points {lo hi : Nat} {fz : Fz} (hfz : ∀ j, lo ≤ j → fz j = none) {x : SV} {l : List Pt} (hl : l.length ≤ 1152921504606846976) {mu : St} {n : Nat} (hf : Free fz mu n) (hx : PtsR (Rg lo hi (with' mu fz)) x l) {k : KT Prop} {w : WK k}
    (hk : ∀ mu',SpR lo hi fz mu mu' n n → k noVal mu' n) : CPh P n_law0_SpoilPoints [.one x] fz mu n k w:=by
  refine CP_of H.law0_SpoilPoints H.mx (l.length + 1) ?_
  obtain ⟨xl,xs,xk,xm⟩:=hx.len
  rw [i_law0_SpoilPoints,dc_at b_law0_SpoilPoints.eq_1]
  have hkH:=Hide.mk hk
  clear hk
  simp only [↓E1,E2,zA,zB,zC,zD,zE,zF,zG,zH,zI,zJ,zK,zL,zM,zN,reduceIte,zO,zP]
  refine loopI (x:=0) (L:=l.length) (p:=λ_=>true) (λi e mu1 n1=>n1 = n ∧ SpR lo hi fz mu mu1 n n ∧ e 0 0 = .one x ∧ e 0 2 = .one (.int .i64 i)) (λ_ _ _=>False) ?_ ?_ _ _ _ _ _ (by omega) ⟨rfl,SpR.refl hf,by simp [updN,updE,envI],by simp [updN,updE]⟩ ?_ (by rintro ⟨_,_,_,h⟩; cases h)
  · rintro i e mu1 n1 K hi' ⟨rfl,hS,e0,e2⟩ hy hn
    have hY:=Hide.mk hy
    clear hy hn
    obtain ⟨l',hl',hx'⟩:=pts_sim (hS.sim hfz) hx
    have hi2 : i < l'.length:=by omega
    obtain ⟨id,off,cap,B,rfl,p1,p2,p3,p4⟩:=hx'.elem hi2
    obtain ⟨q1,q2,q3⟩:=Rg.el p1
    have q4:=q3
    rw [with_look (hfz id q1)] at q4
    have hw:=wrap_succ hi' (by omega)
    have hld : (B.drop (off + i * 3 + 2)).take 1 = [I l'[i].value]:=take_sub p4 (i:=2) (by simp [ptC]) (by omega)
    have hbd : off + i * 3 + 2 + 1 ≤ B.length:=by omega
    have hil : (i < l'.length) = True:=by simp; omega
    have hS2:=hS.trans (SpR.put (fz:=fz) (lo:=lo) (hi:=hi) hS.free q1 q2 q4 hld (y:=xor90 l'[i].value))
    clear hx hx' p1 p4
    rw [hl'] at e0
    rw [dc_at l_law0_SpoilPoints_0.eq_1]
    simp only [↓E1,E2,zA,zB,zC,zD,zE,zF,zG,zH,zI,zJ,zK,zL,zM,zN,reduceIte,zO,zP,↓b_xor90, *]
    refine hY.out rfl _ _ _ ⟨rfl,hS2,?_,?_⟩
    all_goals simp [updN,updE, *]
  · rintro e mu1 n1 K ⟨rfl,hS,e0,e2⟩ hY
    have hY':=Hide.mk hY
    clear hY
    rw [dc_at l_law0_SpoilPoints_0.eq_1]
    have hlt : ((l.length : Int) < l.length) = False:=by simp
    have hlt2 : (l.length < l.length) = False:=by simp
    simp only [↓E1,E2,zA,zB,zC,zD,zE,zF,zG,zH,zI,zJ,zK,zL,zM,zN,reduceIte,zO,zP, *]
    refine hY'.out _ _ _ ⟨rfl,hS,?_,?_⟩
    all_goals simp [updN,updE, *]
  · rintro - e mu1 n1 ⟨rfl,hS,e0,e2⟩
    simp only [↓E1,E2,zA,zB,zC,zD,zE,zF,zG,zH,zI,zJ,zK,zL,zM,zN,reduceIte,zO,zP]
    exact hkH.out _ hS
theorem spoil_ints {lo hi : Nat} {fz : Fz} (hfz : ∀ j, lo ≤ j → fz j = none) {x : SV} {l : List Int} (hl : l.length ≤ 1152921504606846976) {mu : St} {n : Nat} (hf : Free fz mu n) (hx : IntsR (Rg lo hi (with' mu fz)) x l) {k : KT Prop} {w : WK k}
    (hk : ∀ mu',SpR lo hi fz mu mu' n n → k noVal mu' n) : CPh P n_law0_SpoilInts [.one x] fz mu n k w:=by
  refine CP_of H.law0_SpoilInts H.mx (l.length + 1) ?_
  obtain ⟨xl,xs,xk,xm⟩:=hx.len
  rw [i_law0_SpoilInts,dc_at b_law0_SpoilInts.eq_1]
  have hkH:=Hide.mk hk
  clear hk
  simp only [↓E1,E2,zA,zB,zC,zD,zE,zF,zG,zH,zI,zJ,zK,zL,zM,zN,reduceIte,zO,zP]
  refine loopI (x:=0) (L:=l.length) (p:=λ_=>true) (λi e mu1 n1=>n1 = n ∧ SpR lo hi fz mu mu1 n n ∧ e 0 0 = .one x ∧ e 0 2 = .one (.int .i64 i)) (λ_ _ _=>False) ?_ ?_ _ _ _ _ _ (by omega) ⟨rfl,SpR.refl hf,by simp [updN,updE,envI],by simp [updN,updE]⟩ ?_ (by rintro ⟨_,_,_,h⟩; cases h)
  · rintro i e mu1 n1 K hi' ⟨rfl,hS,e0,e2⟩ hy hn
    have hY:=Hide.mk hy
    clear hy hn
    obtain ⟨l',hl',hx'⟩:=ints_sim (hS.sim hfz) hx
    have hi2 : i < l'.length:=by omega
    obtain ⟨id,off,cap,B,rfl,p1,p2,p3,p4⟩:=hx'.elem hi2
    obtain ⟨q1,q2,q3⟩:=Rg.el p1
    have q4:=q3
    rw [with_look (hfz id q1)] at q4
    have hw:=wrap_succ hi' (by omega)
    have hil : (i < l'.length) = True:=by simp; omega
    have hS2:=hS.trans (SpR.put (fz:=fz) (lo:=lo) (hi:=hi) hS.free q1 q2 q4 p4 (y:=IntKind.i64.wrap (-9 - l'[i])))
    clear hx hx' p1
    rw [hl'] at e0
    rw [dc_at l_law0_SpoilInts_0.eq_1]
    simp only [↓E1,E2,zA,zB,zC,zD,zE,zF,zG,zH,zI,zJ,zK,zL,zM,zN,reduceIte,zO,zP, *]
    refine hY.out rfl _ _ _ ⟨rfl,hS2,?_,?_⟩
    all_goals simp [updN,updE, *]
  · rintro e mu1 n1 K ⟨rfl,hS,e0,e2⟩ hY
    have hY':=Hide.mk hY
    clear hY
    rw [dc_at l_law0_SpoilInts_0.eq_1]
    have hlt : ((l.length : Int) < l.length) = False:=by simp
    have hlt2 : (l.length < l.length) = False:=by simp
    simp only [↓E1,E2,zA,zB,zC,zD,zE,zF,zG,zH,zI,zJ,zK,zL,zM,zN,reduceIte,zO,zP, *]
    refine hY'.out _ _ _ ⟨rfl,hS,?_,?_⟩
    all_goals simp [updN,updE, *]
  · rintro - e mu1 n1 ⟨rfl,hS,e0,e2⟩
    simp only [↓E1,E2,zA,zB,zC,zD,zE,zF,zG,zH,zI,zJ,zK,zL,zM,zN,reduceIte,zO,zP]
    exact hkH.out _ hS
theorem spoil_log {lo hi : Nat} {fz : Fz} (hfz : ∀ j, lo ≤ j → fz j = none) (lb : Int) (ls : Tx) {x : SV} {L bd : Nat} (hL : L ≤ 1152921504606846976) (hbd : bd ≤ 1152921504606846976) {mu : St} {n : Nat} (hf : Free fz mu n) (hh : hi ≤ n) (hx : EntsK (Rg lo hi (with' mu fz)) x L bd) {k : KT Prop} {w : WK k}
    (hk : ∀ mu' n',SpR lo hi fz mu mu' n n' → k noVal mu' n') : CPh P n_law0_SpoilLog [.ag [I lb,ls.sv,x]] fz mu n k w:=by
  refine CP_of H.law0_SpoilLog H.mx (L + 1) ?_
  have hx0:=hx
  obtain ⟨l0,hl0,-,hx1⟩:=hx0
  obtain ⟨xl,xs,xk,xm⟩:=hx1.len
  have gA:=(Gr.refl (lo:=n) hf).cons (Nat.le_refl _) [I lb,ls.sv,x]
  have hA : SpR lo hi fz mu ((n,[I lb,ls.sv,x]) :: mu) n (n + 1):=SpR.gr gA hh
  have b1 : Ev.look ((n,[I lb,ls.sv,x]) :: mu) n = some [I lb,ls.sv,x]:=by rw [look_c,if_pos rfl]
  rw [i_law0_SpoilLog,dc_at b_law0_SpoilLog.eq_1]
  have hkH:=Hide.mk hk
  clear hk
  simp only [↓E1,E2,zA,zB,zC,zD,zE,zF,zG,zH,zI,zJ,zK,zL,zM,zN,reduceIte,zO,zP, *]
  obtain ⟨m1,hm1⟩ : ∃ m,((n,[I lb,ls.sv,x]) :: mu) = m:=⟨_,rfl⟩
  rw [hm1] at hA b1
  try rw [hm1]
  refine loopI (x:=0) (L:=L) (p:=λ_=>true) (λi e mu1 n1=>SpR lo hi fz mu mu1 n n1 ∧ n + 1 ≤ n1 ∧ Ev.look mu1 n = some [I lb,ls.sv,x] ∧ e 0 1 = .one (.optr n 0) ∧ e 0 2 = .one (.int .i64 i)) (λ_ _ _=>False) ?_ ?_ _ _ _ _ _ (by omega) ⟨hA,by omega,b1,by simp [updN,updE,envI],by simp [updN,updE]⟩ ?_ (by rintro ⟨_,_,_,h⟩; cases h)
  · rintro i e mu1 n1 K hi' ⟨hS,hn1,c1,e1,e2⟩ hy hn
    have hY:=Hide.mk hy
    clear hy hn
    obtain ⟨l',hl',hb',hx'⟩:=hx.sim (hS.sim hfz)
    have hi2 : i < l'.length:=by omega
    have hx'':=hx'
    obtain ⟨id,off,cap,B,b,rfl,p1,p2,p3,p4,p5⟩:=hx'.elem hi2
    obtain ⟨q1,q2,q3⟩:=Rg.el p1
    have q4:=q3
    rw [with_look (hfz id q1)] at q4
    have hw:=wrap_succ hi' (by omega)
    have hld : (B.drop (off + i * 5 + 0)).take 1 = [I l'[i].view]:=take_sub p4 (i:=0) (by simp [entC]) (by omega)
    have hbd0 : off + i * 5 + 0 + 1 ≤ B.length:=by omega
    have hil : (i < l'.length) = True:=by simp; omega
    have hS2:=SpR.put (fz:=fz) (lo:=lo) (hi:=hi) hS.free q1 q2 q4 hld (y:=xor90 l'[i].view)
    have hne : (id = n) = False:=by simp; omega
    have c2:=(show ∀ B' : List SV,Ev.look (putS mu1 id B') n = Ev.look mu1 n from λ_=>by rw [look_putS,if_neg (by omega)]) (over B (off + i * 5 + 0) [I (xor90 l'[i].view)]) |>.trans c1
    have wc:=look_with (fz:=fz) c1
    have wc2:=look_with (fz:=fz) c2
    have hSS:=hS.trans hS2
    obtain ⟨l2,hl2,hb2,hx2⟩:=hx.sim (hSS.sim hfz)
    have hi3 : i < l2.length:=by omega
    obtain ⟨id2,off2,cap2,B2,bb,hq,r1,r2,r3,r4,r5⟩:=hx2.elem hi3
    have hbl:=hb2 _ (List.getElem_mem hi3)
    injection hq with hq1 hq2 hq3 hq4
    subst hq1 hq2
    obtain ⟨-,-,s3⟩:=Rg.el r1
    have hbd4 : off + i * 5 + 4 + 1 ≤ B2.length:=by omega
    have hld4 : (B2.drop (off + i * 5 + 4)).take 1 = [bb]:=take_sub r4 (i:=4) (by simp [entC]) (by omega)
    clear p1 r1
    rw [dc_at l_law0_SpoilLog_0.eq_1]
    simp only [↓E1,E2,zA,zB,zC,zD,zE,zF,zG,zH,zI,zJ,zK,zL,zM,zN,reduceIte,zO,zP,↓b_xor90, *]
    refine spoil_points H hfz (by omega) hSS.free r5 ?_
    intro mu' hS3
    have hS4:=hSS.trans hS3
    have c3:=(hS3.out n (by omega) (by omega)).trans c2
    simp only [↓E1,E2,zA,zB,zC,zD,zE,zF,zG,zH,zI,zJ,zK,zL,zM,zN,reduceIte,zO,zP, *]
    refine hY.out rfl _ _ _ ⟨hS4,hn1,c3,?_,?_⟩
    all_goals simp [updN,updE, *]
  · rintro e mu1 n1 K ⟨hS,hn1,c1,e1,e2⟩ hY
    have hY':=Hide.mk hY
    clear hY
    have wc:=look_with (fz:=fz) c1
    rw [dc_at l_law0_SpoilLog_0.eq_1]
    have hlt : ((L : Int) < L) = False:=by simp
    have hlt2 : (L < L) = False:=by simp
    simp only [↓E1,E2,zA,zB,zC,zD,zE,zF,zG,zH,zI,zJ,zK,zL,zM,zN,reduceIte,zO,zP, *]
    refine hY'.out _ _ _ ⟨hS,hn1,c1,?_,?_⟩
    all_goals simp [updN,updE, *]
  · rintro - e mu1 n1 ⟨hS,hn1,c1,e1,e2⟩
    simp only [↓E1,E2,zA,zB,zC,zD,zE,zF,zG,zH,zI,zJ,zK,zL,zM,zN,reduceIte,zO,zP]
    exact hkH.out _ _ hS
end Go.Proofs.YtnnjlnkoomeadaaGreat.Pv
namespace Go.Proofs.YtnnjlnkoomeadaaGreat.Pv
open Go.Ev Go.Ev.Rp
set_option maxRecDepth 100000
set_option maxHeartbeats 4000000
set_option linter.unusedSimpArgs false
set_option linter.unusedVariables false
set_option linter.unusedSectionVars false
theorem ke_tx {t : Tx} {a : SV} (h : KE t.sv a) : a = t.sv:=by
  rcases h with h | ⟨x,y,h,_⟩
  · exact h.symm
  · simp [Tx.sv] at h
def entsOk (bd : Nat) (l : List Ent) : Prop:=l.length ≤ bd ∧ ∀ e ∈ l,e.batch.length ≤ bd
def MsgsK (M : Fz) (x : SV) (L bd : Nat) : Prop:=∃ l : List Msg,l.length = L ∧ (∀ m ∈ l,m.batch.length ≤ bd ∧ entsOk bd m.log.ents) ∧ MsgsR M x l
def DvsK (M : Fz) (x : SV) (L bd : Nat) : Prop:=∃ l : List Dv,l.length = L ∧ (∀ m ∈ l,entsOk bd m.log.ents) ∧ DvsR M x l
theorem ents_sim {M M' : Fz} (hs : Sim M M') {bd : Nat} {x : SV} {l : List Ent} (ho : entsOk bd l) (h : EntsR M x l) : ∃ l',l'.length = l.length ∧ entsOk bd l' ∧ EntsR M' x l':=by
  obtain ⟨l',h1,h2,h3⟩:=EntsK.sim hs (x:=x) (L:=l.length) (b:=bd) ⟨l,rfl,ho.2,h⟩
  exact ⟨l',h1,⟨by rw [h1]; exact ho.1,h2⟩,h3⟩
theorem ke_ents {M : Fz} {x a : SV} {l : List Ent} (h : EntsR M x l) (k : KE x a) : a = x:=by
  obtain ⟨cs,h1,-⟩:=h
  exact notint h1 k
theorem dv_sim {M M' : Fz} (hs : Sim M M') {bd : Nat} {e : Dv} {c d : List SV} (ho : entsOk bd e.log.ents) (h : DvR M c e) (k : All2 KE c d) : ∃ e' : Dv,entsOk bd e'.log.ents ∧ DvR M' d e':=by
  obtain ⟨b,rfl,h4⟩:=h
  obtain ⟨p',h5,h5',h6⟩:=ents_sim hs ho h4
  unfold dvC at k
  obtain ⟨a1,d1,rfl,k1,k⟩:=ke_cons k
  obtain ⟨a2,d2,rfl,k2,k⟩:=ke_cons k
  obtain ⟨a3,d3,rfl,k3,k⟩:=ke_cons k
  obtain ⟨a4,d4,rfl,k4,k⟩:=ke_cons k
  obtain ⟨a5,d5,rfl,k5,k⟩:=ke_cons k
  obtain ⟨a6,d6,rfl,k6,k⟩:=ke_cons k
  obtain rfl:=ke_nil k
  obtain ⟨v1,rfl⟩:=ke_int k1
  obtain ⟨v2,rfl⟩:=ke_int k2
  obtain ⟨v3,rfl⟩:=ke_int k3
  obtain ⟨v4,rfl⟩:=ke_int k4
  obtain rfl:=ke_tx k5
  obtain rfl:=ke_ents h4 k6
  exact ⟨⟨v1,v2,v3,⟨v4,e.log.snap,p'⟩⟩,h5',_,rfl,h6⟩
theorem msg_sim {M M' : Fz} (hs : Sim M M') {bd : Nat} {e : Msg} {c d : List SV} (hb : e.batch.length ≤ bd) (ho : entsOk bd e.log.ents) (h : MsgR M c e) (k : All2 KE c d) : ∃ e' : Msg,(e'.batch.length ≤ bd ∧ entsOk bd e'.log.ents) ∧ MsgR M' d e':=by
  obtain ⟨xb,xe,rfl,h3,h4⟩:=h
  obtain ⟨p',h5,h5',h6⟩:=ents_sim hs ho h4
  obtain ⟨q',h7,h8⟩:=pts_sim hs h3
  unfold msgC at k
  obtain ⟨a1,d1,rfl,k1,k⟩:=ke_cons k
  obtain ⟨a2,d2,rfl,k2,k⟩:=ke_cons k
  obtain ⟨a3,d3,rfl,k3,k⟩:=ke_cons k
  obtain ⟨a4,d4,rfl,k4,k⟩:=ke_cons k
  obtain ⟨a5,d5,rfl,k5,k⟩:=ke_cons k
  obtain ⟨a6,d6,rfl,k6,k⟩:=ke_cons k
  obtain ⟨a7,d7,rfl,k7,k⟩:=ke_cons k
  obtain ⟨a8,d8,rfl,k8,k⟩:=ke_cons k
  obtain ⟨a9,d9,rfl,k9,k⟩:=ke_cons k
  obtain ⟨a10,d10,rfl,k10,k⟩:=ke_cons k
  obtain ⟨a11,d11,rfl,k11,k⟩:=ke_cons k
  obtain ⟨a12,d12,rfl,k12,k⟩:=ke_cons k
  obtain ⟨a13,d13,rfl,k13,k⟩:=ke_cons k
  obtain ⟨a14,d14,rfl,k14,k⟩:=ke_cons k
  obtain ⟨a15,d15,rfl,k15,k⟩:=ke_cons k
  obtain ⟨a16,d16,rfl,k16,k⟩:=ke_cons k
  obtain ⟨a17,d17,rfl,k17,k⟩:=ke_cons k
  obtain ⟨a18,d18,rfl,k18,k⟩:=ke_cons k
  obtain ⟨a19,d19,rfl,k19,k⟩:=ke_cons k
  obtain ⟨a20,d20,rfl,k20,k⟩:=ke_cons k
  obtain rfl:=ke_nil k
  obtain ⟨v1,rfl⟩:=ke_int k1
  obtain ⟨v2,rfl⟩:=ke_int k2
  obtain ⟨v3,rfl⟩:=ke_int k3
  obtain ⟨v4,rfl⟩:=ke_int k4
  obtain ⟨v5,rfl⟩:=ke_int k5
  obtain ⟨v6,rfl⟩:=ke_int k6
  obtain ⟨v7,rfl⟩:=ke_int k7
  obtain ⟨v8,rfl⟩:=ke_int k8
  obtain ⟨v9,rfl⟩:=ke_int k9
  obtain ⟨v10,rfl⟩:=ke_int k10
  obtain ⟨v11,rfl⟩:=ke_int k11
  obtain ⟨v12,rfl⟩:=ke_int k12
  obtain ⟨v13,rfl⟩:=ke_int k13
  obtain ⟨v14,rfl⟩:=ke_int k14
  obtain rfl:=ke_tx k15
  obtain rfl : a16 = _:=notint h3 k16
  obtain ⟨v17,rfl⟩:=ke_int k17
  obtain rfl:=ke_tx k18
  obtain rfl:=ke_ents h4 k19
  obtain rfl:=ke_tx k20
  exact ⟨⟨v1,v2,v3,v4,v5,v6,v7,v8,v9,v10,v11,v12,v13,v14,e.series,q',⟨v17,e.log.snap,p'⟩,e.text⟩,⟨by rw [h7]; exact hb,h5'⟩,_,_,rfl,h8,h6⟩
theorem rows_sim {A : Type} {R R' : List SV → A → Prop} {Q : A → Prop} (hr : ∀ e c d,Q e → R c e → All2 KE c d → ∃ e',Q e' ∧ R' d e') (l : List A) : ∀ (cs es : List (List SV)),All2 R cs l → (∀ e ∈ l,Q e) → All2 (All2 KE) cs es → ∃ l' : List A,l'.length = l.length ∧ (∀ e ∈ l',Q e) ∧ All2 R' es l':=by
  induction l with
  | nil =>
    intro cs es h hb k
    cases cs with
    | cons _ _=>exact h.elim
    | nil =>
      cases es with
      | cons _ _=>exact k.elim
      | nil=>exact ⟨[],rfl,λe he=>(List.not_mem_nil he).elim,trivial⟩
  | cons e l ih =>
    intro cs es h hb k
    cases cs with
    | nil=>exact h.elim
    | cons c cs =>
      cases es with
      | nil=>exact k.elim
      | cons d es =>
        obtain ⟨l',h1,h2,h3⟩:=ih cs es h.2 (λe he=>hb e (List.mem_cons_of_mem _ he)) k.2
        obtain ⟨e',h4,h5⟩:=hr e c d (hb e List.mem_cons_self) h.1 k.1
        refine ⟨e' :: l',by simp [h1],λx hx=>?_,⟨h5,h3⟩⟩
        rcases List.mem_cons.1 hx with rfl | hx
        · exact h4
        · exact h2 x hx
theorem DvsK.sim {M M' : Fz} (hs : Sim M M') {x : SV} {L b : Nat} (h : DvsK M x L b) : DvsK M' x L b:=by
  obtain ⟨l,h1,h2,cs,h3,h4⟩:=h
  obtain ⟨es,h5,h6⟩:=sl_sim hs h3
  obtain ⟨l',h7,h8,h9⟩:=rows_sim (R':=DvR M') (Q:=λe : Dv=>entsOk b e.log.ents) (λe c d q r k=>dv_sim hs q r k) l _ _ h4 h2 h6
  exact ⟨l',by rw [h7,h1],h8,es,h5,h9⟩
theorem MsgsK.sim {M M' : Fz} (hs : Sim M M') {x : SV} {L b : Nat} (h : MsgsK M x L b) : MsgsK M' x L b:=by
  obtain ⟨l,h1,h2,cs,h3,h4⟩:=h
  obtain ⟨es,h5,h6⟩:=sl_sim hs h3
  obtain ⟨l',h7,h8,h9⟩:=rows_sim (R':=MsgR M') (Q:=λe : Msg=>e.batch.length ≤ b ∧ entsOk b e.log.ents) (λe c d q r k=>msg_sim hs q.1 q.2 r k) l _ _ h4 h2 h6
  exact ⟨l',by rw [h7,h1],h8,es,h5,h9⟩
end Go.Proofs.YtnnjlnkoomeadaaGreat.Pv
namespace Go.Proofs.YtnnjlnkoomeadaaGreat.Pv
open Go.Ev Go.Ev.Rp
set_option maxRecDepth 100000
set_option maxHeartbeats 4000000
set_option linter.unusedSimpArgs false
set_option linter.unusedVariables false
set_option linter.unusedSectionVars false
theorem msgs_elem {M : Fz} {x : SV} {l : List Msg} (h : MsgsR M x l) {i : Nat} (hi : i < l.length) : ∃ id off cap B xb xe,x = .osl id off l.length cap 20 ∧ M id = some B ∧ mkd B = false ∧ off + i * 20 + 20 ≤ B.length ∧ (B.drop (off + i * 20)).take 20 = msgC l[i] xb xe ∧ PtsR M xb l[i].batch ∧ EntsR M xe l[i].log.ents:=by
  obtain ⟨cs,h1,h2⟩:=h
  have hl:=h2.length
  obtain ⟨id,off,cap,B,g1,g2,g3,g4,g5⟩:=h1.elem (i:=i) (by omega)
  obtain ⟨xb,xe,e1,e2,e3⟩:=h2.at (i:=i) (by omega) hi
  exact ⟨id,off,cap,B,xb,xe,by rw [← hl]; exact g1,g2,g3,g4,by rw [g5,e1],e2,e3⟩
theorem msgs_len {M : Fz} {x : SV} {l : List Msg} (h : MsgsR M x l) : (∀ k,onLen x k = k l.length) ∧ x.isStr = false ∧ x.known = true ∧ x.isMk = false:=by
  obtain ⟨cs,h1,h2⟩:=h
  exact ⟨λk=>by have:=(Sl.len h1 (k:=k)).1; rw [h2.length] at this; exact this,(Sl.len h1 (k:=λ_=>True)).2,(Sl.known h1).1,(Sl.known h1).2⟩
theorem take_sub2 {B : List SV} {k i w m : Nat} {cs : List SV} (h : (B.drop k).take m = cs) (hm : i + w ≤ m) : (B.drop (k + i)).take w = (cs.drop i).take w:=by
  subst h
  rw [List.drop_take,List.drop_drop,List.take_take]
  congr 1
  omega
variable {P : Program} (H : Fs P)
include H
theorem spoil_messages {lo hi : Nat} {fz : Fz} (hfz : ∀ j, lo ≤ j → fz j = none) {x : SV} {L bd : Nat} (hL : L ≤ 1152921504606846976) (hbd : bd ≤ 1152921504606846976) {mu : St} {n : Nat} (hf : Free fz mu n) (hh : hi ≤ n) (hx : MsgsK (Rg lo hi (with' mu fz)) x L bd) {k : KT Prop} {w : WK k}
    (hk : ∀ mu' n',SpR lo hi fz mu mu' n n' → k noVal mu' n') : CPh P n_law0_SpoilMessages [.one x] fz mu n k w:=by
  refine CP_of H.law0_SpoilMessages H.mx (L + 1) ?_
  have hx0:=hx
  obtain ⟨l0,hl0,-,hx1⟩:=hx0
  obtain ⟨xl,xs,xk,xm⟩:=msgs_len hx1
  rw [i_law0_SpoilMessages,dc_at b_law0_SpoilMessages.eq_1]
  have hkH:=Hide.mk hk
  clear hk
  simp only [↓E1,E2,zA,zB,zC,zD,zE,zF,zG,zH,zI,zJ,zK,zL,zM,zN,reduceIte,zO,zP, *]
  refine loopI (x:=0) (L:=L) (p:=λ_=>true) (λi e mu1 n1=>SpR lo hi fz mu mu1 n n1 ∧ e 0 0 = .one x ∧ e 0 2 = .one (.int .i64 i)) (λ_ _ _=>False) ?_ ?_ _ _ _ _ _ (by omega) ⟨SpR.refl hf,by simp [updN,updE,envI],by simp [updN,updE]⟩ ?_ (by rintro ⟨_,_,_,h⟩; cases h)
  · rintro i e mu1 n1 K hi' ⟨hS,e1,e2⟩ hy hn
    have hY:=Hide.mk hy
    clear hy hn
    have hle:=hS.le
    obtain ⟨l',hl',hb',hx'⟩:=hx.sim (hS.sim hfz)
    have hi2 : i < l'.length:=by omega
    obtain ⟨id,off,cap,B,xb,xe,rfl,p1,p2,p3,p4,p5,p6⟩:=msgs_elem hx' hi2
    obtain ⟨q1,q2,q3⟩:=Rg.el p1
    have hw:=wrap_succ hi' (by omega)
    have hld : (B.drop (off + i * 20 + 15)).take 1 = [xb]:=take_sub p4 (i:=15) (by simp [msgC]) (by omega)
    have hbd0 : off + i * 20 + 15 + 1 ≤ B.length:=by omega
    have hil : (i < l'.length) = True:=by simp; omega
    have hbl:=(hb' _ (List.getElem_mem hi2)).1
    clear p1
    rw [dc_at l_law0_SpoilMessages_0.eq_1]
    simp only [↓E1,E2,zA,zB,zC,zD,zE,zF,zG,zH,zI,zJ,zK,zL,zM,zN,reduceIte,zO,zP, *]
    refine spoil_points H hfz (by omega) hS.free p5 ?_
    intro mu2 hS2
    have hS3:=hS.trans hS2
    obtain ⟨l2,hl2,hb2,hx2⟩:=hx.sim (hS3.sim hfz)
    have hi3 : i < l2.length:=by omega
    obtain ⟨id2,off2,cap2,B2,xb2,xe2,hq,r1,r2,r3,r4,r5,r6⟩:=msgs_elem hx2 hi3
    obtain ⟨hb3,hb4,hb5⟩:=hb2 _ (List.getElem_mem hi3)
    injection hq with hq1 hq2 hq3 hq4
    subst hq1 hq2
    obtain ⟨-,-,s3⟩:=Rg.el r1
    have hbd1 : off + i * 20 + 16 + 3 ≤ B2.length:=by omega
    have hld1 : (B2.drop (off + i * 20 + 16)).take 3 = [I l2[i].log.base,l2[i].log.snap.sv,xe2]:=take_sub2 r4 (i:=16) (w:=3) (by omega)
    clear r1
    simp only [↓E1,E2,zA,zB,zC,zD,zE,zF,zG,zH,zI,zJ,zK,zL,zM,zN,reduceIte,zO,zP, *]
    refine spoil_log H hfz _ _ (L:=l2[i].log.ents.length) (bd:=bd) (by omega) hbd hS3.free (by omega) ⟨_,rfl,hb5,r6⟩ ?_
    intro mu3 n3 hS4
    have hS5:=hS3.trans hS4
    obtain ⟨l3,hl3,hb3',hx3⟩:=hx.sim (hS5.sim hfz)
    have hi4 : i < l3.length:=by omega
    obtain ⟨id3,off3,cap3,B3,xb3,xe3,hq',t1,t2,t3,t4,t5,t6⟩:=msgs_elem hx3 hi4
    injection hq' with hq1 hq2 hq3' hq4'
    subst hq1 hq2
    obtain ⟨-,-,u3⟩:=Rg.el t1
    have u4:=u3
    rw [with_look (hfz id q1)] at u4
    have hbd2 : off + i * 20 + 3 + 1 ≤ B3.length:=by omega
    have hld2 : (B3.drop (off + i * 20 + 3)).take 1 = [I l3[i].view]:=take_sub t4 (i:=3) (by simp [msgC]) (by omega)
    have hS6:=hS5.trans (SpR.put (fz:=fz) (lo:=lo) (hi:=hi) hS5.free q1 q2 u4 hld2 (y:=xor90 l3[i].view))
    clear t1
    simp only [↓E1,E2,zA,zB,zC,zD,zE,zF,zG,zH,zI,zJ,zK,zL,zM,zN,reduceIte,zO,zP,↓b_xor90, *]
    refine hY.out rfl _ _ _ ⟨hS6,?_,?_⟩
    all_goals simp [updN,updE, *]
  · rintro e mu1 n1 K ⟨hS,e1,e2⟩ hY
    have hY':=Hide.mk hY
    clear hY
    rw [dc_at l_law0_SpoilMessages_0.eq_1]
    have hlt : ((L : Int) < L) = False:=by simp
    have hlt2 : (L < L) = False:=by simp
    simp only [↓E1,E2,zA,zB,zC,zD,zE,zF,zG,zH,zI,zJ,zK,zL,zM,zN,reduceIte,zO,zP, *]
    refine hY'.out _ _ _ ⟨hS,?_,?_⟩
    all_goals simp [updN,updE, *]
  · rintro - e mu1 n1 ⟨hS,e1,e2⟩
    simp only [↓E1,E2,zA,zB,zC,zD,zE,zF,zG,zH,zI,zJ,zK,zL,zM,zN,reduceIte,zO,zP]
    exact hkH.out _ _ hS
end Go.Proofs.YtnnjlnkoomeadaaGreat.Pv
namespace Go.Proofs.YtnnjlnkoomeadaaGreat.Pv
open Go.Ev Go.Ev.Rp
set_option maxRecDepth 100000
set_option maxHeartbeats 4000000
set_option linter.unusedSimpArgs false
set_option linter.unusedVariables false
set_option linter.unusedSectionVars false
variable {P : Program} (H : Fs P)
include H
theorem spoil_replica {lo hi : Nat} {fz : Fz} (hfz : ∀ j, lo ≤ j → fz j = none) (r : Rep) {xe xa xs xd : SV} {Le Ld bd : Nat} {la ls : List Int} (hLe : Le ≤ 1152921504606846976) (hla : la.length ≤ 1152921504606846976) (hls : ls.length ≤ 1152921504606846976) (hLd : Ld ≤ 1152921504606846976) (hbd : bd ≤ 1152921504606846976) {mu : St} {n : Nat} (hf : Free fz mu n) (hh : hi ≤ n) (he : EntsK (Rg lo hi (with' mu fz)) xe Le bd) (ha : IntsR (Rg lo hi (with' mu fz)) xa la) (hs : IntsR (Rg lo hi (with' mu fz)) xs ls) (hd : DvsK (Rg lo hi (with' mu fz)) xd Ld bd) {k : KT Prop} {w : WK k}
    (hk : ∀ mu' n',SpR lo hi fz mu mu' n n' → k noVal mu' n') : CPh P n_law0_SpoilReplica [.ag (repC r xe xa xs xd)] fz mu n k w:=by
  refine CP_of H.law0_SpoilReplica H.mx (Ld + 1) ?_
  have hd0:=hd
  obtain ⟨l0,hl0,-,hx1⟩:=hd0
  obtain ⟨dl,ds,dk,dm⟩:=hx1.len
  obtain ⟨al,asq',ak,am⟩:=ha.len
  obtain ⟨sl,ss,sk,sm⟩:=hs.len
  have he0:=he
  obtain ⟨l1,hl1,-,hx2⟩:=he0
  obtain ⟨el,es,ek,em⟩:=hx2.len
  have gA:=(Gr.refl (lo:=n) hf).cons (Nat.le_refl _) (repC r xe xa xs xd)
  have hA : SpR lo hi fz mu ((n,repC r xe xa xs xd) :: mu) n (n + 1):=SpR.gr gA hh
  have b1 : Ev.look ((n,repC r xe xa xs xd) :: mu) n = some (repC r xe xa xs xd):=by rw [look_c,if_pos rfl]
  unfold repC at hA b1
  rw [i_law0_SpoilReplica,dc_at b_law0_SpoilReplica.eq_1]
  have hkH:=Hide.mk hk
  clear hk
  unfold repC
  simp only [↓E1,E2,zA,zB,zC,zD,zE,zF,zG,zH,zI,zJ,zK,zL,zM,zN,reduceIte,zO,zP, *]
  generalize hm1 : ((n,_) :: mu : St) = m1 at hA b1 ⊢
  have wb1:=look_with (fz:=fz) b1
  refine spoil_log H hfz _ _ (L:=Le) (bd:=bd) hLe hbd hA.free (by omega) (he.sim (hA.sim hfz)) ?_
  intro mu2 n2 hS2
  have hS3:=hA.trans hS2
  have b2:=(hS2.out n (by omega) (by omega)).trans b1
  have wb2:=look_with (fz:=fz) b2
  obtain ⟨la',hla',ha'⟩:=ints_sim (hS3.sim hfz) ha
  simp only [↓E1,E2,zA,zB,zC,zD,zE,zF,zG,zH,zI,zJ,zK,zL,zM,zN,reduceIte,zO,zP, *]
  refine spoil_ints H hfz (l:=la') (by omega) hS3.free ha' ?_
  intro mu3 hS4
  have hS5:=hS3.trans hS4
  have h2:=hS2.le
  have b3:=(hS4.out n (by omega) (by omega)).trans b2
  have wb3:=look_with (fz:=fz) b3
  obtain ⟨ls',hls',hs'⟩:=ints_sim (hS5.sim hfz) hs
  simp only [↓E1,E2,zA,zB,zC,zD,zE,zF,zG,zH,zI,zJ,zK,zL,zM,zN,reduceIte,zO,zP, *]
  refine spoil_ints H hfz (l:=ls') (by omega) hS5.free hs' ?_
  intro mu4 hS6
  have hS7:=hS5.trans hS6
  have b4:=(hS6.out n (by omega) (by omega)).trans b3
  simp only [↓E1,E2,zA,zB,zC,zD,zE,zF,zG,zH,zI,zJ,zK,zL,zM,zN,reduceIte,zO,zP, *]
  refine loopI (x:=0) (L:=Ld) (p:=λ_=>true) (λi e mu1 n1=>SpR lo hi fz mu mu1 n n1 ∧ n + 1 ≤ n1 ∧ Ev.look mu1 n = some [I r.me,I r.nodes,I r.view,I r.normal,I r.status,I r.commit,.bool r.sent,I r.log.base,r.log.snap.sv,xe,xa,xs,xd] ∧ e 0 1 = .one (.optr n 0) ∧ e 0 2 = .one (.int .i64 i)) (λ_ _ _=>False) ?_ ?_ _ _ _ _ _ (by omega) ⟨hS7,by omega,b4,by simp [updN,updE,envI],by simp [updN,updE]⟩ ?_ (by rintro ⟨_,_,_,h⟩; cases h)
  · rintro i e mu1 n1 K hi' ⟨hS,hn1,c1,e1,e2⟩ hy hn
    have hY:=Hide.mk hy
    clear hy hn
    obtain ⟨l',hl',hb',hx'⟩:=hd.sim (hS.sim hfz)
    have hi2 : i < l'.length:=by omega
    obtain ⟨id,off,cap,B,b,rfl,p1,p2,p3,p4,p5⟩:=hx'.elem hi2
    obtain ⟨q1,q2,q3⟩:=Rg.el p1
    obtain ⟨hb1,hb2⟩:=hb' _ (List.getElem_mem hi2)
    have hw:=wrap_succ hi' (by omega)
    have hld : (B.drop (off + i * 6 + 3)).take 3 = [I l'[i].log.base,l'[i].log.snap.sv,b]:=take_sub2 p4 (i:=3) (w:=3) (by omega)
    have hbd0 : off + i * 6 + 3 + 3 ≤ B.length:=by omega
    have hil : (i < l'.length) = True:=by simp; omega
    have wc:=look_with (fz:=fz) c1
    clear p1
    rw [dc_at l_law0_SpoilReplica_0.eq_1]
    simp only [↓E1,E2,zA,zB,zC,zD,zE,zF,zG,zH,zI,zJ,zK,zL,zM,zN,reduceIte,zO,zP, *]
    refine spoil_log H hfz _ _ (L:=l'[i].log.ents.length) (bd:=bd) (by omega) hbd hS.free (by omega) ⟨_,rfl,hb2,p5⟩ ?_
    intro mu5 n5 hS8
    have hS9:=hS.trans hS8
    have h8:=hS8.le
    have c2:=(hS8.out n (by omega) (by omega)).trans c1
    simp only [↓E1,E2,zA,zB,zC,zD,zE,zF,zG,zH,zI,zJ,zK,zL,zM,zN,reduceIte,zO,zP, *]
    refine hY.out rfl _ _ _ ⟨hS9,by omega,c2,?_,?_⟩
    all_goals simp [updN,updE, *]
  · rintro e mu1 n1 K ⟨hS,hn1,c1,e1,e2⟩ hY
    have hY':=Hide.mk hY
    clear hY
    have wc:=look_with (fz:=fz) c1
    rw [dc_at l_law0_SpoilReplica_0.eq_1]
    have hlt : ((Ld : Int) < Ld) = False:=by simp
    have hlt2 : (Ld < Ld) = False:=by simp
    simp only [↓E1,E2,zA,zB,zC,zD,zE,zF,zG,zH,zI,zJ,zK,zL,zM,zN,reduceIte,zO,zP, *]
    refine hY'.out _ _ _ ⟨hS,hn1,c1,?_,?_⟩
    all_goals simp [updN,updE, *]
  · rintro - e mu1 n1 ⟨hS,hn1,c1,e1,e2⟩
    simp only [↓E1,E2,zA,zB,zC,zD,zE,zF,zG,zH,zI,zJ,zK,zL,zM,zN,reduceIte,zO,zP]
    exact hkH.out _ _ hS
end Go.Proofs.YtnnjlnkoomeadaaGreat.Pv
namespace Go.Proofs.YtnnjlnkoomeadaaGreat.Pv
open Go.Ev Go.Ev.Rp
set_option maxRecDepth 100000
set_option maxHeartbeats 4000000
set_option linter.unusedSimpArgs false
set_option linter.unusedVariables false
set_option linter.unusedSectionVars false
variable {P : Program} (H : Fs P)
include H
theorem ref16_Same (r : Rep) (xe xa xs xd ye ya ys yd : SV) (hz : RepSz r) : BoolC P n_ref16_Same [.ag (repC r xe xa xs xd),.ag (repC r ye ya ys yd)] (λM=>RepS M r xe xa xs xd ∧ RepS M r ye ya ys yd) true:=boolC H.mx H.ref16_Same (r.acks.length + r.starts.length + r.dos.length + 1) λfz mu n k hfr g0 hx h=>by
  obtain ⟨⟨s1,s2,s3,s4⟩,t1,t2,t3,t4⟩:=hx
  obtain ⟨-,-,xek,xem⟩:=s1.len
  obtain ⟨xal,xas,xak,xam⟩:=s2.len
  obtain ⟨xsl,xss,xsk,xsm⟩:=s3.len
  obtain ⟨xdl,xds,xdk,xdm⟩:=s4.len
  obtain ⟨-,-,yek,yem⟩:=t1.len
  obtain ⟨yal,yas,yak,yam⟩:=t2.len
  obtain ⟨ysl,yss,ysk,ysm⟩:=t3.len
  obtain ⟨ydl,yds,ydk,ydm⟩:=t4.len
  have hsn : (true != (r.sent == r.sent)) = false:=by simp
  have hz1:=hz.acks
  have hz2:=hz.starts
  have hz3:=hz.dos
  have hL:=ref4_SameLog H r.log xe ye hz.log
  unfold lgC at hL
  rw [i_ref16_Same,dc_at b_ref16_Same.eq_1]
  unfold repC
  have gB : Gr n fz mu ((n + 1,repC r ye ya ys yd) :: (n,repC r xe xa xs xd) :: mu) n (n + 1 + 1):=gr2 hfr
  have b1 : Ev.look ((n + 1,repC r ye ya ys yd) :: (n,repC r xe xa xs xd) :: mu) n = some (repC r xe xa xs xd):=by rw [look_c,if_neg (by omega),look_c,if_pos rfl]
  have b2 : Ev.look ((n + 1,repC r ye ya ys yd) :: (n,repC r xe xa xs xd) :: mu) (n + 1) = some (repC r ye ya ys yd):=by rw [look_c,if_pos rfl]
  obtain ⟨m0,hm0⟩ : ∃ m0 : St,((n + 1,repC r ye ya ys yd) :: (n,repC r xe xa xs xd) :: mu) = m0:=⟨_,rfl⟩
  rw [hm0] at gB b1 b2
  unfold repC at hm0 b1 b2
  have w1:=look_with (fz:=fz) b1
  have w2:=look_with (fz:=fz) b2
  simp only [↓E1,E2,zA,zB,zC,zD,zE,zF,zG,zH,zI,zJ,zK,zL,zM,zN,reduceIte,zO,zP, *]
  try rw [hm0]
  clear hm0
  try simp only [↓E1,E2,zA,zB,zC,zD,zE,zF,zG,zH,zI,zJ,zK,zL,zM,zN,reduceIte,zO,zP, *]
  refine hL.c1 gB.free ⟨EntsR.mono (gB.sub hfr (Nat.le_refl _)) s1,EntsR.mono (gB.sub hfr (Nat.le_refl _)) t1⟩ ?_
  rintro v m1 n1 g1 rfl
  have gg:=gB.trans (g1.weaken (by omega))
  have l1:=g1.le
  have c1:=(g1.own n (by omega)).trans b1
  have c2:=(g1.own (n + 1) (by omega)).trans b2
  clear w1 w2 b1 b2 g1 gB hL
  have w1:=look_with (fz:=fz) c1
  have w2:=look_with (fz:=fz) c2
  simp only [↓E1,E2,zA,zB,zC,zD,zE,zF,zG,zH,zI,zJ,zK,zL,zM,zN,reduceIte,zO,zP, *]
  have h':=Hide.mk h
  clear h
  refine loopI (x:=0) (L:=r.acks.length) (p:=λ_=>true) (λi e mu' n'=>Gr n fz mu mu' n n' ∧ n + 1 + 1 ≤ n' ∧ Ev.look mu' n = some [I r.me,I r.nodes,I r.view,I r.normal,I r.status,I r.commit,.bool r.sent,I r.log.base,r.log.snap.sv,xe,xa,xs,xd] ∧ Ev.look mu' (n + 1) = some [I r.me,I r.nodes,I r.view,I r.normal,I r.status,I r.commit,.bool r.sent,I r.log.base,r.log.snap.sv,ye,ya,ys,yd] ∧ e 0 2 = .one (.optr n 0) ∧ e 0 3 = .one (.optr (n + 1) 0) ∧ e 0 5 = .one (.int .i64 i)) (λ_ _ _=>False) ?_ ?_ _ _ _ _ _ (by omega) ⟨gg,by omega,c1,c2,by simp [updN,updE,envI],by simp [updN,updE,envI],by simp [updN,updE,envI]⟩ ?_ (by rintro ⟨_,_,_,h⟩; cases h)
  · rintro i e mu4 n4 K hi ⟨g4,a0,a1,a2,e2,e3,e5⟩ hY hn
    have u4:=g4.sub hfr (Nat.le_refl _)
    have hw:=wrap_succ hi (by omega)
    obtain ⟨id,off,cap,B,rfl,p1,p2,p3,p4⟩:=(IntsR.mono u4 s2).elem hi
    obtain ⟨id2,off2,cap2,B3,rfl,q1,q2,q3,q4⟩:=(IntsR.mono u4 t2).elem hi
    clear w1 w2 c1 c2
    have w1:=look_with (fz:=fz) a1
    have w2:=look_with (fz:=fz) a2
    rw [dc_at l_ref16_Same_0.eq_1]
    simp only [↓E1,E2,zA,zB,zC,zD,zE,zF,zG,zH,zI,zJ,zK,zL,zM,zN,reduceIte,zO,zP, *]
    try exact hY rfl _ _ _ ⟨g4,a0,a1,a2,by simp [updN,updE, *],by simp [updN,updE, *],by simp [updN,updE, *]⟩
  · rintro e mu4 n4 K ⟨g4,a0,a1,a2,e2,e3,e5⟩ hY
    clear w1 w2 c1 c2
    have hlt : (r.acks.length < r.acks.length) = False:=by simp
    have w1:=look_with (fz:=fz) a1
    rw [dc_at l_ref16_Same_0.eq_1]
    simp only [↓E1,E2,zA,zB,zC,zD,zE,zF,zG,zH,zI,zJ,zK,zL,zM,zN,reduceIte,zO,zP, *]
    try exact hY _ _ _ ⟨g4,a0,a1,a2,by simp [updN,updE, *],by simp [updN,updE, *],by simp [updN,updE, *]⟩
  rintro - e mu1 n1 ⟨gg,l1,c1,c2,e2,e3,e5⟩
  clear w1 w2
  simp only [↓E1,E2,zA,zB,zC,zD,zE,zF,zG,zH,zI,zJ,zK,zL,zM,zN,reduceIte,zO,zP, *]
  refine loopI (x:=2) (L:=r.starts.length) (p:=λ_=>true) (λi e mu' n'=>Gr n fz mu mu' n n' ∧ n + 1 + 1 ≤ n' ∧ Ev.look mu' n = some [I r.me,I r.nodes,I r.view,I r.normal,I r.status,I r.commit,.bool r.sent,I r.log.base,r.log.snap.sv,xe,xa,xs,xd] ∧ Ev.look mu' (n + 1) = some [I r.me,I r.nodes,I r.view,I r.normal,I r.status,I r.commit,.bool r.sent,I r.log.base,r.log.snap.sv,ye,ya,ys,yd] ∧ e 0 2 = .one (.optr n 0) ∧ e 0 3 = .one (.optr (n + 1) 0) ∧ e 0 6 = .one (.int .i64 i)) (λ_ _ _=>False) ?_ ?_ _ _ _ _ _ (by omega) ⟨gg,by omega,c1,c2,by simp [updN,updE, *],by simp [updN,updE, *],by simp [updN,updE, *]⟩ ?_ (by rintro ⟨_,_,_,h⟩; cases h)
  · rintro i e mu4 n4 K hi ⟨g4,a0,a1,a2,e2,e3,e5⟩ hY hn
    have u4:=g4.sub hfr (Nat.le_refl _)
    have hw:=wrap_succ hi (by omega)
    obtain ⟨id,off,cap,B,rfl,p1,p2,p3,p4⟩:=(IntsR.mono u4 s3).elem hi
    obtain ⟨id2,off2,cap2,B3,rfl,q1,q2,q3,q4⟩:=(IntsR.mono u4 t3).elem hi
    clear c1 c2
    have w1:=look_with (fz:=fz) a1
    have w2:=look_with (fz:=fz) a2
    rw [dc_at l_ref16_Same_1.eq_1]
    simp only [↓E1,E2,zA,zB,zC,zD,zE,zF,zG,zH,zI,zJ,zK,zL,zM,zN,reduceIte,zO,zP, *]
    try exact hY rfl _ _ _ ⟨g4,a0,a1,a2,by simp [updN,updE, *],by simp [updN,updE, *],by simp [updN,updE, *]⟩
  · rintro e mu4 n4 K ⟨g4,a0,a1,a2,e2,e3,e5⟩ hY
    clear c1 c2
    have hlt : (r.starts.length < r.starts.length) = False:=by simp
    have w1:=look_with (fz:=fz) a1
    rw [dc_at l_ref16_Same_1.eq_1]
    simp only [↓E1,E2,zA,zB,zC,zD,zE,zF,zG,zH,zI,zJ,zK,zL,zM,zN,reduceIte,zO,zP, *]
    try exact hY _ _ _ ⟨g4,a0,a1,a2,by simp [updN,updE, *],by simp [updN,updE, *],by simp [updN,updE, *]⟩
  clear gg l1 c1 c2 e2 e3 e5
  rintro - e mu1 n1 ⟨gg,l1,c1,c2,e2,e3,e5⟩
  simp only [↓E1,E2,zA,zB,zC,zD,zE,zF,zG,zH,zI,zJ,zK,zL,zM,zN,reduceIte,zO,zP, *]
  refine loopI (x:=4) (L:=r.dos.length) (p:=λ_=>true) (λi e mu' n'=>Gr n fz mu mu' n n' ∧ n + 1 + 1 ≤ n' ∧ Ev.look mu' n = some [I r.me,I r.nodes,I r.view,I r.normal,I r.status,I r.commit,.bool r.sent,I r.log.base,r.log.snap.sv,xe,xa,xs,xd] ∧ Ev.look mu' (n + 1) = some [I r.me,I r.nodes,I r.view,I r.normal,I r.status,I r.commit,.bool r.sent,I r.log.base,r.log.snap.sv,ye,ya,ys,yd] ∧ e 0 2 = .one (.optr n 0) ∧ e 0 3 = .one (.optr (n + 1) 0) ∧ e 0 7 = .one (.int .i64 i)) (λ_ _ _=>False) ?_ ?_ _ _ _ _ _ (by omega) ⟨gg,by omega,c1,c2,by simp [updN,updE, *],by simp [updN,updE, *],by simp [updN,updE, *]⟩ ?_ (by rintro ⟨_,_,_,h⟩; cases h)
  · rintro i e mu4 n4 K hi ⟨g4,a0,a1,a2,e2,e3,e5⟩ hY hn
    have u4:=g4.sub hfr (Nat.le_refl _)
    have hw:=wrap_succ hi (by omega)
    obtain ⟨id,off,cap,B,b,rfl,p1,p2,p3,p4,p5⟩:=(DvsR.mono u4 s4).elem hi
    obtain ⟨id2,off2,cap2,B3,b',rfl,q1,q2,q3,q4,q5⟩:=(DvsR.mono u4 t4).elem hi
    obtain ⟨zl,zs,zk,zm⟩:=p5.len
    obtain ⟨zl',zs',zk',zm'⟩:=q5.len
    unfold dvC at p4 q4
    clear c1 c2
    have w1:=look_with (fz:=fz) a1
    have w2:=look_with (fz:=fz) a2
    have hLd:=ref4_SameLog H r.dos[i].log b b' (hz.dlog _ (List.getElem_mem hi))
    unfold lgC at hLd
    rw [dc_at l_ref16_Same_2.eq_1]
    have hne : (n4 = n) = False:=by simp; omega
    have hne1 : (n4 + 1 = n) = False:=by simp; omega
    have hne2 : (n4 + 1 = n + 1) = False:=by simp; omega
    have hne3 : (n4 = n + 1) = False:=by simp; omega
    simp only [↓E1,E2,zA,zB,zC,zD,zE,zF,zG,zH,zI,zJ,zK,zL,zM,zN,reduceIte,zO,zP, *]
    have gA : Gr n4 fz mu4 ((n4,[I r.dos[i].frm,I r.dos[i].normal,I r.dos[i].commit,I r.dos[i].log.base,r.dos[i].log.snap.sv,b]) :: (n4 + 1,[I r.dos[i].frm,I r.dos[i].normal,I r.dos[i].commit,I r.dos[i].log.base,r.dos[i].log.snap.sv,b']) :: mu4) n4 (n4 + 1 + 1):=Gr.two (Gr.refl g4.free) (Nat.le_refl _) _ _
    have uA:=gA.sub g4.free (Nat.le_refl _)
    refine hLd.c1 gA.free ⟨EntsR.mono uA p5,EntsR.mono uA q5⟩ ?_
    rintro v mu5 n5 g5 rfl
    have l5:=g5.le
    have gC:=gA.trans (g5.weaken (by omega))
    have b1:=(gC.own n (by omega)).trans a1
    have b2:=(gC.own (n + 1) (by omega)).trans a2
    clear hLd gA uA w1 w2 p1 q1
    simp only [↓E1,E2,zA,zB,zC,zD,zE,zF,zG,zH,zI,zJ,zK,zL,zM,zN,reduceIte,zO,zP, *]
    try exact hY rfl _ _ _ ⟨g4.trans (gC.weaken (by omega)),by omega,b1,b2,by simp [updN,updE, *],by simp [updN,updE, *],by simp [updN,updE, *]⟩
  · rintro e mu4 n4 K ⟨g4,a0,a1,a2,e2,e3,e5⟩ hY
    clear c1 c2
    have hlt : (r.dos.length < r.dos.length) = False:=by simp
    have w1:=look_with (fz:=fz) a1
    rw [dc_at l_ref16_Same_2.eq_1]
    simp only [↓E1,E2,zA,zB,zC,zD,zE,zF,zG,zH,zI,zJ,zK,zL,zM,zN,reduceIte,zO,zP, *]
    try exact hY _ _ _ ⟨g4,a0,a1,a2,by simp [updN,updE, *],by simp [updN,updE, *],by simp [updN,updE, *]⟩
  clear gg l1 c1 c2 e2 e3 e5
  rintro - e mu1 n1 ⟨gg,l1,c1,c2,e2,e3,e5⟩
  simp only [↓E1,E2,zA,zB,zC,zD,zE,zF,zG,zH,zI,zJ,zK,zL,zM,zN,reduceIte,zO,zP, *]
  exact h'.out _ _ gg
end Go.Proofs.YtnnjlnkoomeadaaGreat.Pv
namespace Go.Proofs.YtnnjlnkoomeadaaGreat.Pv
open Go.Ev Go.Ev.Rp
set_option maxRecDepth 100000
set_option maxHeartbeats 4000000
set_option linter.unusedSimpArgs false
set_option linter.unusedVariables false
set_option linter.unusedSectionVars false
variable {P : Program} (H : Fs P)
include H
theorem ref4_SameAll (l : List Msg) (x y : SV) (hl : l.length ≤ 1152921504606846976) (hz : ∀ m ∈ l,MsgSz m) : BoolC P n_ref4_SameAll [.one x,.one y] (λM=>MsgsR M x l ∧ MsgsR M y l) true:=boolC H.mx H.ref4_SameAll (l.length + 1) λfz mu n k hfr g0 hx h=>by
  obtain ⟨s1,s2⟩:=hx
  obtain ⟨xl,xs,xk,xm⟩:=msgs_len s1
  obtain ⟨yl,ys,yk,ym⟩:=msgs_len s2
  rw [i_ref4_SameAll,dc_at b_ref4_SameAll.eq_1]
  simp only [↓E1,E2,zA,zB,zC,zD,zE,zF,zG,zH,zI,zJ,zK,zL,zM,zN,reduceIte,zO,zP, *]
  refine scan (x:=0) (L:=l.length) (q:=0) (r:=5) (p:=λ_=>true) (λe mu' n'=>Gr n fz mu mu' n n' ∧ e 0 0 = .one x ∧ e 0 1 = .one y) (λe=>True) (λ_ _ _ h=>h.1.free) ?_ ?_ l.length 0 (l.length + 1) _ _ _ _ _ (by omega) (by omega) (by omega) ⟨Gr.refl hfr,?_,?_⟩ ?_ ?_ ?_
  · rintro i e mu4 n4 K hi ⟨g4,e2,e3⟩ hc hY hn
    have u4:=g4.sub hfr (Nat.le_refl _)
    have hw:=wrap_succ hi (by omega)
    obtain ⟨id,off,cap,B,a,a',rfl,p1,p2,p3,p4,p5,p6⟩:=msgs_elem (MsgsR.mono u4 s1) hi
    obtain ⟨id2,off2,cap2,B3,b,b',rfl,q1,q2,q3,q4,q5,q6⟩:=msgs_elem (MsgsR.mono u4 s2) hi
    have hs:=hz _ (List.getElem_mem hi)
    have hL:=ref4_Same H l[i] a a' b b' hs.bat hs.log
    unfold msgC at p4 q4 hL
    rw [dc_at l_ref4_SameAll_0.eq_1]
    simp only [↓E1,E2,zA,zB,zC,zD,zE,zF,zG,zH,zI,zJ,zK,zL,zM,zN,reduceIte,zO,zP, *]
    refine hL.d2 g4.free ⟨p5,p6,q5,q6⟩ ?_
    rintro v new n5 g5 rfl
    simp only [↓E1,E2,zA,zB,zC,zD,zE,zF,zG,zH,zI,zJ,zK,zL,zM,zN,reduceIte,zO,zP, *]
    exact hY rfl _ _ _ g5 ⟨g4.trans (g5.weaken g4.le),by simp [updN,updE, *],by simp [updN,updE, *]⟩ (by simp [updN,updE, *])
  · rintro e mu4 n4 K ⟨g4,e2,e3⟩ hc hY
    rw [dc_at l_ref4_SameAll_0.eq_1]
    have hlt : (l.length < l.length) = False:=by simp
    simp only [↓E1,E2,zA,zB,zC,zD,zE,zF,zG,zH,zI,zJ,zK,zL,zM,zN,reduceIte,zO,zP, *]
    exact hY _ _ _ (Gr.refl g4.free) ⟨g4,by simp [updN,updE,e2],by simp [updN,updE,e3]⟩
  · simp [updN,updE,envI]
  · simp [updN,updE,envI]
  · simp [updN,updE,envI]
  · rintro ha e' mu' n' g ⟨g4,e2,e3⟩
    simp only [↓E1,E2,zA,zB,zC,zD,zE,zF,zG,zH,zI,zJ,zK,zL,zM,zN,reduceIte,zO,zP, *]
    try exact h _ _ g4
  · rintro ⟨j,j1,j2,j3⟩
    cases j3
end Go.Proofs.YtnnjlnkoomeadaaGreat.Pv
namespace Go.Proofs.YtnnjlnkoomeadaaGreat.Pv
open Go.Ev Go.Ev.Rp
set_option maxRecDepth 100000
set_option maxHeartbeats 4000000
set_option linter.unusedSimpArgs false
set_option linter.unusedVariables false
set_option linter.unusedSectionVars false
theorem tag_rg {o : Nat → Nat} {n n' t : Nat} {fz : Fz} {mu : St} (ht : t ≠ 0) (ho : ∀ j,j < n → o j = 0) (hf : Free fz mu n') : Sub (Tag o t (with' mu fz)) (Rg n n' (with' mu fz)):=λj B hj=>by
  obtain ⟨h1,h2⟩:=Tag.el hj
  refine Rg.at ?_ (hf.lt h2) h2
  rcases Nat.lt_or_ge j n with h | h
  · exact absurd (h1.symm.trans (ho j h)) ht
  · exact h
theorem tag28_rg {o : Nat → Nat} {n n' : Nat} {fz : Fz} {mu : St} (ho : ∀ j,j < n → o j = 0) (hf : Free fz mu n') : Sub (Tag28 o (with' mu fz)) (Rg n n' (with' mu fz)):=λj B hj=>by
  obtain ⟨h1,h2⟩:=Tag28.el hj
  refine Rg.at ?_ (hf.lt h2) h2
  rcases Nat.lt_or_ge j n with h | h
  · rw [ho j h] at h1; omega
  · exact h
theorem rep_rg {o : Nat → Nat} {n n' : Nat} {fz : Fz} {mu : St} (ho : ∀ j,j < n → o j = 0) (hf : Free fz mu n') {r : Rep} {xe xa xs xd : SV} (h : RepT o (with' mu fz) r xe xa xs xd) : RepS (Rg n n' (with' mu fz)) r xe xa xs xd:=by
  obtain ⟨⟨cs,h1,h2⟩,h3,h4,ds,h5,h6⟩:=h
  exact ⟨⟨cs,(h1.mono (tag_rg (by decide) ho hf)).to,h2.imp λc a g=>(EntX.mono (tag_rg (by decide) ho hf) g).to⟩,(IntsX.mono (tag_rg (by decide) ho hf) h3).to,(IntsX.mono (tag_rg (by decide) ho hf) h4).to,⟨ds,(h5.mono (tag_rg (by decide) ho hf)).to,h6.imp λc a g=>(DvX.mono (tag_rg (by decide) ho hf) g).to⟩⟩
theorem out_rg {o : Nat → Nat} {n n' : Nat} {fz : Fz} {mu : St} (ho : ∀ j,j < n → o j = 0) (hf : Free fz mu n') {x : SV} {l : List Msg} (h : OutT o (with' mu fz) x l) : MsgsR (Rg n n' (with' mu fz)) x l:=by
  obtain ⟨cs,h1,h2⟩:=h
  exact ⟨cs,(h1.mono (tag_rg (by decide) ho hf)).to,h2.imp λc a g=>by
    obtain ⟨xb,xe,e,h3,h4⟩:=MsgX.mono (tag28_rg ho hf) g
    exact ⟨xb,xe,e,h3.to,h4.to⟩⟩
end Go.Proofs.YtnnjlnkoomeadaaGreat.Pv
namespace Go.Proofs.YtnnjlnkoomeadaaGreat.Pv
open Go.Ev Go.Ev.Rp
set_option maxRecDepth 100000
set_option maxHeartbeats 4000000
set_option linter.unusedSimpArgs false
set_option linter.unusedVariables false
set_option linter.unusedSectionVars false
theorem Rg.mono {lo hi : Nat} {M M' : Fz} (h : Sub M M') : Sub (Rg lo hi M) (Rg lo hi M'):=λj B g=>Rg.at (Rg.el g).1 (Rg.el g).2.1 (h _ _ (Rg.el g).2.2)
theorem SpR.gr1 {lo hi : Nat} {fz : Fz} {mu mu' : St} {n n' : Nat} (h : SpR lo hi fz mu mu' n n') (hl : lo ≤ n) : Gr lo fz mu mu' n n' :=
  ⟨h.le,λid hi=>with_congr (h.out id (by omega) (by omega)),λid hi=>h.out id (by omega) (by omega),h.free⟩
theorem ents_one {M : Fz} {id : Nat} {e : Ent} {b : SV} (h : M id = some (entC e b)) (hp : PtsR M b e.batch) : EntsR M (.osl id 0 1 1 5) [e]:=by
  obtain ⟨-,-,bk,bm⟩:=hp.len
  refine ⟨[entC e b],.inr ⟨id,0,1,entC e b,rfl,Nat.le_refl _,h,?_,by simp [entC],by simp [entC],?_⟩,⟨b,rfl,hp⟩,trivial⟩
  · simp [entC,mkd,bm,I,SV.isMk]
  · intro c hc
    obtain rfl:=List.mem_singleton.1 hc
    exact ⟨rfl,by simp [entC,bk,knownAll_cons,I]; exact ⟨rfl,rfl,rfl,rfl,rfl⟩⟩
variable {P : Program} (H : Fs P)
include H
theorem law17_ReplicaProposes (aw : BoolC P n_law17_awake [] (fun _ => True) true) (r : Rep) (xe xa xs xd : SV) (e : Ent) (b : SV) (hz : RepSz r) (hl : LndSz r) (hzb : e.batch.length ≤ 4398046511102) (hok1 : Ok r.log) (hok2 : ∀ d ∈ r.dos, Ok d.log)
    (hA : RepSz (proposeS r e).1) (hP : ∀ m ∈ (proposeS r e).2.1,MsgSz m) (hPl : (proposeS r e).2.1.length ≤ 1152921504606846976) : BoolC P n_law17_ReplicaProposes [.ag (repC r xe xa xs xd),.ag (entC e b)] (λM=>RepS M r xe xa xs xd ∧ PtsR M b e.batch) true:=boolC H.mx H.law17_ReplicaProposes 0 λfz mu n k hfr gg s hk=>by
  obtain ⟨s1,s2⟩:=s
  obtain ⟨-,-,xek,xem⟩:=s1.1.len
  obtain ⟨-,-,xak,xam⟩:=s1.2.1.len
  obtain ⟨-,-,xsk,xsm⟩:=s1.2.2.1.len
  obtain ⟨-,-,xdk,xdm⟩:=s1.2.2.2.len
  obtain ⟨-,-,bk,bm⟩:=s2.len
  have hLR:=law0_LendReplica H r xe xa xs xd hl
  have hLE:=λx=>law0_LendEntries H x [e] (by simp) (by simpa using hzb)
  rw [i_law17_ReplicaProposes,dc_at b_law17_ReplicaProposes.eq_1]
  have gA : Gr n fz mu ((n + 1,entC e b) :: (n,repC r xe xa xs xd) :: mu) n (n + 1 + 1):=gr2 hfr
  have b1 : Ev.look ((n + 1,entC e b) :: (n,repC r xe xa xs xd) :: mu) n = some (repC r xe xa xs xd):=by rw [look_c,if_neg (by omega),look_c,if_pos rfl]
  have b2 : Ev.look ((n + 1,entC e b) :: (n,repC r xe xa xs xd) :: mu) (n + 1) = some (entC e b):=by rw [look_c,if_pos rfl]
  have hRR:=RepS.mono (gA.sub hfr (Nat.le_refl _)) s1
  have hPP:=PtsR.mono (gA.sub hfr (Nat.le_refl _)) s2
  unfold repC entC at *
  simp only [↓E1,E2,zA,zB,zC,zD,zE,zF,zG,zH,zI,zJ,zK,zL,zM,zN,reduceIte,zO,zP, *]
  generalize hm1 : ((n + 1,_) :: _ : St) = m1 at gA b1 b2 hRR hPP ⊢
  clear hm1
  have wb1:=look_with (fz:=fz) b1
  have wb2:=look_with (fz:=fz) b2
  refine hLR.d4 gA.free hRR ?_
  rintro v new n2 g2 i2 ⟨ide,ida,ids,xd',rfl,hX⟩
  have l2:=g2.le
  have c1:=(g2.own n (by omega)).trans b1
  have c2:=(g2.own (n + 1) (by omega)).trans b2
  simp only [↓E1,E2,zA,zB,zC,zD,zE,zF,zG,zH,zI,zJ,zK,zL,zM,zN,reduceIte,zO,zP, *]
  have gB:=gA.trans (g2.weaken (by omega))
  have gC:=gB.cons (by omega) (entC e b)
  have wn : with' ((n2,entC e b) :: (new ++ m1)) fz n2 = some (entC e b):=look_with (by rw [look_c,if_pos rfl])
  have hp1:=PtsR.mono (gC.sub hfr (Nat.le_refl _)) s2
  have d1 : Ev.look ((n2,entC e b) :: (new ++ m1)) n = _:=(look_c ..).trans ((if_neg (by omega)).trans c1)
  have d2 : Ev.look ((n2,entC e b) :: (new ++ m1)) (n + 1) = _:=(look_c ..).trans ((if_neg (by omega)).trans c2)
  unfold entC at gC d1 d2
  refine (hLE _).d4 gC.free (ents_one wn hp1) ?_
  rintro v new2 n3 g3 i3 ⟨idy,rfl,hY⟩
  have l3:=g3.le
  have hS : ∀ id,Ev.look (new ++ (new2 ++ [(n2,entC e b)]) ++ m1) id = Ev.look (new2 ++ ((n2,entC e b) :: (new ++ m1))) id:=λid=>by
    rw [List.append_assoc,look_swap (a:=new) (b:=new2 ++ [(n2,entC e b)])]
    · simp
    · intro hn
      have h1:=i2 id hn
      rw [look_append,i2.apart i3 (.inl (by omega)) hn]
      exact (look_c ..).trans (if_neg (by omega))
  have gD:=((gC.trans (g3.weaken (by omega))).congr hS)
  have wS:=with_fun (fz:=fz) hS
  replace hY : LentE (n2 + 1) (with' (new ++ (new2 ++ [(n2,entC e b)]) ++ m1) fz) idy [e]:=by rw [wS]; exact hY
  have hX3 : LentR (with' (new ++ (new2 ++ [(n2,entC e b)]) ++ m1) fz) r ide ida ids xd':=by
    rw [wS]
    exact LentR.mono (((Gr.refl g2.free).cons (Nat.le_refl _) _ |>.trans (g3.weaken (by omega))).sub g2.free (Nat.le_refl _)) hX
  have d3:=(hS n).trans ((g3.own n (by omega)).trans d1)
  have d4:=(hS (n + 1)).trans ((g3.own (n + 1) (by omega)).trans d2)
  unfold entC at gD hS wS hY hX3 d3 d4
  generalize hm3 : new ++ (new2 ++ [(n2,_)]) ++ m1 = m3 at gD hY hX3 d3 d4
  clear hS wS gC g3 wn
  have hXr:=hX3.rs
  obtain ⟨-,-,xdk',xdm'⟩:=hXr.2.2.2.len
  obtain ⟨BY,idp,hB,hBm,hBl,hB5,hBP⟩:=hY.elem (i:=0) (by simp)
  have hBl : 5 ≤ BY.length:=by simpa using hBl
  have hB5 : BY.take 5 = entC e (.osl idp 0 e.batch.length (e.batch.length + 2) 3):=by simpa using hB5
  unfold entC at hB5
  have hne : (n3 = idy) = False:=by have:=gD.free.lt hB; simp; omega
  simp only [↓E1,E2,zA,zB,zC,zD,zE,zF,zG,zH,zI,zJ,zK,zL,zM,zN,reduceIte,zO,zP, *]
  generalize hRX : [I r.me,I r.nodes,I r.view,I r.normal,I r.status,I r.commit,SV.bool r.sent,I r.log.base,r.log.snap.sv,SV.osl ide 0 r.log.ents.length (r.log.ents.length + 1) 5,SV.osl ida 0 r.acks.length (r.acks.length + 2) 1,SV.osl ids 0 r.starts.length (r.starts.length + 2) 1,xd'] = RX
  have l3' : n + 2 ≤ n3:=by omega
  have gE:=gD.cons (by omega) RX
  have f1 : Ev.look ((n3,RX) :: m3) n = _:=(look_c ..).trans ((if_neg (by omega)).trans d3)
  have f2 : Ev.look ((n3,RX) :: m3) (n + 1) = _:=(look_c ..).trans ((if_neg (by omega)).trans d4)
  have f3 : Ev.look ((n3,RX) :: m3) n3 = some RX:=(look_c ..).trans (if_pos rfl)
  have q4 : Gr n3 fz m3 ((n3,RX) :: m3) n3 (n3 + 1):=(Gr.refl gD.free).cons (Nat.le_refl _) RX
  have uE : Sub (with' m3 fz) (with' ((n3,RX) :: m3) fz):=((Gr.refl gD.free).cons (Nat.le_refl _) RX).sub gD.free (Nat.le_refl _)
  generalize hm4 : (n3,RX) :: m3 = m4 at gE f1 f2 f3 uE q4 ⊢
  have hov : over [SV.int IntKind.i64 0,SV.int IntKind.i64 0,SV.int IntKind.i64 0,SV.int IntKind.i64 0,SV.int IntKind.i64 0,SV.int IntKind.i64 0,SV.bool false,SV.int IntKind.i64 0,SV.str 0 0,SV.nsl,SV.nsl,SV.nsl,SV.nsl] 0 RX = RX:=by rw [← hRX]; rfl
  have hPr:=replica_Propose H r (.osl ide 0 r.log.ents.length (r.log.ents.length + 1) 5) (.osl ida 0 r.acks.length (r.acks.length + 2) 1) (.osl ids 0 r.starts.length (r.starts.length + 2) 1) xd' e (.osl idp 0 e.batch.length (e.batch.length + 2) 3) hz (by omega)
  unfold repC entC at hPr
  rw [hRX] at hPr
  refine hPr.d4 gE.free ⟨RepS.mono uE hXr,PtsR.mono uE hBP.sl⟩ ?_
  rintro v new3 n4 g4 i4 ⟨ye,ya,ys,yd,xo,o,rfl,ho,hRT,hOT⟩
  have l4:=g4.le
  have hA1:=rep_rg ho g4.free hRT
  have hO1:=out_rg ho g4.free hOT
  obtain ⟨-,-,yek,yem⟩:=hA1.1.len
  obtain ⟨-,-,yak,yam⟩:=hA1.2.1.len
  obtain ⟨-,-,ysk,ysm⟩:=hA1.2.2.1.len
  obtain ⟨-,-,ydk,ydm⟩:=hA1.2.2.2.len
  obtain ⟨-,-,ok,om⟩:=msgs_len hO1
  have h1:=(g4.own n (by omega)).trans f1
  have h2:=(g4.own (n + 1) (by omega)).trans f2
  have h3:=(g4.own n3 (by omega)).trans f3
  have v1:=look_with (fz:=fz) h1
  have v2:=look_with (fz:=fz) h2
  have v3:=look_with (fz:=fz) h3
  have k1 : (n4 = n) = False:=by simp; omega
  have k2 : (n4 = n + 1) = False:=by simp; omega
  have k3 : (n4 = n3) = False:=by simp; omega
  unfold repC
  simp only [↓E1,E2,zA,zB,zC,zD,zE,zF,zG,zH,zI,zJ,zK,zL,zM,zN,reduceIte,zO,zP, *]
  generalize hRA : [I (proposeS r e).fst.me,I (proposeS r e).fst.nodes,I (proposeS r e).fst.view,I (proposeS r e).fst.normal,I (proposeS r e).fst.status,I (proposeS r e).fst.commit,SV.bool (proposeS r e).fst.sent,I (proposeS r e).fst.log.base,(proposeS r e).fst.log.snap.sv,ye,ya,ys,yd] = RA
  have gF0:=gE.trans (g4.weaken (by omega))
  have gF:=gF0.cons (by omega) RA
  have gU:=((Gr.refl g4.free).cons (Nat.le_refl _) RA).sub g4.free (Nat.le_refl _)
  have hA2:=RepS.mono (Rg.mono gU) hA1
  have hO2:=MsgsR.mono (Rg.mono gU) hO1
  have hX4:=LentR.mono gU (LentR.mono (g4.sub gE.free (Nat.le_refl _)) (LentR.mono uE hX3))
  have hY4:=LentE.mono gU (LentE.mono (g4.sub gE.free (Nat.le_refl _)) (LentE.mono uE hY))
  have p1 : Ev.look ((n4,RA) :: (new3 ++ m4)) n = _:=(look_c ..).trans ((if_neg (by omega)).trans h1)
  have p2 : Ev.look ((n4,RA) :: (new3 ++ m4)) (n + 1) = _:=(look_c ..).trans ((if_neg (by omega)).trans h2)
  have p3 : Ev.look ((n4,RA) :: (new3 ++ m4)) n3 = _:=(look_c ..).trans ((if_neg (by omega)).trans h3)
  have p4 : Ev.look ((n4,RA) :: (new3 ++ m4)) n4 = some RA:=(look_c ..).trans (if_pos rfl)
  have q5:=(q4.trans (g4.weaken (by omega))).cons (by omega) RA
  generalize hm5 : (n4,RA) :: (new3 ++ m4) = m5 at gF p1 p2 p3 p4 hA2 hO2 hX4 hY4 q5 ⊢
  clear hm5 gU hA1 hO1 hRT hOT ho
  have uF:=gF.sub hfr (Nat.le_refl _)
  have hRp:=ref16_Propose H r xe xa xs xd e b hz (by omega) hok1 hok2
  unfold repC entC at hRp
  refine hRp.c1 gF.free ⟨RepS.mono uF s1,PtsR.mono uF s2⟩ ?_
  rintro v m6 n6 g6 ⟨ze,za,zs,zd,zo,o2,rfl,ho2,hRT2,hOT2⟩
  have l6:=g6.le
  have uG:=g6.sub gF.free (Nat.le_refl _)
  have hA3:=RepS.mono (Rg.mono uG) hA2
  have hO3:=MsgsR.mono (Rg.mono uG) hO2
  have hX5:=LentR.mono uG hX4
  have hY5:=LentE.mono uG hY4
  have hS1:=RepS.mono Rg.sub (rep_rg ho2 g6.free hRT2)
  have hQ1:=MsgsR.mono Rg.sub (out_rg ho2 g6.free hOT2)
  obtain ⟨-,-,zek,zem⟩:=hS1.1.len
  obtain ⟨-,-,zak,zam⟩:=hS1.2.1.len
  obtain ⟨-,-,zsk,zsm⟩:=hS1.2.2.1.len
  obtain ⟨-,-,zdk,zdm⟩:=hS1.2.2.2.len
  obtain ⟨-,-,qk,qm⟩:=msgs_len hQ1
  replace p1:=(g6.own n (by omega)).trans p1
  replace p2:=(g6.own (n + 1) (by omega)).trans p2
  replace p3:=(g6.own n3 (by omega)).trans p3
  replace p4:=(g6.own n4 (by omega)).trans p4
  have r1:=look_with (fz:=fz) p1
  have r2:=look_with (fz:=fz) p2
  have r3:=look_with (fz:=fz) p3
  have r4:=look_with (fz:=fz) p4
  have t1 : (n6 = n) = False:=by simp; omega
  have t2 : (n6 = n + 1) = False:=by simp; omega
  have t3 : (n6 = n3) = False:=by simp; omega
  have t4 : (n6 = n4) = False:=by simp; omega
  subst hRA
  unfold repC
  simp only [↓E1,E2,zA,zB,zC,zD,zE,zF,zG,zH,zI,zJ,zK,zL,zM,zN,reduceIte,zO,zP, *]
  generalize hRS : [I (proposeS r e).fst.me,I (proposeS r e).fst.nodes,I (proposeS r e).fst.view,I (proposeS r e).fst.normal,I (proposeS r e).fst.status,I (proposeS r e).fst.commit,SV.bool (proposeS r e).fst.sent,I (proposeS r e).fst.log.base,(proposeS r e).fst.log.snap.sv,ze,za,zs,zd] = RS
  have gG:=gF.trans (g6.weaken (by omega))
  have gH:=gG.cons (by omega) RS
  have uH:=((Gr.refl g6.free).cons (Nat.le_refl _) RS).sub g6.free (Nat.le_refl _)
  have hA4:=RepS.mono (Rg.mono uH) hA3
  have hO4:=MsgsR.mono (Rg.mono uH) hO3
  have hX6:=LentR.mono uH hX5
  have hY6:=LentE.mono uH hY5
  have hS2:=RepS.mono uH hS1
  have hQ2:=MsgsR.mono uH hQ1
  replace p1 : Ev.look ((n6,RS) :: m6) n = _:=(look_c ..).trans ((if_neg (by omega)).trans p1)
  replace p2 : Ev.look ((n6,RS) :: m6) (n + 1) = _:=(look_c ..).trans ((if_neg (by omega)).trans p2)
  replace p3 : Ev.look ((n6,RS) :: m6) n3 = _:=(look_c ..).trans ((if_neg (by omega)).trans p3)
  replace p4 : Ev.look ((n6,RS) :: m6) n4 = _:=(look_c ..).trans ((if_neg (by omega)).trans p4)
  have q7:=(q5.trans (g6.weaken (by omega))).cons (by omega) RS
  generalize hm7 : (n6,RS) :: m6 = m7 at gH p1 p2 p3 p4 hA4 hO4 hX6 hY6 hS2 hQ2 q7 ⊢
  clear hm7 uH uG hX4 hX5 hY4 hY5 hA2 hA3 hO2 hO3 hS1 hQ1 hRT2 hOT2 r1 r2 r3 r4
  have hSm:=ref16_Same H (proposeS r e).1 ye ya ys yd ze za zs zd hA
  unfold repC at hSm
  rw [hRS] at hSm
  refine hSm.c1 gH.free ⟨RepS.mono Rg.sub hA4,hS2⟩ ?_
  rintro v m8 n8 g8 rfl
  have l8:=g8.le
  have uI:=g8.sub gH.free (Nat.le_refl _)
  simp only [↓E1,E2,zA,zB,zC,zD,zE,zF,zG,zH,zI,zJ,zK,zL,zM,zN,reduceIte,zO,zP, *]
  refine (ref4_SameAll H _ _ _ hPl hP).c1 g8.free ⟨MsgsR.mono uI (MsgsR.mono Rg.sub hO4),MsgsR.mono uI hQ2⟩ ?_
  rintro v m9 n9 g9 rfl
  have l9:=g9.le
  have g89:=g8.trans (g9.weaken l8)
  have uJ:=g89.sub gH.free (Nat.le_refl _)
  replace p1:=(g89.own n (by omega)).trans p1
  replace p2:=(g89.own (n + 1) (by omega)).trans p2
  replace p3:=(g89.own n3 (by omega)).trans p3
  replace p4:=(g89.own n4 (by omega)).trans p4
  have r1:=look_with (fz:=fz) p1
  have r2:=look_with (fz:=fz) p2
  have r3:=look_with (fz:=fz) p3
  have r4:=look_with (fz:=fz) p4
  have gI:=gH.trans (g89.weaken (by omega))
  have hA5:=RepS.mono (Rg.mono uJ) hA4
  have hO5:=MsgsR.mono (Rg.mono uJ) hO4
  simp only [↓E1,E2,zA,zB,zC,zD,zE,zF,zG,zH,zI,zJ,zK,zL,zM,zN,reduceIte,zO,zP, *]
  have q9:=q7.trans (g89.weaken (by omega))
  have hfz : ∀ j,n3 + 1 ≤ j → fz j = none:=λj hj=>hfr.fz j (by omega)
  refine spoil_replica H hfz (proposeS r e).1 (Le:=(proposeS r e).1.log.ents.length) (Ld:=(proposeS r e).1.dos.length) (bd:=4398046511104) (by have:=hA.log.ents; omega) (by have:=hA.acks; omega) (by have:=hA.starts; omega) (by have:=hA.dos; omega) (by omega) g9.free (by omega) ⟨_,rfl,hA.log.bat,hA5.1⟩ hA5.2.1 hA5.2.2.1 ⟨_,rfl,λm hm=>⟨by have:=(hA.dlog m hm).ents; omega,(hA.dlog m hm).bat⟩,hA5.2.2.2⟩ ?_
  intro m10 n10 hSp
  have l10:=hSp.le
  have hO6:=MsgsK.sim (hSp.sim hfz) (x:=xo) (L:=(proposeS r e).2.1.length) (b:=4398046511104) ⟨_,rfl,λm hm=>⟨(hP m hm).bat,by have:=(hP m hm).log.ents; omega,(hP m hm).log.bat⟩,hO5⟩
  simp only [↓E1,E2,zA,zB,zC,zD,zE,zF,zG,zH,zI,zJ,zK,zL,zM,zN,reduceIte,zO,zP, *]
  refine spoil_messages H hfz hPl (by omega) hSp.free (by omega) hO6 ?_
  intro m11 n11 hSp2
  have l11:=hSp2.le
  have gS:=(hSp.trans hSp2).gr1 (by omega)
  have gJ:=gI.trans (gS.weaken (by omega))
  have q11:=q9.trans (gS.weaken (by omega))
  have uQ:=q11.sub gD.free (Nat.le_refl _)
  replace p1:=(gS.own n (by omega)).trans p1
  replace p2:=(gS.own (n + 1) (by omega)).trans p2
  replace p3:=(gS.own n3 (by omega)).trans p3
  replace r1:=look_with (fz:=fz) p1
  replace r2:=look_with (fz:=fz) p2
  replace r3:=look_with (fz:=fz) p3
  clear r4 p4
  have hKr:=law0_KeptReplica H r ide ida ids xd' xe xa xs xd hl
  unfold repC at hKr
  subst hRX
  simp only [↓E1,E2,zA,zB,zC,zD,zE,zF,zG,zH,zI,zJ,zK,zL,zM,zN,reduceIte,zO,zP, *]
  refine hKr.c1 gJ.free ⟨LentR.mono uQ hX3,RepS.mono (gJ.sub hfr (Nat.le_refl _)) s1⟩ ?_
  rintro v m12 n12 g12 rfl
  have l12:=g12.le
  have gK:=gJ.trans (g12.weaken (by omega))
  have q12:=q11.trans (g12.weaken (by omega))
  replace p2:=(g12.own (n + 1) (by omega)).trans p2
  replace r2:=look_with (fz:=fz) p2
  simp only [↓E1,E2,zA,zB,zC,zD,zE,zF,zG,zH,zI,zJ,zK,zL,zM,zN,reduceIte,zO,zP, *]
  have gN:=gK.cons (by omega) (entC e b)
  have q13:=q12.cons (by omega) (entC e b)
  have wn2 : with' ((n12,entC e b) :: m12) fz n12 = some (entC e b):=look_with (by rw [look_c,if_pos rfl])
  have hp2:=PtsR.mono (gN.sub hfr (Nat.le_refl _)) s2
  have hKe:=law0_KeptEntries H idy (n2 + 1) (.osl n12 0 1 1 5) [e] (by simp) (by simp; omega)
  refine hKe.c1 gN.free ⟨LentE.mono (q13.sub gD.free (Nat.le_refl _)) hY,ents_one wn2 hp2⟩ ?_
  rintro v m14 n14 g14 rfl
  have l14:=g14.le
  have gO:=gN.trans (g14.weaken (by omega))
  simp only [↓E1,E2,zA,zB,zC,zD,zE,zF,zG,zH,zI,zJ,zK,zL,zM,zN,reduceIte,zO,zP, *]
  refine aw.c1 gO.free trivial ?_
  rintro v m15 n15 g15 rfl
  simp only [↓E1,E2,zA,zB,zC,zD,zE,zF,zG,zH,zI,zJ,zK,zL,zM,zN,reduceIte,zO,zP, *]
  exact hk _ _ (gO.trans (g15.weaken (by omega)))
end Go.Proofs.YtnnjlnkoomeadaaGreat.Pv
namespace Go.Proofs.YtnnjlnkoomeadaaGreat.Pv
open Go.Ev Go.Ev.Rp
set_option maxRecDepth 100000
set_option maxHeartbeats 4000000
set_option linter.unusedSimpArgs false
set_option linter.unusedVariables false
set_option linter.unusedSectionVars false
theorem prop_sz {r : Rep} {e : Ent} (hz : RepSz r) (hb : e.batch.length ≤ 4398046511104) : RepSz (proposeS r e).1 ∧ ∀ m ∈ (proposeS r e).2.1,MsgSz m:=by
  unfold proposeS
  by_cases hp : propB r e = true
  · have hr : repB r = true := by
      rcases prop_cases r e with h | h
      · exact h.2.1
      · rw [hp] at h; cases h.1
    have he:=rep_ents hr
    rw [if_pos hp]
    have hlog : LgSz (addE r { e with view:=r.view }).log:=⟨by simp [addE]; omega,λx hx=>by
      simp only [addE,List.mem_append,List.mem_singleton] at hx
      rcases hx with hx | rfl
      · exact hz.log.bat x hx
      · exact hb⟩
    refine ⟨?_,λm hm=>?_⟩
    · dsimp only
      unfold propR
      split
      · exact ⟨hlog,hz.acks,hz.starts,hz.dos,hz.dlog⟩
      · exact ⟨hlog,hz.acks,hz.starts,hz.dos,hz.dlog⟩
    · dsimp only at hm
      unfold allM at hm
      obtain ⟨j,-,rfl⟩:=List.mem_map.1 hm
      exact ⟨hb,⟨by simp [prepM],λx hx=>by simp [prepM] at hx⟩⟩
  · rw [if_neg hp]
    exact ⟨hz,λm hm=>by cases hm⟩
theorem prop_len (r : Rep) (e : Ent) : (proposeS r e).2.1.length ≤ 1152921504606846976:=by
  unfold proposeS
  by_cases hp : propB r e = true
  · have hr : repB r = true := by
      rcases prop_cases r e with h | h
      · exact h.2.1
      · rw [hp] at h; cases h.1
    have h7 : r.nodes.toNat ≤ 7:=by rcases nodes_cases (rep_nodes hr) with h | h | h | h <;> omega
    rw [if_pos hp]
    dsimp only
    unfold allM
    have:=List.length_filter_le (λ(j : Nat)=>!decide ((j : Int) = r.me)) (List.range r.nodes.toNat)
    rw [List.length_range] at this
    rw [List.length_map]
    omega
  · rw [if_neg hp]
    simp
variable {P : Program} (H : Fs P)
include H
theorem law17_ReplicaProposes_all (aw : BoolC P n_law17_awake [] (fun _ => True) true) (r : Rep) (xe xa xs xd : SV) (e : Ent) (b : SV) (hz : RepSz r) (hl : LndSz r) (hzb : e.batch.length ≤ 4398046511102) :
    BoolC P n_law17_ReplicaProposes [.ag (repC r xe xa xs xd),.ag (entC e b)] (λM=>RepS M r xe xa xs xd ∧ PtsR M b e.batch) true :=
  law17_ReplicaProposes H aw r xe xa xs xd e b hz hl hzb (λe he=>by have:=hz.log.bat e he; omega) (λd hd e he=>by have:=(hz.dlog d hd).bat e he; omega) (prop_sz hz (by omega)).1 (prop_sz hz (by omega)).2 (prop_len r e)
end Go.Proofs.YtnnjlnkoomeadaaGreat.Pv
namespace Go.Ev
set_option linter.unusedVariables false
structure Imp (w : World) (n : Nat) (fz : Fz) (ρ : Rho) : Prop where
  fr : ∀ id,n ≤ id → fz id = none ∧ ρ id = none
  own : ∀ id cs,fz id = some cs → OwnR v0 ρ w id cs
theorem Imp.nil (w : World) : Imp w 0 (λ_=>none) (λ_=>none):=⟨λ_ _=>⟨rfl,rfl⟩,λ_ _ h=>by cases h⟩
theorem Imp.rel {w : World} {n : Nat} {fz : Fz} {ρ : Rho} (h : Imp w n fz ρ) : Rel v0 ρ fz [] w :=
  ⟨λid cs hh=>.inl (h.own id cs hh),λid cs h=>(by cases h),λid cs h=>(by cases h),λid id' p p' h=>(by cases h)⟩
theorem Imp.free {w : World} {n : Nat} {fz : Fz} {ρ : Rho} (h : Imp w n fz ρ) : Free fz [] n:=λj=>(h.fr _ (by omega)).1
theorem Imp.fresh {w : World} {n n' : Nat} {fz : Fz} {ρ : Rho} (h : Imp w n fz ρ) : FreshN ρ n n':=λid h1 _=>(h.fr id h1).2
structure ImpX (n : Nat) (fz : Fz) (ρ : Rho) (n' : Nat) (fz' : Fz) (ρ' : Rho) : Prop where
  le : n ≤ n'
  fz : Sub fz fz'
  rho : ∀ id p,ρ id = some p → ρ' id = some p
theorem ImpX.refl {n : Nat} {fz : Fz} {ρ : Rho} : ImpX n fz ρ n fz ρ:=⟨Nat.le_refl _,Sub.refl _,λ_ _ h=>h⟩
theorem ImpX.trans {n n' n'' : Nat} {fz fz' fz'' : Fz} {ρ ρ' ρ'' : Rho} (h : ImpX n fz ρ n' fz' ρ') (k : ImpX n' fz' ρ' n'' fz'' ρ'') : ImpX n fz ρ n'' fz'' ρ'' :=
  ⟨Nat.le_trans h.le k.le,h.fz.trans k.fz,λ_ _ g=>k.rho _ _ (h.rho _ _ g)⟩
theorem ImpX.vr {n n' : Nat} {fz fz' : Fz} {ρ ρ' : Rho} (h : ImpX n fz ρ n' fz' ρ') {w : World} {s : SV} {v : Value} (g : VR v0 ρ w s v) : VR v0 ρ' w s v:=g.mono h.rho λ_=>Nat.le_refl _
theorem ImpX.vrs {n n' : Nat} {fz fz' : Fz} {ρ ρ' : Rho} (h : ImpX n fz ρ n' fz' ρ') {w : World} {s : List SV} {v : List Value} (g : All2 (VR v0 ρ w) s v) : All2 (VR v0 ρ' w) s v:=g.imp λ_ _ g=>h.vr g
def Im (w : World) (n : Nat) (fz : Fz) (ρ : Rho) (vs : List Value) (q : Fz → List SV → Prop) : Prop :=
  ∃ n' fz' ρ' c,Imp w n' fz' ρ' ∧ ImpX n fz ρ n' fz' ρ' ∧ All2 (VR v0 ρ' w) c vs ∧ knownAll c = true ∧ q fz' c
theorem Im.seq {w : World} {n : Nat} {fz : Fz} {ρ : Rho} {vs us : List Value} {q r : Fz → List SV → Prop} (hq : ∀ {M M' c}, Sub M M' → q M c → q M' c) (h : Im w n fz ρ vs q) (k : ∀ n fz ρ, Imp w n fz ρ → Im w n fz ρ us r) :
    Im w n fz ρ (vs ++ us) λM c=>∃ a b,c = a ++ b ∧ q M a ∧ r M b:=by
  obtain ⟨n1,fz1,ρ1,a,h1,h2,h3,h4,h5⟩:=h
  obtain ⟨n2,fz2,ρ2,b,k1,k2,k3,k4,k5⟩:=k n1 fz1 ρ1 h1
  exact ⟨n2,fz2,ρ2,a ++ b,k1,h2.trans k2,(k2.vrs h3).append k3,by rw [knownAll_app,h4,k4]; rfl,a,b,rfl,hq k2.fz h5,k5⟩
theorem Im.one {w : World} {n : Nat} {fz : Fz} {ρ : Rho} (h : Imp w n fz ρ) {c : List SV} {vs : List Value} (hv : ∀ ρ,All2 (VR v0 ρ w) c vs) (hk : knownAll c = true) : Im w n fz ρ vs λ_ d=>d = c :=
  ⟨n,fz,ρ,c,h,.refl,hv ρ,hk,rfl⟩
theorem Im.mono {w : World} {n : Nat} {fz : Fz} {ρ : Rho} {vs : List Value} {q r : Fz → List SV → Prop} (h : Im w n fz ρ vs q) (hq : ∀ M c,q M c → r M c) : Im w n fz ρ vs r :=
  let ⟨n',fz',ρ',c,h1,h2,h3,h4,h5⟩:=h; ⟨n',fz',ρ',c,h1,h2,h3,h4,hq _ _ h5⟩
theorem imp_slice {w : World} {s : Nat} (hs : 0 < s) {a : Addr} {len cap : Nat} {C : Nat → List Value} (hcells : ∀ i, i < cap → w.cells? 0 (a.add (i * s)) s = some (C i)) (hle : len ≤ cap) (hcap : cap ≤ maxLen)
    {El : Fz → List SV → Nat → Prop} (hm : ∀ {M M' c i},Sub M M' → El M c i → El M' c i) (hel : ∀ i,i < len → ∀ n fz ρ,Imp w n fz ρ → Im w n fz ρ (C i) λM c=>El M c i)
    {n : Nat} {fz : Fz} {ρ : Rho} (h : Imp w n fz ρ) : Im w n fz ρ [.slice (some a) len cap] λM c=>∃ x css,c = [x] ∧ Sl M s x css ∧ css.length = len ∧ ∀ i (hi : i < css.length),El M css[i] i:=by
  have hlen : ∀ i,i < cap → (C i).length = s:=λi hi=>by
    have:=hcells i hi
    unfold World.cells? at this
    rw [if_pos (Nat.zero_le _)] at this
    have:=Go.mapM_some_length this
    simpa using this
  have hcell : ∀ i j,i < cap → j < s → w.cell? ((a.add (i * s)).add j) = (C i)[j]?:=λi j hi hj=>by
    have:=hcells i hi
    unfold World.cells? at this
    rw [if_pos (Nat.zero_le _)] at this
    exact Go.mapM_some_get this j j (by simp [hj])
  -- the elements
  have key : ∀ m,m ≤ len → ∃ (n' : Nat) (fz' : Fz) (ρ' : Rho) (css : List (List SV)),Imp w n' fz' ρ' ∧ ImpX n fz ρ n' fz' ρ' ∧ css.length = m ∧ (∀ i (hi : i < css.length),All2 (VR v0 ρ' w) css[i] (C i)) ∧ (∀ i (hi : i < css.length),knownAll css[i] = true) ∧ ∀ i (hi : i < css.length),El fz' css[i] i:=by
    intro m
    induction m with
    | zero=>exact λ_=>⟨n,fz,ρ,[],h,.refl,rfl,λi hi=>(by simp at hi),λi hi=>(by simp at hi),λi hi=>(by simp at hi)⟩
    | succ m ih =>
      intro hm1
      obtain ⟨n1,fz1,ρ1,css,g1,g2,g3,g4,g5,g6⟩:=ih (by omega)
      obtain ⟨n2,fz2,ρ2,c,k1,k2,k3,k4,k5⟩:=hel m (by omega) n1 fz1 ρ1 g1
      refine ⟨n2,fz2,ρ2,css ++ [c],k1,g2.trans k2,by simp [g3],λi hi=>?_,λi hi=>?_,λi hi=>?_⟩
      all_goals
        rcases Nat.lt_or_ge i css.length with h1 | h1
        · rw [List.getElem_append_left h1]
          first | exact k2.vrs (g4 i h1) | exact g5 i h1 | exact hm k2.fz (g6 i h1)
        · have : i = m:=by simp at hi; omega
          subst this
          rw [List.getElem_append_right h1]
          simp only [g3,Nat.sub_self,List.getElem_cons_zero]
          first | exact k3 | exact k4 | exact k5
  obtain ⟨n1,fz1,ρ1,css,g1,g2,g3,g4,g5,g6⟩:=key len (Nat.le_refl _)
  rcases Nat.eq_zero_or_pos len with h0 | h0
  · subst h0
    exact ⟨n1,fz1,ρ1,[.zsl],g1,g2,⟨⟨a,cap,rfl⟩,trivial⟩,rfl,.zsl,css,rfl,.inl ⟨.inr (.inr rfl),List.length_eq_zero_iff.1 g3⟩,g3,g6⟩
  · have hls : ∀ e ∈ css, e.length = s ∧ knownAll e = true := fun e he => by
      obtain ⟨i,hi,rfl⟩:=List.getElem_of_mem he
      exact ⟨by rw [(g4 i hi).length,hlen i (by omega)],g5 i hi⟩
    have hfl : css.flatten.length = len * s:=by rw [flat_length λe he=>(hls e he).1,g3]
    -- the block
    obtain ⟨B,ty,fr,hB,hsp⟩ : ∃ B ty fr,w.heap[a.block]? = some (.cells B ty fr) ∧ a.spot = none:=by
      have:=hcell 0 0 (by omega) hs
      rw [List.getElem?_eq_getElem (by rw [hlen 0 (by omega)]; exact hs),Nat.zero_mul] at this
      have ha : (a.add 0).add 0 = a:=by simp [Addr.add]
      rw [ha] at this
      unfold World.cell? at this
      split at this
      · rename_i c t f hc
        refine ⟨c,t,f,hc,?_⟩
        split at this
        · cases this
        · rename_i hns; simpa using hns
      · cases this
    have hadd : ∀ k,a.add k = ⟨a.block,a.off + k,none⟩:=λk=>by
      cases a with | mk b o sp =>
      simp only at hsp
      subst hsp
      simp only [Addr.add]
      split
      · rename_i h; subst h; rfl
      · rfl
    have hB2 : ∀ i j,i < cap → j < s → B[a.off + (i * s + j)]? = (C i)[j]?:=λi j hi hj=>by
      rw [← hcell i j hi hj,hadd]
      have : (⟨a.block,a.off + i * s,none⟩ : Addr).add j = ⟨a.block,a.off + i * s + j,none⟩:=by
        simp only [Addr.add]
        split
        · rename_i h; subst h; rfl
        · rfl
      rw [this,Nat.add_assoc]
      simp only [World.cell?,hB]
      rfl
    have hsz : a.off + cap * s ≤ B.size:=by
      have h1:=hB2 (cap - 1) (s - 1) (by omega) (by omega)
      rw [List.getElem?_eq_getElem (by rw [hlen _ (by omega)]; omega)] at h1
      have h2:=(Array.getElem?_eq_some_iff.1 h1).1
      have h3 : (cap - 1) * s + (s - 1) + 1 = cap * s:=by
        obtain ⟨c,rfl⟩ : ∃ c,cap = c + 1:=⟨cap - 1,by omega⟩
        rw [Nat.add_sub_cancel,Nat.add_mul]; omega
      omega
    have hdiv : ∀ k,k < len * s → k / s < len ∧ k % s < s ∧ k = k / s * s + k % s:=λk hk=>⟨Nat.div_lt_of_lt_mul (by rw [Nat.mul_comm]; exact hk),Nat.mod_lt _ hs,by rw [Nat.mul_comm]; exact (Nat.div_add_mod k s).symm⟩
    let ρ2 : Rho:=upd ρ1 n1 (a.block,a.off)
    let fz2 : Fz:=λid=>if id = n1 then some css.flatten else fz1 id
    have hup : ∀ id p,ρ1 id = some p → ρ2 id = some p:=λid p hp=>upd_old (p:=(a.block,a.off)) (g1.fr n1 (Nat.le_refl _)).2 id p hp
    have hx : ImpX n1 fz1 ρ1 (n1 + 1) fz2 ρ2:=⟨by omega,λid B hb=>by
      show (if id = n1 then _ else _) = _
      rw [if_neg (λe=>by subst e; rw [(g1.fr id (Nat.le_refl _)).1] at hb; cases hb)]; exact hb,hup⟩
    refine ⟨n1 + 1,fz2,ρ2,[.osl n1 0 len len s],⟨λid hi=>⟨?_,?_⟩,λid cs hcs=>?_⟩,g2.trans hx,⟨⟨(a.block,a.off),cap,upd_same _ _ _,?_,Nat.le_refl _,hle,?_,?_⟩,trivial⟩,rfl,_,css,rfl,.inr ⟨n1,0,len,css.flatten,by rw [g3],by omega,?_,mkd_known (knownAll_flat hls),by rw [hfl,g3]; omega,?_,hls⟩,g3,λi hi=>hm hx.fz (g6 i hi)⟩
    · show (if id = n1 then _ else _) = none
      rw [if_neg (by omega)]; exact (g1.fr id (by omega)).1
    · show upd ρ1 n1 _ id = none
      unfold upd; rw [if_neg (by omega)]; exact (g1.fr id (by omega)).2
    · have hcs' : (if id = n1 then some css.flatten else fz1 id) = some cs:=hcs
      split at hcs'
      · rename_i e
        subst e
        cases hcs'
        refine ⟨(a.block,a.off),B,ty,fr,upd_same _ _ _,hB,?_,λk sv hk=>?_⟩
        · show a.off + css.flatten.length ≤ B.size
          have : len * s ≤ cap * s:=Nat.mul_le_mul_right _ hle
          omega
        · have hkl : k < len * s:=by rw [← hfl]; exact (List.getElem?_eq_some_iff.1 hk).1
          obtain ⟨d1,d2,d3⟩:=hdiv k hkl
          have hci : k / s < css.length:=by omega
          have h1:=flat_sub (es:=css) (i:=k / s) (k:=k % s) (m:=1) (λe he=>(hls e he).1) hci (by omega)
          rw [← d3] at h1
          have h2 : css.flatten[k]? = (css[k / s])[k % s]?:=by
            have:=congrArg List.head? h1
            rwa [List.head?_take,List.head?_take,if_neg (by omega),if_neg (by omega),List.head?_drop,List.head?_drop] at this
          rw [h2] at hk
          obtain ⟨v,hv,hr⟩:=(g4 _ hci).get hk
          refine ⟨v,?_,VR.mono hr hup λ_=>Nat.le_refl _⟩
          rw [show (a.block,a.off).2 + k = a.off + (k / s * s + k % s) by show a.off + k = _; omega,hB2 _ _ (by omega) d2]; exact hv
      · exact OwnR.mono (g1.own id cs hcs') hup (λ_=>Nat.le_refl _) λ_ _=>rfl
    · show Value.slice (some a) len cap = .slice (some ⟨a.block,a.off + 0,none⟩) len cap
      rw [← hadd 0]; rfl
    · show a.off + 0 + cap * s ≤ bsize w a.block
      unfold bsize; rw [hB]; show _ ≤ B.size; omega
    · unfold maxLen at hcap; omega
    · show (if n1 = n1 then some css.flatten else fz1 n1) = some _
      rw [if_pos rfl]
    · rw [List.drop_zero,List.take_of_length_le]
      rw [hfl,g3]; omega
end Go.Ev
namespace Go.Ev
set_option linter.unusedVariables false
section
variable {H : Type} {enc : TypeId × Value → H} {P : Program} {w : World}
def ImpT {H : Type} (enc : TypeId × Value → H) (P : Program) (w : World) (T : TypeId) (q : Fz → List SV → Prop) : Prop :=
  ∀ fuel cs d ps,DataW.trod enc P w 0 (λ_=>true) true fuel T cs = some (d,ps) → (∀ k ∈ d.weights P T,k ≤ reachBytes) → ∀ n fz ρ,Imp w n fz ρ → Im w n fz ρ cs q
def Mono (q : Fz → List SV → Prop) : Prop:=∀ M M' c,Sub M M' → q M c → q M' c
theorem ImpT.mono {T : TypeId} {q r : Fz → List SV → Prop} (h : ImpT enc P w T q) (hq : ∀ M c,q M c → r M c) : ImpT enc P w T r:=λfuel cs d ps h1 h2 n fz ρ h3=>(h fuel cs d ps h1 h2 n fz ρ h3).mono hq
theorem impT_int {T : TypeId} (ht : P.underlying T = some (.int .i64)) : ImpT enc P w T λ_ c=>∃ i : Int,(Lit.int .i64 i).wf = true ∧ c = [.int .i64 i]:=λfuel cs d ps h _ n fz ρ hi=>by
  obtain ⟨i,rfl,_,hw⟩:=DataW.trod_int ht h
  exact (Im.one hi (c:=[.int .i64 i]) (vs:=[.int .i64 i]) (λ_=>⟨rfl,trivial⟩) rfl).mono λ_ _ h=>⟨i,hw,h⟩
theorem impT_bool {T : TypeId} (ht : P.underlying T = some .bool) : ImpT enc P w T λ_ c=>∃ b,c = [.bool b]:=λfuel cs d ps h _ n fz ρ hi=>by
  obtain ⟨b,rfl,_⟩:=DataW.trod_bool ht h
  exact (Im.one hi (c:=[.bool b]) (vs:=[.bool b]) (λ_=>⟨rfl,trivial⟩) rfl).mono λ_ _ h=>⟨b,h⟩
theorem impT_str {T : TypeId} (ht : P.underlying T = some .string) : ImpT enc P w T λ_ c=>∃ l m,m < 256 ^ l ∧ l ≤ reachBytes ∧ c = [.str l m]:=λfuel cs d ps h hwt n fz ρ hi=>by
  obtain ⟨s,rfl,hx,_⟩:=DataW.trod_string ht h
  have hd : d = .lit (.string s.data.toList):=congrArg Prod.fst hx
  subst hd
  have hb:=hwt s.data.toList.length (by simp [DataW.weights])
  have hs : sOf s.data.toList.length (nOf s.data.toList) = s:=by
    apply ByteArray.ext
    apply Array.ext'
    show sB _ _ = _
    rw [nOf_eq]
  exact (Im.one hi (c:=[.str s.data.toList.length (nOf s.data.toList)]) (vs:=[.string s]) (λ_=>⟨⟨nOf_lt _,by rw [hs]⟩,trivial⟩) rfl).mono λ_ _ h=>⟨_,_,nOf_lt _,hb,h⟩
theorem imp_fields : ∀ (ts : List (TypeId × (Fz → List SV → Prop))) (segs : List (List Value)),(∀ p ∈ ts,Mono p.2) → All2 (λp cs=>∀ n fz ρ,Imp w n fz ρ → Im w n fz ρ cs p.2) ts segs → ∀ n fz ρ,Imp w n fz ρ → Im w n fz ρ segs.flatten λM c=>∃ cs,c = cs.flatten ∧ All2 (λp d=>p.2 M d) ts cs
  | [],[],_,_,n,fz,ρ,h=>(Im.one h (c:=[]) (vs:=[]) (λ_=>trivial) rfl).mono λ_ _ h=>⟨[],h,trivial⟩
  | [],_ :: _,_,h,_,_,_,_=>h.elim
  | _ :: _,[],_,h,_,_,_,_=>h.elim
  | p :: ts,s :: segs,hm,h,n,fz,ρ,hi=>by
    refine (Im.seq (q:=p.2) (λhs hq=>hm p (by simp) _ _ _ hs hq) (h.1 n fz ρ hi) λn fz ρ hi=>imp_fields ts segs (λp hp=>hm p (by simp [hp])) h.2 n fz ρ hi).mono ?_
    rintro M c ⟨a,b,rfl,h1,cs,rfl,h2⟩
    exact ⟨a :: cs,rfl,h1,h2⟩
def segsOf (P : Program) : List TypeId → List Value → List (List Value)
  | [],_=>[]
  | t :: ts,cs=>cs.take (P.cellsOf t) :: segsOf P ts (cs.drop (P.cellsOf t))
theorem segs_flat : ∀ (ts : List TypeId) (cs : List Value),cs.length = (ts.map P.cellsOf).sum → (segsOf P ts cs).flatten = cs
  | [],cs,h=>by simp at h; simp [segsOf,h]
  | t :: ts,cs,h=>by
    simp only [List.map_cons,List.sum_cons] at h
    simp only [segsOf,List.flatten_cons]
    rw [segs_flat ts _ (by simp; omega),List.take_append_drop]
theorem weights_each {ts : List TypeId} {ds : List (DataW H)} {i : Nat} {t : TypeId} {d : DataW H} (ht : ts[i]? = some t) (hd : ds[i]? = some d) : ∀ k ∈ d.weights P t,k ∈ DataW.weightsEach P ts ds:=λk hk=>DataW.weights_mem_each ht hd k hk
theorem weights_all {e : TypeId} : ∀ {ds : List (DataW H)} {d : DataW H},d ∈ ds → ∀ k ∈ d.weights P e,k ∈ DataW.weightsAll P e ds
  | [],_,h,_,_=>by cases h
  | x :: ds,d,h,k,hk=>by
    simp only [DataW.weightsAll,List.mem_append]
    rcases List.mem_cons.1 h with rfl | h
    · exact .inl hk
    · exact .inr (weights_all h k hk)
theorem impT_struct {T : TypeId} {fs : Array Field} (ht : P.underlying T = some (.struct fs)) (ts : List (TypeId × (Fz → List SV → Prop))) (hts : fs.toList.map (·.type) = ts.map (·.1)) (hoff : fs.toList.map (·.offset) = (List.range ts.length).map fun i => (((ts.map (·.1)).take i).map P.cellsOf).sum)
    (hsz : P.cellsOf T = ((ts.map (·.1)).map P.cellsOf).sum) (hm : ∀ p ∈ ts,Mono p.2) (hi : ∀ p ∈ ts,ImpT enc P w p.1 p.2) : ImpT enc P w T λM c=>∃ cs,c = cs.flatten ∧ All2 (λp d=>p.2 M d) ts cs:=λfuel cs d ps h hwt n fz ρ himp=>by
  obtain ⟨xs,m,_,hx,hlen,hxl,hf⟩:=DataW.trod_struct ht h
  have hd : d = .agg (xs.map (·.1)):=congrArg Prod.fst hx
  subst hd
  have hfl : fs.toList.length = ts.length:=by have:=congrArg List.length hts; simpa using this
  rw [show cs = (segsOf P (ts.map (·.1)) cs).flatten from (segs_flat _ _ (by rw [hlen,hsz])).symm]
  have hseg : ∀ (us : List TypeId) (cs : List Value) (i : Nat) (h : i < us.length),(segsOf P us cs)[i]? = some ((cs.drop ((us.take i).map P.cellsOf).sum).take (P.cellsOf us[i])):=by
    intro us
    induction us with
    | nil=>intro cs i h; simp at h
    | cons u us ih =>
      intro cs i h
      cases i with
      | zero=>simp [segsOf]
      | succ i =>
        have:=ih (cs.drop (P.cellsOf u)) i (by simpa using h)
        simp only [segsOf,List.getElem?_cons_succ,this,List.drop_drop,List.take_succ_cons,List.map_cons,List.sum_cons,List.getElem_cons_succ]
  have hsl : ∀ (us : List TypeId) (cs : List Value),(segsOf P us cs).length = us.length:=by
    intro us
    induction us with
    | nil=>intro cs; rfl
    | cons u us ih=>intro cs; simp [segsOf,ih]
  refine imp_fields ts _ hm (All2.of_get (by rw [hsl]; simp) λi p sg hp hsg n fz ρ himp=>?_) n fz ρ himp
  have hil : i < ts.length:=(List.getElem?_eq_some_iff.1 hp).1
  have hpe : ts[i] = p:=(List.getElem?_eq_some_iff.1 hp).2
  obtain ⟨f,hfi⟩ : ∃ f,fs[i]? = some f:=⟨fs[i]'(by have : fs.size = fs.toList.length:=rfl; omega),Array.getElem?_eq_getElem _⟩
  have hfi' : fs.toList[i]? = some f:=by simpa using hfi
  have e1 : f.type = p.1:=by
    have:=congrArg (·[i]?) hts
    simp only [List.getElem?_map,hfi',hp,Option.map_some] at this
    exact Option.some.inj this
  have e2 : f.offset = (((ts.map (·.1)).take i).map P.cellsOf).sum:=by
    have:=congrArg (·[i]?) hoff
    simp only [List.getElem?_map,hfi',List.getElem?_range hil,Option.map_some] at this
    exact Option.some.inj this
  have h1:=hf i f hfi
  rw [hseg _ _ i (by simpa using hil)] at hsg
  cases hsg
  have hxi : i < xs.length:=by rw [hxl]; have : fs.size = fs.toList.length:=rfl; omega
  rw [List.getElem?_eq_getElem hxi,e1,e2] at h1
  rw [List.getElem_map,hpe]
  refine hi p (List.mem_of_getElem? hp) m _ xs[i].1 xs[i].2 h1 (λk hk=>hwt k ?_) n fz ρ himp
  simp only [DataW.weights,ht]
  exact weights_each (i:=i) (t:=p.1) (d:=xs[i].1) (by rw [List.getElem?_map,hfi',Option.map_some,e1]) (by rw [List.getElem?_map,List.getElem?_eq_getElem hxi,Option.map_some]) k hk
theorem impT_slice {T e : TypeId} (ht : P.underlying T = some (.slice e)) {s b : Nat} (hs : P.cellsOf e = s) (hs0 : 0 < s) (hb : P.bytesOf e = b) {q : Fz → List SV → Prop} (hm : Mono q) (hi : ImpT enc P w e q) :
    ImpT enc P w T λM c=>∃ x css,c = [x] ∧ Sl M s x css ∧ css.length * b ≤ reachBytes ∧ ∀ d ∈ css,q M d:=λfuel cs d ps h hwt n fz ρ himp=>by
  rcases Go.Deep.open_slice ht h with ⟨rfl,_⟩ | ⟨a,len,cap,m,k,D,Pl,rfl,_,hle,hcap,hmm,hx,hel⟩
  · exact (Im.one himp (c:=[.nsl]) (vs:=[.slice none 0 0]) (λ_=>⟨rfl,trivial⟩) rfl).mono λM c hc=>⟨.nsl,[],hc,.inl ⟨.inl rfl,rfl⟩,by simp,λd hd=>(by cases hd)⟩
  · have hmm : m = cap:=hmm
    rw [hmm] at hx hel
    have hd : d = .slice ((List.range len).map D) ((List.range (cap - len)).map λj=>D (len + j)):=congrArg Prod.fst hx
    subst hd
    have hel' : ∀ i,i < cap → ∃ cs',w.cells? 0 (a.add (i * s)) s = some cs' ∧ DataW.trod enc P w 0 (λ_=>true) true k e cs' = some (D i,Pl i):=λi hi=>by rw [← hs]; exact hel i hi
    have hC : ∃ C : Nat → List Value,∀ i,i < cap → w.cells? 0 (a.add (i * s)) s = some (C i) ∧ DataW.trod enc P w 0 (λ_=>true) true k e (C i) = some (D i,Pl i):=by
      refine ⟨λi=>((w.cells? 0 (a.add (i * s)) s).getD []),λi hi=>?_⟩
      obtain ⟨cs',h1,h2⟩:=hel' i hi
      simp only [h1,Option.getD_some]; exact ⟨trivial,h2⟩
    obtain ⟨C,hC⟩:=hC
    have hw1 : ∀ i,i < len → ∀ k ∈ (D i).weights P e,k ≤ reachBytes:=λi hi k hk=>hwt k (by
      simp only [DataW.weights,ht,List.mem_cons,List.mem_append]
      exact .inr (.inl (weights_all (List.mem_map.2 ⟨i,by simpa using hi,rfl⟩) k hk)))
    have hw2 : len * b ≤ reachBytes:=by
      have:=hwt _ (by simp only [DataW.weights,ht,List.mem_cons]; exact .inl rfl)
      simp only [List.length_map,List.length_range,hb] at this
      have h3 : len * b ≤ (len + (cap - len)) * b:=Nat.mul_le_mul_right _ (by omega)
      omega
    refine (imp_slice hs0 (C:=C) (λi hi=>(hC i hi).1) hle hcap (El:=λM c _=>q M c) (λhs hq=>hm _ _ _ hs hq) (λi hi' n fz ρ h=>hi k (C i) _ _ (hC i (by omega)).2 (hw1 i hi') n fz ρ h) himp).mono ?_
    rintro M c ⟨x,css,rfl,h1,h2,h3⟩
    refine ⟨x,css,rfl,h1,by rw [h2]; exact hw2,λd hd=>?_⟩
    obtain ⟨i,hi,rfl⟩:=List.getElem_of_mem hd
    exact h3 i hi
end
end Go.Ev
namespace Go.Ev
set_option linter.unusedVariables false
theorem ctr_of_says {P : Program} {f : Nat} (hb : hasBody P f = true) (h : SaysTrue P f) : Ctr P f [] (λ_=>True) λ_ _ _ v=>v = .one (.bool true):=λfz mu n k hfr _ hk =>
  ⟨.one (.bool true),mu,n,hk _ _ _ (Gr.refl hfr) rfl,hb,Nat.le_refl _,λρ w xs hr hx hf=>by
    cases xs with
    | cons _ _=>exact hx.elim
    | nil=>exact (h w).mono λe w' ⟨he,hf⟩=>⟨_,he,ρ,Ext.refl _ _ _,hr.grow hf,rfl,hf.any,λid p hl hp=>.inr ⟨id,p,hl,hp,rfl⟩,NewI.refl⟩⟩
theorem calls_of_CP {P : Program} {f : Nat} {avs : List AV} {fz : Fz} {n : Nat} {ρ : Rho} {w : World} {xs : List Value} (h : CP P f avs fz [] n fun v _ _ => v = .one (.bool true)) (hi : Imp w n fz ρ) (hx : All2 (AVR v0 ρ w) avs xs) :
    Calls P f xs.toArray w λe w'=>e = .returned (.bool true) ∧ Fr ρ [] w w':=by
  obtain ⟨v,mu',n',rfl,hb,hle,hc⟩:=h
  refine (hc ρ w xs hi.rel hx hi.fresh).mono λe w' ⟨x,he,ρ',h1,h2,h3,h4,_⟩=>⟨?_,h4⟩
  have : x = .bool true:=h3
  rw [he,this]
section
open Go.ChangeShapes Go.WideShapes Go.RowKit
variable {H : Type} {enc : TypeId × Value → H} {P : Program}
theorem trodAll_stays (hl : laidOutB P = true) {W W' : World} (hb : Below W.heap.size W W') {sp : Nat → Bool} : ∀ {ts : List TypeId} {vs : List Value} {ds : List (DataW H)} {ps : List MemPlace}, (∀ t ∈ ts, P.readableRec t = true ∧ t < P.types.size) →
    DataW.TrodAll enc P W 0 (λ_=>true) true ts vs ds ps → (∀ x ∈ ps,x.block < W.heap.size) → (∀ p ∈ ps,sp p.block = true) → DataW.TrodAll enc P W' 0 sp true ts vs ds ps
  | [],[],[],_,_,h,_,_=>h
  | t :: ts, v :: vs, d :: ds, ps, ht, ⟨p, q, h1, h2, he⟩, hlt, hs => ⟨p, q, WideElems.Trod_stays hl (ht t (by simp)).1 (ht t (by simp)).2 h1 (fun x hx => hb.same (hlt x (by rw [he]; simp [hx]))) (fun x hx => hs x (by rw [he]; simp [hx])),
      trodAll_stays hl hb (λt h=>ht t (by simp [h])) h2 (λx hx=>hlt x (by rw [he]; simp [hx])) (λx hx=>hs x (by rw [he]; simp [hx])),he⟩
  | [],_ :: _,_,_,_,h,_,_=>h.elim
  | [],[],_ :: _,_,_,h,_,_=>h.elim
  | _ :: _,[],_,_,_,h,_,_=>h.elim
  | _ :: _,_ :: _,[],_,_,h,_,_=>h.elim
theorem Fr.below {ρ : Rho} {w w' : World} (h : Fr ρ [] w w') : Below w.heap.size w w':=⟨h.os,h.tape,h.output,h.size,λk hk=>h.keep k hk λid p hl=>by cases hl⟩
theorem post_law {f : Func} {s : ChangeSpec} {apart fresh handsOn again : Bool} {W W' : World} {args : Array Value} {ds gs : List (DataW H)} {before : List MemPlace} {ρ : Rho} {tb : TypeId} (hl : laidOutB P = true) (hts : ∀ t ∈ f.params.toList, P.readableRec t = true ∧ t < P.types.size)
    (hv : s.vars = []) (hr : f.resultTypes = #[tb]) (htb : P.underlying tb = some .bool) (hs : (s.fn H (ds ++ gs)).results = [.lit (.bool true)]) (hs2 : (s.fn H (ds ++ gs)).args = ds) (hs3 : (s.fn H (ds ++ gs)).vars = [])
    (hW : DataW.Whole enc P f.params.toList s.vars apart W args.toList ds gs before) (hf : Fr ρ [] W W') : s.post enc P f apart fresh handsOn again W args (.bool true) W':=by
  have hlt:=hW.lt
  have hW':=hW
  obtain ⟨p,q,hA,hV,rfl,hfz,hnd⟩:=hW
  have hq : q = []:=by
    rw [hv] at hV
    cases gs with
    | nil=>exact hV
    | cons g gs=>exact hV.elim
  subst hq
  have hg:=hf.grown
  refine post_of_grown (pa:=p) (pv:=[]) hW' (λb sp hd=>?_) (λsp hsp=>?_) (λsp hsp=>?_) rfl (hg.frame _) hg.2.1 ?_
  · rw [hs,hr]; exact trodAll_cons_mk (shut_bool htb _) trodAll_mk0
  · rw [hs2]; exact trodAll_stays hl (Fr.below hf) hts hA (λx hx=>hlt x (by simp [hx])) (λx hx=>hsp x (by simp [hx]))
  · rw [hs3,hv]; exact rfl
  · exact ok_one hr rfl (okWide_bool_mk htb _)
end
end Go.Ev
set_option maxRecDepth 1000000
namespace Go.Proofs.YtnnjlnkoomeadaaGreat.Pv
open Go.Ev
def ml : List Nat:=[12,13,36,42,45,46,47,55,56,58,59,62,66,67,71,72,73,74,75,77,78,79,80,81,82,101,102,106,107,110,120,121,124,126,128,136,143,154,157,161,162,163,164,165,166,167,168,171,172,173,176,177,178,179]
theorem k_law17_ReplicaProposes : FOk Tryz.prog n_law17_ReplicaProposes a_law17_ReplicaProposes:=⟨by kernel_rfl,Tryz.f3,mutsOf ml false,Tryz.func3,by kernel_rfl⟩
theorem k_law0_LendReplica : FOk Tryz.prog n_law0_LendReplica a_law0_LendReplica:=⟨by kernel_rfl,Tryz.f6,mutsOf ml false,Tryz.func6,by kernel_rfl⟩
theorem k_law0_LendEntries : FOk Tryz.prog n_law0_LendEntries a_law0_LendEntries:=⟨by kernel_rfl,Tryz.f7,mutsOf ml false,Tryz.func7,by kernel_rfl⟩
theorem k_replica_Propose : FOk Tryz.prog n_replica_Propose a_replica_Propose:=⟨by kernel_rfl,Tryz.f8,mutsOf ml false,Tryz.func8,by kernel_rfl⟩
theorem k_ref16_Propose : FOk Tryz.prog n_ref16_Propose a_ref16_Propose:=⟨by kernel_rfl,Tryz.f9,mutsOf ml false,Tryz.func9,by kernel_rfl⟩
theorem k_ref16_Same : FOk Tryz.prog n_ref16_Same a_ref16_Same:=⟨by kernel_rfl,Tryz.f10,mutsOf ml false,Tryz.func10,by kernel_rfl⟩
theorem k_ref4_SameAll : FOk Tryz.prog n_ref4_SameAll a_ref4_SameAll:=⟨by kernel_rfl,Tryz.f11,mutsOf ml false,Tryz.func11,by kernel_rfl⟩
theorem k_law0_SpoilReplica : FOk Tryz.prog n_law0_SpoilReplica a_law0_SpoilReplica:=⟨by kernel_rfl,Tryz.f12,mutsOf ml false,Tryz.func12,by kernel_rfl⟩
theorem k_law0_SpoilMessages : FOk Tryz.prog n_law0_SpoilMessages a_law0_SpoilMessages:=⟨by kernel_rfl,Tryz.f13,mutsOf ml false,Tryz.func13,by kernel_rfl⟩
theorem k_law0_KeptReplica : FOk Tryz.prog n_law0_KeptReplica a_law0_KeptReplica:=⟨by kernel_rfl,Tryz.f14,mutsOf ml false,Tryz.func14,by kernel_rfl⟩
theorem k_law0_KeptEntries : FOk Tryz.prog n_law0_KeptEntries a_law0_KeptEntries:=⟨by kernel_rfl,Tryz.f15,mutsOf ml false,Tryz.func15,by kernel_rfl⟩
theorem k_law17_awake : FOk Tryz.prog n_law17_awake a_law17_awake:=⟨by kernel_rfl,Tryz.f16,mutsOf ml false,Tryz.func16,by kernel_rfl⟩
theorem k_replica_Tick : FOk Tryz.prog n_replica_Tick a_replica_Tick:=⟨by kernel_rfl,Tryz.f17,mutsOf ml false,Tryz.func17,by kernel_rfl⟩
theorem k_law0_LendLog : FOk Tryz.prog n_law0_LendLog a_law0_LendLog:=⟨by kernel_rfl,Tryz.f27,mutsOf ml false,Tryz.func27,by kernel_rfl⟩
theorem k_law0_LendInts : FOk Tryz.prog n_law0_LendInts a_law0_LendInts:=⟨by kernel_rfl,Tryz.f28,mutsOf ml false,Tryz.func28,by kernel_rfl⟩
theorem k_law0_LendPoints : FOk Tryz.prog n_law0_LendPoints a_law0_LendPoints:=⟨by kernel_rfl,Tryz.f29,mutsOf ml false,Tryz.func29,by kernel_rfl⟩
theorem k_replica_begin : FOk Tryz.prog n_replica_begin a_replica_begin:=⟨by kernel_rfl,Tryz.f30,mutsOf ml false,Tryz.func30,by kernel_rfl⟩
theorem k_replica_May : FOk Tryz.prog n_replica_May a_replica_May:=⟨by kernel_rfl,Tryz.f31,mutsOf ml false,Tryz.func31,by kernel_rfl⟩
theorem k_replica_step_normal : FOk Tryz.prog n_replica_step_normal a_replica_step_normal:=⟨by kernel_rfl,Tryz.f32,mutsOf ml false,Tryz.func32,by kernel_rfl⟩
theorem k_message_MayEntry : FOk Tryz.prog n_message_MayEntry a_message_MayEntry:=⟨by kernel_rfl,Tryz.f33,mutsOf ml false,Tryz.func33,by kernel_rfl⟩
theorem k_replica_step_last : FOk Tryz.prog n_replica_step_last a_replica_step_last:=⟨by kernel_rfl,Tryz.f34,mutsOf ml false,Tryz.func34,by kernel_rfl⟩
theorem k_message_CloneEntry : FOk Tryz.prog n_message_CloneEntry a_message_CloneEntry:=⟨by kernel_rfl,Tryz.f35,mutsOf ml false,Tryz.func35,by kernel_rfl⟩
theorem k_replica_step_all : FOk Tryz.prog n_replica_step_all a_replica_step_all:=⟨by kernel_rfl,Tryz.f36,mutsOf ml false,Tryz.func36,by kernel_rfl⟩
theorem k_ref16_May : FOk Tryz.prog n_ref16_May a_ref16_May:=⟨by kernel_rfl,Tryz.f37,mutsOf ml false,Tryz.func37,by kernel_rfl⟩
theorem k_ref16_lead : FOk Tryz.prog n_ref16_lead a_ref16_lead:=⟨by kernel_rfl,Tryz.f38,mutsOf ml false,Tryz.func38,by kernel_rfl⟩
theorem k_ref4_EntryMay : FOk Tryz.prog n_ref4_EntryMay a_ref4_EntryMay:=⟨by kernel_rfl,Tryz.f39,mutsOf ml false,Tryz.func39,by kernel_rfl⟩
theorem k_ref16_Last : FOk Tryz.prog n_ref16_Last a_ref16_Last:=⟨by kernel_rfl,Tryz.f40,mutsOf ml false,Tryz.func40,by kernel_rfl⟩
theorem k_ref16_Copy : FOk Tryz.prog n_ref16_Copy a_ref16_Copy:=⟨by kernel_rfl,Tryz.f41,mutsOf ml false,Tryz.func41,by kernel_rfl⟩
theorem k_ref16_play_all : FOk Tryz.prog n_ref16_play_all a_ref16_play_all:=⟨by kernel_rfl,Tryz.f42,mutsOf ml false,Tryz.func42,by kernel_rfl⟩
theorem k_ref4_SameLog : FOk Tryz.prog n_ref4_SameLog a_ref4_SameLog:=⟨by kernel_rfl,Tryz.f43,mutsOf ml false,Tryz.func43,by kernel_rfl⟩
theorem k_ref4_Same : FOk Tryz.prog n_ref4_Same a_ref4_Same:=⟨by kernel_rfl,Tryz.f44,mutsOf ml false,Tryz.func44,by kernel_rfl⟩
theorem k_law0_SpoilLog : FOk Tryz.prog n_law0_SpoilLog a_law0_SpoilLog:=⟨by kernel_rfl,Tryz.f45,mutsOf ml false,Tryz.func45,by kernel_rfl⟩
theorem k_law0_SpoilInts : FOk Tryz.prog n_law0_SpoilInts a_law0_SpoilInts:=⟨by kernel_rfl,Tryz.f46,mutsOf ml false,Tryz.func46,by kernel_rfl⟩
theorem k_law0_SpoilPoints : FOk Tryz.prog n_law0_SpoilPoints a_law0_SpoilPoints:=⟨by kernel_rfl,Tryz.f47,mutsOf ml false,Tryz.func47,by kernel_rfl⟩
theorem k_law0_KeptLog : FOk Tryz.prog n_law0_KeptLog a_law0_KeptLog:=⟨by kernel_rfl,Tryz.f48,mutsOf ml false,Tryz.func48,by kernel_rfl⟩
theorem k_law0_KeptInts : FOk Tryz.prog n_law0_KeptInts a_law0_KeptInts:=⟨by kernel_rfl,Tryz.f49,mutsOf ml false,Tryz.func49,by kernel_rfl⟩
theorem k_law0_KeptPoints : FOk Tryz.prog n_law0_KeptPoints a_law0_KeptPoints:=⟨by kernel_rfl,Tryz.f50,mutsOf ml false,Tryz.func50,by kernel_rfl⟩
theorem k_replica_New : FOk Tryz.prog n_replica_New a_replica_New:=⟨by kernel_rfl,Tryz.f51,mutsOf ml false,Tryz.func51,by kernel_rfl⟩
theorem k_law0_Num : FOk Tryz.prog n_law0_Num a_law0_Num:=⟨by kernel_rfl,Tryz.f52,mutsOf ml false,Tryz.func52,by kernel_rfl⟩
theorem k_replica_Primary : FOk Tryz.prog n_replica_Primary a_replica_Primary:=⟨by kernel_rfl,Tryz.f53,mutsOf ml false,Tryz.func53,by kernel_rfl⟩
theorem k_replica_Committed : FOk Tryz.prog n_replica_Committed a_replica_Committed:=⟨by kernel_rfl,Tryz.f54,mutsOf ml false,Tryz.func54,by kernel_rfl⟩
theorem k_replica_step_enter : FOk Tryz.prog n_replica_step_enter a_replica_step_enter:=⟨by kernel_rfl,Tryz.f55,mutsOf ml false,Tryz.func55,by kernel_rfl⟩
theorem k_replica_step_end : FOk Tryz.prog n_replica_step_end a_replica_step_end:=⟨by kernel_rfl,Tryz.f57,mutsOf ml false,Tryz.func57,by kernel_rfl⟩
theorem k_replica_step_start : FOk Tryz.prog n_replica_step_start a_replica_step_start:=⟨by kernel_rfl,Tryz.f60,mutsOf ml false,Tryz.func60,by kernel_rfl⟩
theorem k_replica_step_leads : FOk Tryz.prog n_replica_step_leads a_replica_step_leads:=⟨by kernel_rfl,Tryz.f61,mutsOf ml false,Tryz.func61,by kernel_rfl⟩
theorem k_replica_step_send : FOk Tryz.prog n_replica_step_send a_replica_step_send:=⟨by kernel_rfl,Tryz.f62,mutsOf ml false,Tryz.func62,by kernel_rfl⟩
theorem k_ref16_play_send : FOk Tryz.prog n_ref16_play_send a_ref16_play_send:=⟨by kernel_rfl,Tryz.f67,mutsOf ml false,Tryz.func67,by kernel_rfl⟩
theorem k_replica_Clone : FOk Tryz.prog n_replica_Clone a_replica_Clone:=⟨by kernel_rfl,Tryz.f68,mutsOf ml false,Tryz.func68,by kernel_rfl⟩
theorem k_ref4_CopyLog : FOk Tryz.prog n_ref4_CopyLog a_ref4_CopyLog:=⟨by kernel_rfl,Tryz.f69,mutsOf ml false,Tryz.func69,by kernel_rfl⟩
theorem k_law0_CopyInts : FOk Tryz.prog n_law0_CopyInts a_law0_CopyInts:=⟨by kernel_rfl,Tryz.f83,mutsOf ml false,Tryz.func83,by kernel_rfl⟩
theorem k_law0_CopyPoints : FOk Tryz.prog n_law0_CopyPoints a_law0_CopyPoints:=⟨by kernel_rfl,Tryz.f84,mutsOf ml false,Tryz.func84,by kernel_rfl⟩
theorem k_repair_Nodes : FOk Tryz.prog n_repair_Nodes a_repair_Nodes:=⟨by kernel_rfl,Tryz.f85,mutsOf ml false,Tryz.func85,by kernel_rfl⟩
theorem k_replica_within : FOk Tryz.prog n_replica_within a_replica_within:=⟨by kernel_rfl,Tryz.f86,mutsOf ml false,Tryz.func86,by kernel_rfl⟩
theorem k_message_MayLog : FOk Tryz.prog n_message_MayLog a_message_MayLog:=⟨by kernel_rfl,Tryz.f87,mutsOf ml false,Tryz.func87,by kernel_rfl⟩
theorem k_choose_Last : FOk Tryz.prog n_choose_Last a_choose_Last:=⟨by kernel_rfl,Tryz.f88,mutsOf ml false,Tryz.func88,by kernel_rfl⟩
theorem k_slices_ContainsFunc_int_int : FOk Tryz.prog n_slices_ContainsFunc_int_int a_slices_ContainsFunc_int_int:=⟨by kernel_rfl,Tryz.f89,mutsOf ml false,Tryz.func89,by kernel_rfl⟩
theorem k_replica_May_1 : FOk Tryz.prog n_replica_May_1 a_replica_May_1:=⟨by kernel_rfl,Tryz.f90,mutsOf ml false,Tryz.func90,by kernel_rfl⟩
theorem k_point_Batch : FOk Tryz.prog n_point_Batch a_point_Batch:=⟨by kernel_rfl,Tryz.f91,mutsOf ml false,Tryz.func91,by kernel_rfl⟩
theorem k_ref16_Nodes : FOk Tryz.prog n_ref16_Nodes a_ref16_Nodes:=⟨by kernel_rfl,Tryz.f92,mutsOf ml false,Tryz.func92,by kernel_rfl⟩
theorem k_ref1_Count : FOk Tryz.prog n_ref1_Count a_ref1_Count:=⟨by kernel_rfl,Tryz.f93,mutsOf ml false,Tryz.func93,by kernel_rfl⟩
theorem k_ref4_LogMay : FOk Tryz.prog n_ref4_LogMay a_ref4_LogMay:=⟨by kernel_rfl,Tryz.f94,mutsOf ml false,Tryz.func94,by kernel_rfl⟩
theorem k_ref16_Primary : FOk Tryz.prog n_ref16_Primary a_ref16_Primary:=⟨by kernel_rfl,Tryz.f95,mutsOf ml false,Tryz.func95,by kernel_rfl⟩
theorem k_ref1_Batch : FOk Tryz.prog n_ref1_Batch a_ref1_Batch:=⟨by kernel_rfl,Tryz.f96,mutsOf ml false,Tryz.func96,by kernel_rfl⟩
theorem k_ref4_SameEntry : FOk Tryz.prog n_ref4_SameEntry a_ref4_SameEntry:=⟨by kernel_rfl,Tryz.f97,mutsOf ml false,Tryz.func97,by kernel_rfl⟩
theorem k_ref1_SamePoints : FOk Tryz.prog n_ref1_SamePoints a_ref1_SamePoints:=⟨by kernel_rfl,Tryz.f98,mutsOf ml false,Tryz.func98,by kernel_rfl⟩
theorem k_law0_SameInts : FOk Tryz.prog n_law0_SameInts a_law0_SameInts:=⟨by kernel_rfl,Tryz.f99,mutsOf ml false,Tryz.func99,by kernel_rfl⟩
theorem k_law0_SamePoints : FOk Tryz.prog n_law0_SamePoints a_law0_SamePoints:=⟨by kernel_rfl,Tryz.f100,mutsOf ml false,Tryz.func100,by kernel_rfl⟩
theorem k_slices_Sort_int_int : FOk Tryz.prog n_slices_Sort_int_int a_slices_Sort_int_int:=⟨by kernel_rfl,Tryz.f101,mutsOf ml false,Tryz.func101,by kernel_rfl⟩
theorem k_replica_step_anew : FOk Tryz.prog n_replica_step_anew a_replica_step_anew:=⟨by kernel_rfl,Tryz.f102,mutsOf ml false,Tryz.func102,by kernel_rfl⟩
theorem k_slices_Clone_api_Do_api_Do : FOk Tryz.prog n_slices_Clone_api_Do_api_Do a_slices_Clone_api_Do_api_Do:=⟨by kernel_rfl,Tryz.f104,mutsOf ml false,Tryz.func104,by kernel_rfl⟩
theorem k_message_Clone : FOk Tryz.prog n_message_Clone a_message_Clone:=⟨by kernel_rfl,Tryz.f112,mutsOf ml false,Tryz.func112,by kernel_rfl⟩
theorem k_message_CloneLog : FOk Tryz.prog n_message_CloneLog a_message_CloneLog:=⟨by kernel_rfl,Tryz.f113,mutsOf ml false,Tryz.func113,by kernel_rfl⟩
theorem k_slices_Clone_int_int : FOk Tryz.prog n_slices_Clone_int_int a_slices_Clone_int_int:=⟨by kernel_rfl,Tryz.f114,mutsOf ml false,Tryz.func114,by kernel_rfl⟩
theorem k_point_Name : FOk Tryz.prog n_point_Name a_point_Name:=⟨by kernel_rfl,Tryz.f119,mutsOf ml false,Tryz.func119,by kernel_rfl⟩
theorem k_ref1_Name : FOk Tryz.prog n_ref1_Name a_ref1_Name:=⟨by kernel_rfl,Tryz.f134,mutsOf ml false,Tryz.func134,by kernel_rfl⟩
theorem k_slices_IndexFunc_int_int : FOk Tryz.prog n_slices_IndexFunc_int_int a_slices_IndexFunc_int_int:=⟨by kernel_rfl,Tryz.f138,mutsOf ml false,Tryz.func138,by kernel_rfl⟩
theorem k_slices_ContainsFunc_api_Point_api_Point : FOk Tryz.prog n_slices_ContainsFunc_api_Point_api_Point a_slices_ContainsFunc_api_Point_api_Point:=⟨by kernel_rfl,Tryz.f139,mutsOf ml false,Tryz.func139,by kernel_rfl⟩
theorem k_point_Batch_1 : FOk Tryz.prog n_point_Batch_1 a_point_Batch_1:=⟨by kernel_rfl,Tryz.f140,mutsOf ml false,Tryz.func140,by kernel_rfl⟩
theorem k_point_May : FOk Tryz.prog n_point_May a_point_May:=⟨by kernel_rfl,Tryz.f141,mutsOf ml false,Tryz.func141,by kernel_rfl⟩
theorem k_ref1_May : FOk Tryz.prog n_ref1_May a_ref1_May:=⟨by kernel_rfl,Tryz.f142,mutsOf ml false,Tryz.func142,by kernel_rfl⟩
theorem k_slices_pdqsortOrdered_int : FOk Tryz.prog n_slices_pdqsortOrdered_int a_slices_pdqsortOrdered_int:=⟨by kernel_rfl,Tryz.f143,mutsOf ml false,Tryz.func143,by kernel_rfl⟩
theorem k_math_bits_Len : FOk Tryz.prog n_math_bits_Len a_math_bits_Len:=⟨by kernel_rfl,Tryz.f144,mutsOf ml false,Tryz.func144,by kernel_rfl⟩
theorem k_cmp_Less_int : FOk Tryz.prog n_cmp_Less_int a_cmp_Less_int:=⟨by kernel_rfl,Tryz.f151,mutsOf ml false,Tryz.func151,by kernel_rfl⟩
theorem k_cmp_isNaN_int : FOk Tryz.prog n_cmp_isNaN_int a_cmp_isNaN_int:=⟨by kernel_rfl,Tryz.f155,mutsOf ml false,Tryz.func155,by kernel_rfl⟩
theorem k_ref1_Small : FOk Tryz.prog n_ref1_Small a_ref1_Small:=⟨by kernel_rfl,Tryz.f158,mutsOf ml false,Tryz.func158,by kernel_rfl⟩
theorem k_slices_IndexFunc_api_Point_api_Point : FOk Tryz.prog n_slices_IndexFunc_api_Point_api_Point a_slices_IndexFunc_api_Point_api_Point:=⟨by kernel_rfl,Tryz.f159,mutsOf ml false,Tryz.func159,by kernel_rfl⟩
theorem k_point_Small : FOk Tryz.prog n_point_Small a_point_Small:=⟨by kernel_rfl,Tryz.f160,mutsOf ml false,Tryz.func160,by kernel_rfl⟩
theorem k_slices_insertionSortOrdered_int : FOk Tryz.prog n_slices_insertionSortOrdered_int a_slices_insertionSortOrdered_int:=⟨by kernel_rfl,Tryz.f161,mutsOf ml false,Tryz.func161,by kernel_rfl⟩
theorem k_math_bits_Len64 : FOk Tryz.prog n_math_bits_Len64 a_math_bits_Len64:=⟨by kernel_rfl,Tryz.f170,mutsOf ml false,Tryz.func170,by kernel_rfl⟩
theorem fs : Fs Tryz.prog:=⟨by kernel_rfl,k_law17_ReplicaProposes,k_law0_LendReplica,k_law0_LendEntries,k_replica_Propose,k_ref16_Propose,k_ref16_Same,k_ref4_SameAll,k_law0_SpoilReplica,k_law0_SpoilMessages,k_law0_KeptReplica,k_law0_KeptEntries,k_law0_LendLog,k_law0_LendInts,k_law0_LendPoints,k_replica_begin,k_replica_May,k_replica_step_normal,k_message_MayEntry,k_replica_step_last,k_message_CloneEntry,k_replica_step_all,k_ref16_May,k_ref16_lead,k_ref4_EntryMay,k_ref16_Last,k_ref16_Copy,k_ref16_play_all,k_ref4_SameLog,k_ref4_Same,k_law0_SpoilLog,k_law0_SpoilInts,k_law0_SpoilPoints,k_law0_KeptLog,k_law0_KeptInts,k_law0_KeptPoints,k_replica_Primary,k_replica_step_leads,k_replica_step_send,k_ref16_play_send,k_replica_Clone,k_ref4_CopyLog,k_law0_CopyInts,k_law0_CopyPoints,k_repair_Nodes,k_replica_within,k_message_MayLog,k_choose_Last,k_slices_ContainsFunc_int_int,k_replica_May_1,k_point_Batch,k_ref16_Nodes,k_ref1_Count,k_ref4_LogMay,k_ref16_Primary,k_ref1_Batch,k_ref4_SameEntry,k_ref1_SamePoints,k_law0_SameInts,k_law0_SamePoints,k_slices_Clone_api_Do_api_Do,k_message_Clone,k_message_CloneLog,k_slices_Clone_int_int,k_point_Name,k_ref1_Name,k_slices_IndexFunc_int_int,k_slices_ContainsFunc_api_Point_api_Point,k_point_Batch_1,k_point_May,k_ref1_May,k_ref1_Small,k_slices_IndexFunc_api_Point_api_Point,k_point_Small⟩
end Go.Proofs.YtnnjlnkoomeadaaGreat.Pv
set_option maxRecDepth 1000000
set_option maxHeartbeats 4000000
namespace Go.Proofs.YtnnjlnkoomeadaaGreat.Pv
open Go.Ev
theorem mixedV : Tryz.prog.follows .mixedOrders = true:=by kernel_rfl
def FA : FTree:=(.node n_replica_within a_replica_within (.node n_replica_Primary a_replica_Primary (.node n_replica_step_normal a_replica_step_normal (.node n_replica_begin a_replica_begin (.node n_replica_Tick a_replica_Tick (.node n_law17_awake a_law17_awake .nil .nil) .nil) (.node n_replica_May a_replica_May .nil .nil)) (.node n_replica_New a_replica_New (.node n_replica_step_all a_replica_step_all .nil .nil) (.node n_law0_Num a_law0_Num .nil .nil))) (.node n_replica_step_leads a_replica_step_leads (.node n_replica_step_end a_replica_step_end (.node n_replica_step_enter a_replica_step_enter (.node n_replica_Committed a_replica_Committed .nil .nil) .nil) (.node n_replica_step_start a_replica_step_start .nil .nil)) (.node n_replica_Clone a_replica_Clone (.node n_replica_step_send a_replica_step_send .nil .nil) (.node n_repair_Nodes a_repair_Nodes .nil .nil)))) (.node n_message_CloneLog a_message_CloneLog (.node n_slices_Sort_int_int a_slices_Sort_int_int (.node n_slices_ContainsFunc_int_int a_slices_ContainsFunc_int_int (.node n_choose_Last a_choose_Last (.node n_message_MayLog a_message_MayLog .nil .nil) .nil) (.node n_replica_May_1 a_replica_May_1 .nil .nil)) (.node n_slices_Clone_api_Do_api_Do a_slices_Clone_api_Do_api_Do (.node n_replica_step_anew a_replica_step_anew .nil .nil) (.node n_message_Clone a_message_Clone .nil .nil))) (.node n_cmp_Less_int a_cmp_Less_int (.node n_slices_pdqsortOrdered_int a_slices_pdqsortOrdered_int (.node n_slices_IndexFunc_int_int a_slices_IndexFunc_int_int (.node n_slices_Clone_int_int a_slices_Clone_int_int .nil .nil) .nil) (.node n_math_bits_Len a_math_bits_Len .nil .nil)) (.node n_slices_insertionSortOrdered_int a_slices_insertionSortOrdered_int (.node n_cmp_isNaN_int a_cmp_isNaN_int .nil .nil) (.node n_math_bits_Len64 a_math_bits_Len64 .nil .nil)))))
theorem faOk : FA.Ok Tryz.prog:=⟨k_replica_within,⟨k_replica_Primary,⟨k_replica_step_normal,⟨k_replica_begin,⟨k_replica_Tick,⟨k_law17_awake,trivial,trivial⟩,trivial⟩,⟨k_replica_May,trivial,trivial⟩⟩,⟨k_replica_New,⟨k_replica_step_all,trivial,trivial⟩,⟨k_law0_Num,trivial,trivial⟩⟩⟩,⟨k_replica_step_leads,⟨k_replica_step_end,⟨k_replica_step_enter,⟨k_replica_Committed,trivial,trivial⟩,trivial⟩,⟨k_replica_step_start,trivial,trivial⟩⟩,⟨k_replica_Clone,⟨k_replica_step_send,trivial,trivial⟩,⟨k_repair_Nodes,trivial,trivial⟩⟩⟩⟩,⟨k_message_CloneLog,⟨k_slices_Sort_int_int,⟨k_slices_ContainsFunc_int_int,⟨k_choose_Last,⟨k_message_MayLog,trivial,trivial⟩,trivial⟩,⟨k_replica_May_1,trivial,trivial⟩⟩,⟨k_slices_Clone_api_Do_api_Do,⟨k_replica_step_anew,trivial,trivial⟩,⟨k_message_Clone,trivial,trivial⟩⟩⟩,⟨k_cmp_Less_int,⟨k_slices_pdqsortOrdered_int,⟨k_slices_IndexFunc_int_int,⟨k_slices_Clone_int_int,trivial,trivial⟩,trivial⟩,⟨k_math_bits_Len,trivial,trivial⟩⟩,⟨k_slices_insertionSortOrdered_int,⟨k_cmp_isNaN_int,trivial,trivial⟩,⟨k_math_bits_Len64,trivial,trivial⟩⟩⟩⟩⟩
theorem awake17Runs : vcall (noOrc false) false (λ_=>none) FA.find 300 16 n_law17_awake [] (λ_=>none) [] 0 isT = true:=by kernel_rfl
theorem awake17 : SaysTrue Tryz.prog n_law17_awake:=λw=>law_true (T:=λb : Bool=>b = true) (val:=v0) (by decide) (λ_ _ _ h=>isT_elim h) (noOrc_ok (by decide) _) mixedV (λf c h=>by cases h) (FTree.ok faOk) awake17Runs w [] trivial
end Go.Proofs.YtnnjlnkoomeadaaGreat.Pv
namespace Go.Proofs.YtnnjlnkoomeadaaGreat.Pv
open Go.Ev Go.Ev.Rp
set_option maxRecDepth 100000
set_option linter.unusedVariables false
def qI : Fz → List SV → Prop:=λ_ c=>∃ i : Int,(Lit.int .i64 i).wf = true ∧ c = [I i]
def qS : Fz → List SV → Prop:=λ_ c=>∃ t : Tx,t.l ≤ reachBytes ∧ c = [t.sv]
def qB : Fz → List SV → Prop:=λ_ c=>∃ b,c = [SV.bool b]
structure LgW (l : Lg) : Prop where
  snap : l.snap.l ≤ reachBytes
  ents : l.ents.length * 56 ≤ reachBytes
  bat : ∀ e ∈ l.ents,e.batch.length * 32 ≤ reachBytes
structure RepW (r : Rep) : Prop where
  log : LgW r.log
  acks : r.acks.length * 8 ≤ reachBytes
  starts : r.starts.length * 8 ≤ reachBytes
  dos : r.dos.length * 72 ≤ reachBytes
  dlog : ∀ d ∈ r.dos,LgW d.log
def qP : Fz → List SV → Prop:=λ_ c=>∃ p : Pt,c = ptC p
def qPs : Fz → List SV → Prop:=λM c=>∃ x l,c = [x] ∧ PtsR M x l ∧ l.length * 32 ≤ reachBytes
def qE : Fz → List SV → Prop:=λM c=>∃ b e,c = entC e b ∧ PtsR M b e.batch ∧ e.batch.length * 32 ≤ reachBytes
def qEs : Fz → List SV → Prop:=λM c=>∃ x l,c = [x] ∧ EntsR M x l ∧ l.length * 56 ≤ reachBytes ∧ ∀ e ∈ l,e.batch.length * 32 ≤ reachBytes
def qL : Fz → List SV → Prop:=λM c=>∃ x l,c = lgC l x ∧ EntsR M x l.ents ∧ LgW l
def qIs : Fz → List SV → Prop:=λM c=>∃ x l,c = [x] ∧ IntsR M x l ∧ l.length * 8 ≤ reachBytes
def qD : Fz → List SV → Prop:=λM c=>∃ x d,c = dvC d x ∧ EntsR M x d.log.ents ∧ LgW d.log
def qDs : Fz → List SV → Prop:=λM c=>∃ x l,c = [x] ∧ DvsR M x l ∧ l.length * 72 ≤ reachBytes ∧ ∀ d ∈ l,LgW d.log
def qR : Fz → List SV → Prop:=λM c=>∃ xe xa xs xd r,c = repC r xe xa xs xd ∧ RepS M r xe xa xs xd ∧ RepW r
theorem qI_m : Mono qI:=λ_ _ _ _ h=>h
theorem qS_m : Mono qS:=λ_ _ _ _ h=>h
theorem qB_m : Mono qB:=λ_ _ _ _ h=>h
theorem qP_m : Mono qP:=λ_ _ _ _ h=>h
theorem qPs_m : Mono qPs:=λ_ _ _ s ⟨x,l,h1,h2,h3⟩=>⟨x,l,h1,PtsR.mono s h2,h3⟩
theorem qE_m : Mono qE:=λ_ _ _ s ⟨b,e,h1,h2,h3⟩=>⟨b,e,h1,PtsR.mono s h2,h3⟩
theorem qEs_m : Mono qEs:=λ_ _ _ s ⟨x,l,h1,h2,h3⟩=>⟨x,l,h1,EntsR.mono s h2,h3⟩
theorem qL_m : Mono qL:=λ_ _ _ s ⟨x,l,h1,h2,h3⟩=>⟨x,l,h1,EntsR.mono s h2,h3⟩
theorem qIs_m : Mono qIs:=λ_ _ _ s ⟨x,l,h1,h2,h3⟩=>⟨x,l,h1,IntsR.mono s h2,h3⟩
theorem qD_m : Mono qD:=λ_ _ _ s ⟨x,d,h1,h2,h3⟩=>⟨x,d,h1,EntsR.mono s h2,h3⟩
theorem qDs_m : Mono qDs:=λ_ _ _ s ⟨x,l,h1,h2,h3⟩=>⟨x,l,h1,DvsR.mono s h2,h3⟩
section
variable {H : Type} {enc : TypeId × Value → H} {w : World}
theorem im_int : ImpT enc Tryz.prog w 3 qI:=impT_int Tryz.underlying3
theorem im_bool : ImpT enc Tryz.prog w 4 qB:=impT_bool Tryz.underlying4
theorem im_str : ImpT enc Tryz.prog w 9 qS:=(impT_str Tryz.underlying9).mono λ_ _ ⟨l,m,h1,h2,h3⟩=>⟨⟨l,m,h1⟩,h2,h3⟩
theorem im_pt : ImpT enc Tryz.prog w 88 qP:=by
  refine (impT_struct Tryz.underlying88 [(9,qS),(3,qI),(3,qI)] rfl (by decide +kernel) (by decide +kernel) ?_ ?_).mono ?_
  · intro p hp; simp only [List.mem_cons,List.not_mem_nil,or_false] at hp; rcases hp with rfl | rfl | rfl <;> first | exact qS_m | exact qI_m
  · intro p hp; simp only [List.mem_cons,List.not_mem_nil,or_false] at hp; rcases hp with rfl | rfl | rfl <;> first | exact im_str | exact im_int
  · rintro M c ⟨cs,rfl,h⟩
    obtain ⟨c0,c1,c2,rfl⟩ : ∃ c0 c1 c2,cs = [c0,c1,c2]:=by
      have hl:=h.length
      rcases cs with _ | ⟨c0,cs⟩
      · simp at hl
      rcases cs with _ | ⟨c1,cs⟩
      · simp at hl
      rcases cs with _ | ⟨c2,cs⟩
      · simp at hl
      rcases cs with _ | ⟨c,cs⟩
      · exact ⟨c0,c1,c2,rfl⟩
      · simp at hl
    obtain ⟨h0,h1,h2,-⟩:=h
    obtain ⟨s,-,rfl⟩:=h0
    obtain ⟨a,-,rfl⟩:=h1
    obtain ⟨b,-,rfl⟩:=h2
    exact ⟨⟨s,a,b⟩,rfl⟩
theorem im_pts : ImpT enc Tryz.prog w 29 qPs:=by
  refine (impT_slice Tryz.underlying29 (s:=3) (b:=32) (by decide +kernel) (by decide) (by decide +kernel) qP_m im_pt).mono ?_
  rintro M c ⟨x,css,rfl,h1,h2,h3⟩
  have hl : ∃ l : List Pt,css = l.map ptC:=by
    clear h1 h2
    induction css with
    | nil=>exact ⟨[],rfl⟩
    | cons d css ih =>
      obtain ⟨l,hl⟩:=ih λd hd=>h3 d (by simp [hd])
      obtain ⟨p,rfl⟩:=h3 d (by simp)
      exact ⟨p :: l,by rw [hl]; rfl⟩
  obtain ⟨l,rfl⟩:=hl
  exact ⟨x,l,rfl,h1,by simpa using h2⟩
theorem im_ent : ImpT enc Tryz.prog w 31 qE:=by
  refine (impT_struct Tryz.underlying31 [(3,qI),(3,qI),(3,qI),(3,qI),(29,qPs)] rfl (by decide +kernel) (by decide +kernel) ?_ ?_).mono ?_
  · intro p hp; simp only [List.mem_cons,List.not_mem_nil,or_false] at hp; rcases hp with rfl | rfl | rfl | rfl | rfl <;> first | exact qI_m | exact qPs_m
  · intro p hp; simp only [List.mem_cons,List.not_mem_nil,or_false] at hp; rcases hp with rfl | rfl | rfl | rfl | rfl <;> first | exact im_int | exact im_pts
  · rintro M c ⟨cs,rfl,h⟩
    obtain ⟨c0,c1,c2,c3,c4,rfl⟩ : ∃ c0 c1 c2 c3 c4,cs = [c0,c1,c2,c3,c4]:=by
      have hl:=h.length
      rcases cs with _ | ⟨c0,cs⟩
      · simp at hl
      rcases cs with _ | ⟨c1,cs⟩
      · simp at hl
      rcases cs with _ | ⟨c2,cs⟩
      · simp at hl
      rcases cs with _ | ⟨c3,cs⟩
      · simp at hl
      rcases cs with _ | ⟨c4,cs⟩
      · simp at hl
      rcases cs with _ | ⟨c,cs⟩
      · exact ⟨c0,c1,c2,c3,c4,rfl⟩
      · simp at hl
    obtain ⟨h0,h1,h2,h3,h4,-⟩:=h
    obtain ⟨a,-,rfl⟩:=h0
    obtain ⟨b,-,rfl⟩:=h1
    obtain ⟨c,-,rfl⟩:=h2
    obtain ⟨d,-,rfl⟩:=h3
    obtain ⟨x,l,rfl,g1,g2⟩:=h4
    exact ⟨x,⟨a,b,c,d,l⟩,rfl,g1,g2⟩
theorem im_ents : ImpT enc Tryz.prog w 22 qEs:=by
  refine (impT_slice Tryz.underlying22 (s:=5) (b:=56) (by decide +kernel) (by decide) (by decide +kernel) qE_m im_ent).mono ?_
  rintro M c ⟨x,css,rfl,h1,h2,h3⟩
  have hl : ∃ l : List Ent,All2 (EntR M) css l ∧ ∀ e ∈ l,e.batch.length * 32 ≤ reachBytes:=by
    clear h1 h2
    induction css with
    | nil=>exact ⟨[],trivial,λe he=>(by cases he)⟩
    | cons d css ih =>
      obtain ⟨l,hl⟩:=ih λd hd=>h3 d (by simp [hd])
      obtain ⟨b,e,rfl,g1,g2⟩:=h3 d (by simp)
      exact ⟨e :: l,⟨⟨b,rfl,g1⟩,hl.1⟩,λe he=>by rcases List.mem_cons.1 he with rfl | he; exact g2; exact hl.2 e he⟩
  obtain ⟨l,hl,hb⟩:=hl
  exact ⟨x,l,rfl,⟨css,h1,hl⟩,by rw [← hl.length]; exact h2,hb⟩
theorem im_log : ImpT enc Tryz.prog w 24 qL:=by
  refine (impT_struct Tryz.underlying24 [(3,qI),(9,qS),(22,qEs)] rfl (by decide +kernel) (by decide +kernel) ?_ ?_).mono ?_
  · intro p hp; simp only [List.mem_cons,List.not_mem_nil,or_false] at hp; rcases hp with rfl | rfl | rfl <;> first | exact qI_m | exact qS_m | exact qEs_m
  · intro p hp; simp only [List.mem_cons,List.not_mem_nil,or_false] at hp; rcases hp with rfl | rfl | rfl <;> first | exact im_int | exact im_str | exact im_ents
  · rintro M c ⟨cs,rfl,h⟩
    obtain ⟨c0,c1,c2,rfl⟩ : ∃ c0 c1 c2,cs = [c0,c1,c2]:=by
      have hl:=h.length
      rcases cs with _ | ⟨c0,cs⟩
      · simp at hl
      rcases cs with _ | ⟨c1,cs⟩
      · simp at hl
      rcases cs with _ | ⟨c2,cs⟩
      · simp at hl
      rcases cs with _ | ⟨c,cs⟩
      · exact ⟨c0,c1,c2,rfl⟩
      · simp at hl
    obtain ⟨h0,h1,h2,-⟩:=h
    obtain ⟨a,-,rfl⟩:=h0
    obtain ⟨s,hs,rfl⟩:=h1
    obtain ⟨x,l,rfl,g1,g2,g3⟩:=h2
    exact ⟨x,⟨a,s,l⟩,rfl,g1,hs,g2,g3⟩
theorem im_ints : ImpT enc Tryz.prog w 25 qIs:=by
  refine (impT_slice Tryz.underlying25 (s:=1) (b:=8) (by decide +kernel) (by decide) (by decide +kernel) qI_m im_int).mono ?_
  rintro M c ⟨x,css,rfl,h1,h2,h3⟩
  have hl : ∃ l : List Int,css = l.map intC:=by
    clear h1 h2
    induction css with
    | nil=>exact ⟨[],rfl⟩
    | cons d css ih =>
      obtain ⟨l,hl⟩:=ih λd hd=>h3 d (by simp [hd])
      obtain ⟨i,-,rfl⟩:=h3 d (by simp)
      exact ⟨i :: l,by rw [hl]; rfl⟩
  obtain ⟨l,rfl⟩:=hl
  exact ⟨x,l,rfl,h1,by simpa using h2⟩
theorem im_do : ImpT enc Tryz.prog w 56 qD:=by
  refine (impT_struct Tryz.underlying56 [(3,qI),(3,qI),(3,qI),(24,qL)] rfl (by decide +kernel) (by decide +kernel) ?_ ?_).mono ?_
  · intro p hp; simp only [List.mem_cons,List.not_mem_nil,or_false] at hp; rcases hp with rfl | rfl | rfl | rfl <;> first | exact qI_m | exact qL_m
  · intro p hp; simp only [List.mem_cons,List.not_mem_nil,or_false] at hp; rcases hp with rfl | rfl | rfl | rfl <;> first | exact im_int | exact im_log
  · rintro M c ⟨cs,rfl,h⟩
    obtain ⟨c0,c1,c2,c3,rfl⟩ : ∃ c0 c1 c2 c3,cs = [c0,c1,c2,c3]:=by
      have hl:=h.length
      rcases cs with _ | ⟨c0,cs⟩
      · simp at hl
      rcases cs with _ | ⟨c1,cs⟩
      · simp at hl
      rcases cs with _ | ⟨c2,cs⟩
      · simp at hl
      rcases cs with _ | ⟨c3,cs⟩
      · simp at hl
      rcases cs with _ | ⟨c,cs⟩
      · exact ⟨c0,c1,c2,c3,rfl⟩
      · simp at hl
    obtain ⟨h0,h1,h2,h3,-⟩:=h
    obtain ⟨a,-,rfl⟩:=h0
    obtain ⟨b,-,rfl⟩:=h1
    obtain ⟨c,-,rfl⟩:=h2
    obtain ⟨x,l,rfl,g1,g2⟩:=h3
    exact ⟨x,⟨a,b,c,l⟩,rfl,g1,g2⟩
theorem im_dos : ImpT enc Tryz.prog w 26 qDs:=by
  refine (impT_slice Tryz.underlying26 (s:=6) (b:=72) (by decide +kernel) (by decide) (by decide +kernel) qD_m im_do).mono ?_
  rintro M c ⟨x,css,rfl,h1,h2,h3⟩
  have hl : ∃ l : List Dv,All2 (DvR M) css l ∧ ∀ d ∈ l,LgW d.log:=by
    clear h1 h2
    induction css with
    | nil=>exact ⟨[],trivial,λe he=>(by cases he)⟩
    | cons d css ih =>
      obtain ⟨l,hl⟩:=ih λd hd=>h3 d (by simp [hd])
      obtain ⟨b,e,rfl,g1,g2⟩:=h3 d (by simp)
      exact ⟨e :: l,⟨⟨b,rfl,g1⟩,hl.1⟩,λe he=>by rcases List.mem_cons.1 he with rfl | he; exact g2; exact hl.2 e he⟩
  obtain ⟨l,hl,hb⟩:=hl
  exact ⟨x,l,rfl,⟨css,h1,hl⟩,by rw [← hl.length]; exact h2,hb⟩
theorem im_rep : ImpT enc Tryz.prog w 28 qR:=by
  refine (impT_struct Tryz.underlying28 [(3,qI),(3,qI),(3,qI),(3,qI),(3,qI),(3,qI),(4,qB),(24,qL),(25,qIs),(25,qIs),(26,qDs)] rfl (by decide +kernel) (by decide +kernel) ?_ ?_).mono ?_
  · intro p hp; simp only [List.mem_cons,List.not_mem_nil,or_false] at hp; rcases hp with rfl | rfl | rfl | rfl | rfl | rfl | rfl | rfl | rfl | rfl | rfl <;> first | exact qI_m | exact qB_m | exact qL_m | exact qIs_m | exact qDs_m
  · intro p hp; simp only [List.mem_cons,List.not_mem_nil,or_false] at hp; rcases hp with rfl | rfl | rfl | rfl | rfl | rfl | rfl | rfl | rfl | rfl | rfl <;> first | exact im_int | exact im_bool | exact im_log | exact im_ints | exact im_dos
  · rintro M c ⟨cs,rfl,h⟩
    obtain ⟨c0,c1,c2,c3,c4,c5,c6,c7,c8,c9,c10,rfl⟩ : ∃ c0 c1 c2 c3 c4 c5 c6 c7 c8 c9 c10,cs = [c0,c1,c2,c3,c4,c5,c6,c7,c8,c9,c10]:=by
      have hl:=h.length
      rcases cs with _ | ⟨c0,cs⟩
      · simp at hl
      rcases cs with _ | ⟨c1,cs⟩
      · simp at hl
      rcases cs with _ | ⟨c2,cs⟩
      · simp at hl
      rcases cs with _ | ⟨c3,cs⟩
      · simp at hl
      rcases cs with _ | ⟨c4,cs⟩
      · simp at hl
      rcases cs with _ | ⟨c5,cs⟩
      · simp at hl
      rcases cs with _ | ⟨c6,cs⟩
      · simp at hl
      rcases cs with _ | ⟨c7,cs⟩
      · simp at hl
      rcases cs with _ | ⟨c8,cs⟩
      · simp at hl
      rcases cs with _ | ⟨c9,cs⟩
      · simp at hl
      rcases cs with _ | ⟨c10,cs⟩
      · simp at hl
      rcases cs with _ | ⟨c,cs⟩
      · exact ⟨c0,c1,c2,c3,c4,c5,c6,c7,c8,c9,c10,rfl⟩
      · simp at hl
    obtain ⟨h0,h1,h2,h3,h4,h5,h6,h7,h8,h9,h10,-⟩:=h
    obtain ⟨a0,-,rfl⟩:=h0
    obtain ⟨a1,-,rfl⟩:=h1
    obtain ⟨a2,-,rfl⟩:=h2
    obtain ⟨a3,-,rfl⟩:=h3
    obtain ⟨a4,-,rfl⟩:=h4
    obtain ⟨a5,-,rfl⟩:=h5
    obtain ⟨b,rfl⟩:=h6
    obtain ⟨xe,l,rfl,g1,g2⟩:=h7
    obtain ⟨xa,la,rfl,g3,g4⟩:=h8
    obtain ⟨xs,ls,rfl,g5,g6⟩:=h9
    obtain ⟨xd,ld,rfl,g7,g8,g9⟩:=h10
    exact ⟨xe,xa,xs,xd,⟨a0,a1,a2,a3,a4,a5,b,l,la,ls,ld⟩,rfl,⟨g1,g3,g5,g7⟩,⟨g2,g4,g6,g8,g9⟩⟩
end
end Go.Proofs.YtnnjlnkoomeadaaGreat.Pv
