/-
  ReplicaTimers: part 8 of what the proof is made of.
-/
import Derived.Test.YtnnjlnkoomeadaaGreatReplicaTimersP7
import Derived.Deep.Slices
import Derived.ChangeArms
import Derived.DataReads
import Derived.SizedLaws
import Derived.Carry
import Derived.OpenShut
import Derived.Test.YtnnjlnkoomeadaaGreatRows
import Derived.KernelRfl
import Derived.Below
import Derived.Shelf.Sort.Plain
import Derived.Test.YtnnjlnkoomeadaaGreatProg
set_option linter.unusedVariables false
set_option linter.unusedSimpArgs false
set_option linter.unusedSectionVars false
noncomputable section
open Int renaming reduceEq → zA,reduceNe → zB,reduceLT → zC,reduceLE → zD,reduceNeg → zE,reduceAdd → zF,reduceSub → zG,reduceToNat → zH
open Nat renaming reduceEqDiff → zI,reduceAdd → zJ,reduceMul → zK,reduceSub → zL,reduceLeDiff → zM,reduceBEq → zN,reduceLT → zO,reduceBneDiff → zP
namespace Go.Proofs.YtnnjlnkoomeadaaGreat.Pv
open Go.Ev Go.Ev.Rp
set_option maxRecDepth 100000
set_option maxHeartbeats 4000000
variable {P : Program} (H : Fs P)
include H
theorem ref16_Beat (r : Rep) (xe xa xs xd : SV) (hz : RepSz r) (hok1 : Ok r.log) (hok2 : ∀ d ∈ r.dos, Ok d.log) : Ctr P n_Qc6 [.ag (repC r xe xa xs xd)] (fun M => RepS M r xe xa xs xd) (fun n _ M v => StepP (beatS r) n M v) := Ctr.of H.mx H.Qc6 (fun _ => 0) fun fz mu n k hfr s1 hk => by
 obtain ⟨-,-,xek,xem⟩:=s1.1.len
 obtain ⟨-,-,xak,xam⟩:=s1.2.1.len
 obtain ⟨-,-,xsk,xsm⟩:=s1.2.2.1.len
 obtain ⟨-,-,xdk,xdm⟩:=s1.2.2.2.len
 have hC:=ref16_Copy H r xe xa xs xd hz
 have hM:=ref16_May H r xe xa xs xd (RepSz.s r hz).1 (RepSz.s r hz).2.1 (RepSz.s r hz).2.2 hok1 hok2
 have hLd:=ref16_lead H r xe xa xs xd
 have hLa:=ref16_Last H r.log xe
 have hkH:=Hide.mk hk
 clear hk
 unfold lgC at hLa
 unfold repC at hC hM hLd ⊢
 rw [i_Qc6,dc_at b_Qc6.eq_1]
 simp only [↓E1,E2,zA,zB,zC,zD,zE,zF,zG,zH,zI,zJ,zK,zL,zM,zN,reduceIte,zO,zP, *]
 refine CPr.abs2 hfr λm1 n1 g1 l1 b1 b2=>?_
 have u1:=g1.sub hfr (Nat.le_refl _)
 have w1:=Qdl (fz:=fz) b1
 have w2:=Qdl (fz:=fz) b2
 refine hM.q0 g1.free (RepS.mono u1 s1) ?_
 rintro v n3 l3 rfl
 rcases Qjo r with ⟨h1,hT⟩ | ⟨h1,N,hN,h1N,hN7,hcs⟩
 ·simp only [↓E1,E2,zA,zB,zC,zD,zE,zF,zG,zH,zI,zJ,zK,zL,zM,zN,reduceIte,zO,zP, *,E3]
  refine hC.c1 (g1.free.le l3) (RepS.mono u1 s1) ?_
  rintro v m6 n6 g6 ⟨ye,ya,ys,yd,o,rfl,ho,hT6⟩
  have l6:=g6.le
  have c2:=(g6.own (n + 1) (by omega)).trans b2
  have gz:=((g1.le2 l3).trans (g6.weaken (by omega))).put (id:=n + 1) (by omega) c2 (c:=[I r.me,I r.nodes,I r.view,I r.normal,I r.status,I r.commit,.bool r.sent,I r.log.base,r.log.snap.sv,ye,ya,ys,yd])
  have hT2:=hT6.keep (M':=with' (putS m6 (n + 1) [I r.me,I r.nodes,I r.view,I r.normal,I r.status,I r.commit,.bool r.sent,I r.log.base,r.log.snap.sv,ye,ya,ys,yd]) fz) (o':=o) λt h6 h7=>Tag.put (lookI c2) (by rw [ho _ (by omega)]; omega)
  obtain ⟨⟨es,t1,t2⟩,t3,t4,ds,t5,t6⟩:=hT6
  obtain ⟨-,-,zek,zem⟩:=t1.len
  obtain ⟨-,-,zak,zam⟩:=SlX.len t3
  obtain ⟨-,-,zsk,zsm⟩:=SlX.len t4
  obtain ⟨-,-,zdk,zdm⟩:=SlX.len t5
  have w2':=Qdl (fz:=fz) c2
  have hk:=hkH.out _ _ _ gz ⟨ye,ya,ys,yd,.nsl,o,by rw [hT] <;> rfl,λj hj=>ho j (by omega),by rw [hT]; exact hT2,by rw [hT]; exact ⟨[],.inl ⟨.inl rfl,rfl⟩,trivial⟩⟩
  clear hT t1 t2 t3 t4 t5 t6 w2 b2 b1 w1
  simp only [↓E1,E2,zA,zB,zC,zD,zE,zF,zG,zH,zI,zJ,zK,zL,zM,zN,reduceIte,zO,zP, *,E3]
  all_goals exact hk
 ·have hcsH:=Hide.mk hcs
  have hNH:=Hide.mk hN
  clear hcs hN
  simp only [↓E1,E2,zA,zB,zC,zD,zE,zF,zG,zH,zI,zJ,zK,zL,zM,zN,reduceIte,zO,zP, *,E3]
  refine hC.c1 (g1.free.le l3) (RepS.mono u1 s1) ?_
  rintro v m6 n6 g6 ⟨xe',xa',xs',xd',o6,rfl,ho6,hT6⟩
  have l6:=g6.le
  obtain ⟨⟨es,t1,t2⟩,t3,t4,ds,t5,t6⟩:=hT6
  have hT6 : RepT o6 (with' m6 fz) r xe' xa' xs' xd':=⟨⟨es,t1,t2⟩,t3,t4,ds,t5,t6⟩
  obtain ⟨-,-,zek,zem⟩:=t1.len
  obtain ⟨-,-,zak,zam⟩:=SlX.len t3
  obtain ⟨-,-,zsk,zsm⟩:=SlX.len t4
  obtain ⟨-,-,zdk,zdm⟩:=SlX.len t5
  have S7:=SW.ofCopy (lo:=n3) g6.free (λj hj=>hfr.fz j (by omega)) l6 ho6 hT6
  have g7 : Gr n3 fz m1 ((n6,stepC r xe' xa' xs' xd' .nsl false) :: m6) n3 (n6 + 1):=g6.cons l6 _
  clear t1 t2 t3 t4 t5 t6 hT6
  have hcellr : stepC r xe' xa' xs' xd' .nsl false = [I r.me,I r.nodes,I r.view,I r.normal,I r.status,I r.commit,.bool r.sent,I r.log.base,r.log.snap.sv,xe',xa',xs',xd',.nsl,.bool false]:=rfl
  rw [hcellr] at S7 g7
  obtain ⟨o7,ho7⟩ : ∃ o7,(λj=>if j = n6 then 9 else if j < n6 then o6 j else 0) = o7:=⟨_,rfl⟩
  rw [ho7] at S7
  have c1:=(g7.own n (by omega)).trans b1
  have c2:=(g7.own (n + 1) (by omega)).trans b2
  have hq1 : (n6 = n) = False:=by simp; omega
  have hq2 : (n6 = n + 1) = False:=by simp; omega
  have hns : (n + 1 = n6) = False:=by simp; omega
  have gg7:=(g1.le2 l3).trans (g7.weaken (show n ≤ n3 by omega))
  have hz1 : ∀ j,j < n3 → o7 j = 0:=S7.zero
  have hPm:=Qhn H n6 r xe' xa' xs' xd' .nsl false r.view
  have hfinS : ∀ (m : St) (n' : Nat) (out : List Msg) (oo : Nat → Nat) (pe pa ps pd po : SV),SW n3 fz n6 oo m n' r out false pe pa ps pd po → Ev.look m (n + 1) = some [I 0,I 0,I 0,I 0,I 0,I 0,.bool false,I 0,.str 0 0,.nsl,.nsl,.nsl,.nsl] → Gr n fz mu m n n' → beatS r = (r,out) →
   k (.tp [.ag [I r.me,I r.nodes,I r.view,I r.normal,I r.status,I r.commit,.bool r.sent,I r.log.base,r.log.snap.sv,pe,pa,ps,pd],.one po]) ((n + 1,[I r.me,I r.nodes,I r.view,I r.normal,I r.status,I r.commit,.bool r.sent,I r.log.base,r.log.snap.sv,pe,pa,ps,pd]) :: killS m (n + 1)) n':=λm n' out oo pe pa ps pd po S e2 g hT=>by
   have S':=S.put0 (c:=[I r.me,I r.nodes,I r.view,I r.normal,I r.status,I r.commit,.bool r.sent,I r.log.base,r.log.snap.sv,pe,pa,ps,pd]) e2 (S.zero _ (by omega))
   have g':=g.put (id:=n + 1) (by omega) e2 (c:=[I r.me,I r.nodes,I r.view,I r.normal,I r.status,I r.commit,.bool r.sent,I r.log.base,r.log.snap.sv,pe,pa,ps,pd])
   have hX:=Qpe (c:=[I r.me,I r.nodes,I r.view,I r.normal,I r.status,I r.commit,.bool r.sent,I r.log.base,r.log.snap.sv,pe,pa,ps,pd]) e2
   have hXw:=Qhy (fz:=fz) hX
   exact hkH.out _ _ _ (g'.congr hX) ⟨pe,pa,ps,pd,po,oo,by rw [hT] <;> rfl,λj hj=>S.zero j (by omega),by rw [hT,hXw]; exact S'.rt,by rw [hT,hXw]; exact S'.ot⟩
  have hfinSH:=Hide.mk hfinS
  obtain ⟨⟨yek,yem⟩,⟨yak,yam⟩,⟨ysk,ysm⟩,⟨ydk,ydm⟩,yok,yom⟩:=S7.ks
  have v1:=Qdl (fz:=fz) ((g6.own n (by omega)).trans b1)
  have v2:=Qdl (fz:=fz) ((g6.own (n + 1) (by omega)).trans b2)
  clear hfinS hcellr w1 w2
  simp only [↓E1,E2,zA,zB,zC,zD,zE,zF,zG,zH,zI,zJ,zK,zL,zM,zN,reduceIte,zO,zP, *,E3]
  refine hPm.q1 S7.free (Qdl S7.cells) ?_
  rintro v n8 l8 rfl
  obtain ⟨m7,hm7⟩ : ∃ m,((n6,[I r.me,I r.nodes,I r.view,I r.normal,I r.status,I r.commit,.bool r.sent,I r.log.base,r.log.snap.sv,xe',xa',xs',xd',.nsl,.bool false]) :: m6) = m:=⟨_,rfl⟩
  rw [hm7] at S7 g7 c1 c2 gg7
  try rw [hm7]
  have w1:=Qdl (fz:=fz) c1
  have w2:=Qdl (fz:=fz) c2
  have ws:=Qdl (fz:=fz) S7.cells
  have S7:=S7.le l8
  have gg7:=gg7.le2 l8
  have u7:=gg7.sub hfr (Nat.le_refl _)
  unfold stepC repC at ws
  clear v1 v2 hPm ho7
  simp only [↓E1,E2,zA,zB,zC,zD,zE,zF,zG,zH,zI,zJ,zK,zL,zM,zN,reduceIte,zO,zP, *,E3]
  clear hm7
  refine hLd.q0 S7.free (RepS.mono u7 s1) ?_
  rintro v n4 l4 rfl
  have S4:=S7.le l4
  have gg4:=gg7.le2 l4
  rcases hcsH.out with ⟨h2,hT⟩ | ⟨h2,h3,h4,hT⟩ | ⟨h2,h3,h4,h5,hT⟩ | ⟨h2,h3,h4,h5,hT⟩ | ⟨h2,h3,h4,hT⟩ | ⟨h2,h3,h4,h5,hT⟩ | ⟨h2,h3,h4,h5,hT⟩
  ·have hTH:=Hide.mk hT
   clear hT hcsH
   simp only [↓E1,E2,zA,zB,zC,zD,zE,zF,zG,zH,zI,zJ,zK,zL,zM,zN,reduceIte,zO,zP, *,E3]
   refine hLa.q1 S4.free (RepS.mono u7 s1).1 ?_
   rintro v n5 l5 rfl
   have S4:=S4.le l5
   have gg4:=gg4.le2 l5
   simp only [↓E1,E2,zA,zB,zC,zD,zE,zF,zG,zH,zI,zJ,zK,zL,zM,zN,reduceIte,zO,zP, *,E3]
   have hAll:=λ(k : KT Prop) (w : WK k)=>Qh8 H S4 (beatM r) .nsl .nsl (.inl ⟨.inl rfl,rfl⟩) (nilE _) (Qp3 r).log (by simp) (N:=N) hNH.out hN7 (k:=k) (w:=w)
   refine hAll _ _ λm5 n5 o5 xo5 S5 K5=>?_
   clear hAll
   rw [List.nil_append] at S5
   have ln5:=K5.le
   have z5 : ∀ j,j < n3 → o5 j = 0:=λj hj=>by rw [K5.tags j (by omega)]; exact hz1 j hj
   have e1:=(K5.keep n (by omega) (by omega) (by rw [hz1 n (by omega)]; omega)).trans c1
   have e2:=(K5.keep (n + 1) (by omega) (by omega) (by rw [hz1 (n + 1) (by omega)]; omega)).trans c2
   have g5:=gg4.trans ((K5.gr S5.free S7.los (by omega) S7.zero (by omega)).weaken (show n ≤ n3 by omega))
   have ws5:=Qdl (fz:=fz) S5.cells
   have w15:=Qdl (fz:=fz) e1
   obtain ⟨-,-,-,-,vok,vom⟩:=S5.ks
   unfold stepC repC at ws5
   clear w1 w2 ws
   have hT:=hTH.out
   have hk:=hfinSH.out _ _ _ _ _ _ _ _ _ S5 e2 g5 hT
   clear hT
   try simp only [↓E1,E2,zA,zB,zC,zD,zE,zF,zG,zH,zI,zJ,zK,zL,zM,zN,reduceIte,zO,zP, *,E3]
   rw [Qej e2 rfl]
   have hwz:=(Qdq (fz:=fz) (show Ev.look (killS m5 (n + 1)) n6 = Ev.look m5 n6 by rw [Qdz,if_neg (by omega)])).trans (Qdl S5.cells)
   unfold stepC repC at hwz
   clear ws5
   simp only [↓E1,E2,zA,zB,zC,zD,zE,zF,zG,zH,zI,zJ,zK,zL,zM,zN,reduceIte,zO,zP, *,E3]
   all_goals first | exact hk | (rw [h4] at hk; exact hk)
  ·have h4H:=Hide.mk h4
   clear h4
   have hTH:=Hide.mk hT
   clear hT hcsH
   simp only [↓E1,E2,zA,zB,zC,zD,zE,zF,zG,zH,zI,zJ,zK,zL,zM,zN,reduceIte,zO,zP, *,E3]
   have hAll:=λ(k : KT Prop) (w : WK k)=>Qh8 H S4 (Qek r.view) .nsl .nsl (.inl ⟨.inl rfl,rfl⟩) (nilE _) (Qe9 r.view).log (by simp) (N:=N) hNH.out hN7 (k:=k) (w:=w)
   refine hAll _ _ λm5 n5 o5 xo5 S5 K5=>?_
   clear hAll
   rw [List.nil_append] at S5
   have ln5:=K5.le
   have z5 : ∀ j,j < n3 → o5 j = 0:=λj hj=>by rw [K5.tags j (by omega)]; exact hz1 j hj
   have e1:=(K5.keep n (by omega) (by omega) (by rw [hz1 n (by omega)]; omega)).trans c1
   have e2:=(K5.keep (n + 1) (by omega) (by omega) (by rw [hz1 (n + 1) (by omega)]; omega)).trans c2
   have g5:=gg4.trans ((K5.gr S5.free S7.los (by omega) S7.zero (by omega)).weaken (show n ≤ n3 by omega))
   have ws5:=Qdl (fz:=fz) S5.cells
   have w15:=Qdl (fz:=fz) e1
   obtain ⟨-,-,-,-,vok,vom⟩:=S5.ks
   unfold stepC repC at ws5
   clear w1 w2 ws
   have h4:=h4H.out
   have hT:=hTH.out
   have hk:=hfinSH.out _ _ _ _ _ _ _ _ _ S5 e2 g5 hT
   clear hT
   try simp only [↓E1,E2,zA,zB,zC,zD,zE,zF,zG,zH,zI,zJ,zK,zL,zM,zN,reduceIte,zO,zP, *,E3]
   rw [Qej e2 rfl]
   have hwz:=(Qdq (fz:=fz) (show Ev.look (killS m5 (n + 1)) n6 = Ev.look m5 n6 by rw [Qdz,if_neg (by omega)])).trans (Qdl S5.cells)
   unfold stepC repC at hwz
   clear ws5
   simp only [↓E1,E2,zA,zB,zC,zD,zE,zF,zG,zH,zI,zJ,zK,zL,zM,zN,reduceIte,zO,zP, *,E3]
   all_goals first | exact hk | (rw [h4] at hk; exact hk)
  ·have h4H:=Hide.mk h4
   clear h4
   have h5H:=Hide.mk (show decide (prim r.view r.nodes = r.me) = true from h5)
   clear h5
   have hTH:=Hide.mk hT
   clear hT hcsH
   simp only [↓E1,E2,zA,zB,zC,zD,zE,zF,zG,zH,zI,zJ,zK,zL,zM,zN,reduceIte,zO,zP, *,E3]
   have hAll:=λ(k : KT Prop) (w : WK k)=>Qh8 H S4 (Qek r.view) .nsl .nsl (.inl ⟨.inl rfl,rfl⟩) (nilE _) (Qe9 r.view).log (by simp) (N:=N) hNH.out hN7 (k:=k) (w:=w)
   refine hAll _ _ λm5 n5 o5 xo5 S5 K5=>?_
   clear hAll
   rw [List.nil_append] at S5
   have ln5:=K5.le
   have z5 : ∀ j,j < n3 → o5 j = 0:=λj hj=>by rw [K5.tags j (by omega)]; exact hz1 j hj
   have e1:=(K5.keep n (by omega) (by omega) (by rw [hz1 n (by omega)]; omega)).trans c1
   have e2:=(K5.keep (n + 1) (by omega) (by omega) (by rw [hz1 (n + 1) (by omega)]; omega)).trans c2
   have g5:=gg4.trans ((K5.gr S5.free S7.los (by omega) S7.zero (by omega)).weaken (show n ≤ n3 by omega))
   have ws5:=Qdl (fz:=fz) S5.cells
   have w15:=Qdl (fz:=fz) e1
   obtain ⟨-,-,-,-,vok,vom⟩:=S5.ks
   unfold stepC repC at ws5
   clear w1 w2 ws
   have h4:=h4H.out
   have h5:=h5H.out
   have hT:=hTH.out
   have hk:=hfinSH.out _ _ _ _ _ _ _ _ _ S5 e2 g5 hT
   clear hT
   try simp only [↓E1,E2,zA,zB,zC,zD,zE,zF,zG,zH,zI,zJ,zK,zL,zM,zN,reduceIte,zO,zP, *,E3]
   rw [Qej e2 rfl]
   have hwz:=(Qdq (fz:=fz) (show Ev.look (killS m5 (n + 1)) n6 = Ev.look m5 n6 by rw [Qdz,if_neg (by omega)])).trans (Qdl S5.cells)
   unfold stepC repC at hwz
   clear ws5
   simp only [↓E1,E2,zA,zB,zC,zD,zE,zF,zG,zH,zI,zJ,zK,zL,zM,zN,reduceIte,zO,zP, *,E3]
   all_goals first | exact hk | (rw [h4] at hk; exact hk)
  ·have h4H:=Hide.mk h4
   clear h4
   have h5H:=Hide.mk (show decide (prim r.view r.nodes = r.me) = false from h5)
   clear h5
   have hTH:=Hide.mk hT
   clear hT hcsH
   simp only [↓E1,E2,zA,zB,zC,zD,zE,zF,zG,zH,zI,zJ,zK,zL,zM,zN,reduceIte,zO,zP, *,E3]
   have hAll:=λ(k : KT Prop) (w : WK k)=>Qh8 H S4 (Qek r.view) .nsl .nsl (.inl ⟨.inl rfl,rfl⟩) (nilE _) (Qe9 r.view).log (by simp) (N:=N) hNH.out hN7 (k:=k) (w:=w)
   refine hAll _ _ λm5 n5 o5 xo5 S5 K5=>?_
   clear hAll
   rw [List.nil_append] at S5
   have ln5:=K5.le
   have z5 : ∀ j,j < n3 → o5 j = 0:=λj hj=>by rw [K5.tags j (by omega)]; exact hz1 j hj
   have e1:=(K5.keep n (by omega) (by omega) (by rw [hz1 n (by omega)]; omega)).trans c1
   have e2:=(K5.keep (n + 1) (by omega) (by omega) (by rw [hz1 (n + 1) (by omega)]; omega)).trans c2
   have g5:=gg4.trans ((K5.gr S5.free S7.los (by omega) S7.zero (by omega)).weaken (show n ≤ n3 by omega))
   have ws5:=Qdl (fz:=fz) S5.cells
   have w15:=Qdl (fz:=fz) e1
   obtain ⟨-,-,-,-,vok,vom⟩:=S5.ks
   unfold stepC repC at ws5
   clear w1 w2 ws
   have h4:=h4H.out
   have h5:=h5H.out
   simp only [↓E1,E2,zA,zB,zC,zD,zE,zF,zG,zH,zI,zJ,zK,zL,zM,zN,reduceIte,zO,zP, *,E3]
   refine Qsw H S5 hz.log (by have:=Qee r (Qek r.view) N; omega) λm9 n9 o9 xo9 S9 K9=>?_
   have e3:=(K9.keep (n + 1) (by omega) (by omega) (by rw [z5 (n + 1) (by omega)]; omega)).trans e2
   have g9:=g5.trans ((K9.gr S9.free S5.los (by omega) S5.zero (by omega)).weaken (show n ≤ n3 by omega))
   have ws9:=Qdl (fz:=fz) S9.cells
   obtain ⟨-,-,-,-,vok9,vom9⟩:=S9.ks
   unfold stepC repC at ws9
   have hT:=hTH.out
   clear ws5 K9 w15
   have hk:=hfinSH.out _ _ _ _ _ _ _ _ _ S9 e3 g9 hT
   clear hT
   try simp only [↓E1,E2,zA,zB,zC,zD,zE,zF,zG,zH,zI,zJ,zK,zL,zM,zN,reduceIte,zO,zP, *,E3]
   rw [Qej e3 rfl]
   have hwz:=(Qdq (fz:=fz) (show Ev.look (killS m9 (n + 1)) n6 = Ev.look m9 n6 by rw [Qdz,if_neg (by omega)])).trans (Qdl S9.cells)
   unfold stepC repC at hwz
   clear ws9
   simp only [↓E1,E2,zA,zB,zC,zD,zE,zF,zG,zH,zI,zJ,zK,zL,zM,zN,reduceIte,zO,zP, *,E3]
   all_goals first | exact hk | (rw [h4] at hk; exact hk)
  ·have hTH:=Hide.mk hT
   clear hT hcsH
   simp only [↓E1,E2,zA,zB,zC,zD,zE,zF,zG,zH,zI,zJ,zK,zL,zM,zN,reduceIte,zO,zP, *,E3]
   have hT:=hTH.out
   have hk:=hfinSH.out _ _ _ _ _ _ _ _ _ S4 c2 gg4 hT
   clear hT
   try simp only [↓E1,E2,zA,zB,zC,zD,zE,zF,zG,zH,zI,zJ,zK,zL,zM,zN,reduceIte,zO,zP, *,E3]
   rw [Qej c2 rfl]
   have hwz:=(Qdq (fz:=fz) (show Ev.look (killS m7 (n + 1)) n6 = Ev.look m7 n6 by rw [Qdz,if_neg (by omega)])).trans (Qdl S4.cells)
   unfold stepC repC at hwz
   clear ws w1 w2
   simp only [↓E1,E2,zA,zB,zC,zD,zE,zF,zG,zH,zI,zJ,zK,zL,zM,zN,reduceIte,zO,zP, *,E3]
   all_goals first | exact hk | (rw [h4] at hk; exact hk)
  ·have h5H:=Hide.mk (show decide (prim r.view r.nodes = r.me) = true from h5)
   clear h5
   have hTH:=Hide.mk hT
   clear hT hcsH
   have h5:=h5H.out
   simp only [↓E1,E2,zA,zB,zC,zD,zE,zF,zG,zH,zI,zJ,zK,zL,zM,zN,reduceIte,zO,zP, *,E3]
   have hT:=hTH.out
   have hk:=hfinSH.out _ _ _ _ _ _ _ _ _ S4 c2 gg4 hT
   clear hT
   try simp only [↓E1,E2,zA,zB,zC,zD,zE,zF,zG,zH,zI,zJ,zK,zL,zM,zN,reduceIte,zO,zP, *,E3]
   rw [Qej c2 rfl]
   have hwz:=(Qdq (fz:=fz) (show Ev.look (killS m7 (n + 1)) n6 = Ev.look m7 n6 by rw [Qdz,if_neg (by omega)])).trans (Qdl S4.cells)
   unfold stepC repC at hwz
   clear ws w1 w2
   simp only [↓E1,E2,zA,zB,zC,zD,zE,zF,zG,zH,zI,zJ,zK,zL,zM,zN,reduceIte,zO,zP, *,E3]
   all_goals first | exact hk | (rw [h4] at hk; exact hk)
  ·have h5H:=Hide.mk (show decide (prim r.view r.nodes = r.me) = false from h5)
   clear h5
   have hTH:=Hide.mk hT
   clear hT hcsH
   have h5:=h5H.out
   have hPm:=Qhn H n6 r xe' xa' xs' xd' .nsl false r.view
   simp only [↓E1,E2,zA,zB,zC,zD,zE,zF,zG,zH,zI,zJ,zK,zL,zM,zN,reduceIte,zO,zP, *,E3]
   refine hPm.q1 S4.free (Qdl S4.cells) ?_
   rintro v n5 l5 rfl
   simp only [↓E1,E2,zA,zB,zC,zD,zE,zF,zG,zH,zI,zJ,zK,zL,zM,zN,reduceIte,zO,zP, *,E3]
   refine hLa.q1 (S4.free.le l5) (RepS.mono u7 s1).1 ?_
   rintro v n8' l8' rfl
   have S8:=(S4.le l5).le l8'
   have g8:=(gg4.le2 l5).le2 l8'
   simp only [↓E1,E2,zA,zB,zC,zD,zE,zF,zG,zH,zI,zJ,zK,zL,zM,zN,reduceIte,zO,zP, *,E3]
   have hSd:=λ(k : KT Prop) (w : WK k)=>Qk6 H S8 (prim r.view r.nodes) (askG r) .nsl .nsl (.inl ⟨.inl rfl,rfl⟩) (nilE _) (Qq6 r).log (by simp) (k:=k) (w:=w)
   refine hSd _ _ λm9 n9 o9 xo9 S9 K9=>?_
   clear hSd
   rw [List.nil_append] at S9
   have e3:=(K9.keep (n + 1) (by omega) (by omega) (by rw [hz1 (n + 1) (by omega)]; omega)).trans c2
   have g9:=g8.trans ((K9.gr S9.free S7.los (by omega) S7.zero (by omega)).weaken (show n ≤ n3 by omega))
   have ws9:=Qdl (fz:=fz) S9.cells
   obtain ⟨-,-,-,-,vok9,vom9⟩:=S9.ks
   unfold stepC repC at ws9
   have hT:=hTH.out
   clear ws K9 w1 w2
   have hk:=hfinSH.out _ _ _ _ _ _ _ _ _ S9 e3 g9 hT
   clear hT
   try simp only [↓E1,E2,zA,zB,zC,zD,zE,zF,zG,zH,zI,zJ,zK,zL,zM,zN,reduceIte,zO,zP, *,E3]
   rw [Qej e3 rfl]
   have hwz:=(Qdq (fz:=fz) (show Ev.look (killS m9 (n + 1)) n6 = Ev.look m9 n6 by rw [Qdz,if_neg (by omega)])).trans (Qdl S9.cells)
   unfold stepC repC at hwz
   clear ws9
   simp only [↓E1,E2,zA,zB,zC,zD,zE,zF,zG,zH,zI,zJ,zK,zL,zM,zN,reduceIte,zO,zP, *,E3]
   all_goals first | exact hk | (rw [h4] at hk; exact hk)
end Go.Proofs.YtnnjlnkoomeadaaGreat.Pv
namespace Go.Proofs.YtnnjlnkoomeadaaGreat.Pv
open Go.Ev Go.Ev.Rp
set_option maxRecDepth 100000
set_option maxHeartbeats 4000000
def Qeo (r : Rep) : Rep:=if repB r then { r with commit:=r.log.base,status:=if r.normal = r.view then 2 else 1,sent:=false,starts:=[],dos:=[],acks:=List.replicate r.nodes.toNat 0 } else r
def RstP (r : Rep) (n : Nat) (M : Fz) (v : AV) : Prop:=∃ xe xa xs xd o,v = .ag (repC r xe xa xs xd) ∧ (∀ j,j < n → o j = 0) ∧ RepT o M r xe xa xs xd
variable {P : Program} (H : Fs P)
include H
theorem replica_Restart (r : Rep) (xe xa xs xd : SV) (hz : RepSz r) : Ctr P n_Qbk [.ag (repC r xe xa xs xd)] (fun M => RepS M r xe xa xs xd) (fun n _ M v => RstP (Qeo r) n M v) := Ctr.of H.mx H.Qbk (fun _ => 0) fun fz mu n k hfr s1 hk => by
 obtain ⟨-,-,xek,xem⟩:=s1.1.len
 obtain ⟨-,-,xak,xam⟩:=s1.2.1.len
 obtain ⟨-,-,xsk,xsm⟩:=s1.2.2.1.len
 obtain ⟨-,-,xdk,xdm⟩:=s1.2.2.2.len
 have hC:=replica_Clone H r xe xa xs xd hz
 have hM:=replica_May H r xe xa xs xd (RepSz.s r hz).1 (RepSz.s r hz).2.1 (RepSz.s r hz).2.2
 have hkH:=Hide.mk hk
 clear hk
 unfold repC at hC hM ⊢
 rw [i_Qbk,dc_at b_Qbk.eq_1]
 simp only [↓E1,E2,zA,zB,zC,zD,zE,zF,zG,zH,zI,zJ,zK,zL,zM,zN,reduceIte,zO,zP, *]
 refine CPr.abs2 hfr λm1 n1 g1 l1 b1 b2=>?_
 have u1:=g1.sub hfr (Nat.le_refl _)
 refine hC.c1 g1.free (RepS.mono u1 s1) ?_
 rintro v m2 n2 g2 ⟨ye,ya,ys,yd,o,rfl,ho,hT⟩
 have l2:=g2.le
 have c1:=(g2.own n (by omega)).trans b1
 have c2:=(g2.own (n + 1) (by omega)).trans b2
 have w1:=Qdl (fz:=fz) c1
 have w2:=Qdl (fz:=fz) c2
 obtain ⟨⟨es,t1,t2⟩,t3,t4,ds,t5,t6⟩:=hT
 have hT : RepT o (with' m2 fz) r ye ya ys yd:=⟨⟨es,t1,t2⟩,t3,t4,ds,t5,t6⟩
 obtain ⟨-,-,yek,yem⟩:=t1.len
 obtain ⟨-,-,yak,yam⟩:=SlX.len t3
 obtain ⟨-,-,ysk,ysm⟩:=SlX.len t4
 obtain ⟨-,-,ydk,ydm⟩:=SlX.len t5
 have g3:=(g1.trans (g2.weaken (by omega))).cons (by omega) [I r.me,I r.nodes,I r.view,I r.normal,I r.status,I r.commit,.bool r.sent,I r.log.base,r.log.snap.sv,ye,ya,ys,yd]
 have g23:=(Gr.refl (lo:=n2) g2.free).cons (Nat.le_refl _) [I r.me,I r.nodes,I r.view,I r.normal,I r.status,I r.commit,.bool r.sent,I r.log.base,r.log.snap.sv,ye,ya,ys,yd]
 have hT3 : RepT (trim o n2) (with' ((n2,[I r.me,I r.nodes,I r.view,I r.normal,I r.status,I r.commit,.bool r.sent,I r.log.base,r.log.snap.sv,ye,ya,ys,yd]) :: m2) fz) r ye ya ys yd:=hT.keep λt _ _ j B hj=>by
  obtain ⟨p1,p2⟩:=Tag.el hj
  have p3:=g2.free.lt p2
  exact Tag.at (by rw [Qfz p3]; exact p1) (by rw [Qed,if_neg (by omega)]; exact p2)
 have hz3 : ∀ j,j < n1 → trim o n2 j = 0:=λj hj=>by rw [Qfz (by omega)]; exact ho j hj
 have hn1 : (n = n2) = False:=by simp; omega
 have hn2 : (n + 1 = n2) = False:=by simp; omega
 have hn3 : (n2 = n) = False:=by simp; omega
 have hn4 : (n2 = n + 1) = False:=by simp; omega
 have d1 : Ev.look ((n2,[I r.me,I r.nodes,I r.view,I r.normal,I r.status,I r.commit,.bool r.sent,I r.log.base,r.log.snap.sv,ye,ya,ys,yd]) :: m2) n = some [I r.me,I r.nodes,I r.view,I r.normal,I r.status,I r.commit,.bool r.sent,I r.log.base,r.log.snap.sv,xe,xa,xs,xd]:=by rw [Qdw,if_neg (by omega)]; exact c1
 have d2 : Ev.look ((n2,[I r.me,I r.nodes,I r.view,I r.normal,I r.status,I r.commit,.bool r.sent,I r.log.base,r.log.snap.sv,ye,ya,ys,yd]) :: m2) (n + 1) = some [I 0,I 0,I 0,I 0,I 0,I 0,.bool false,I 0,.str 0 0,.nsl,.nsl,.nsl,.nsl]:=by rw [Qdw,if_neg (by omega)]; exact c2
 have d3 : Ev.look ((n2,[I r.me,I r.nodes,I r.view,I r.normal,I r.status,I r.commit,.bool r.sent,I r.log.base,r.log.snap.sv,ye,ya,ys,yd]) :: m2) n2 = some [I r.me,I r.nodes,I r.view,I r.normal,I r.status,I r.commit,.bool r.sent,I r.log.base,r.log.snap.sv,ye,ya,ys,yd]:=by rw [Qdw,if_pos rfl]
 clear t1 t2 t3 t4 t5 t6 hT
 simp only [↓E1,E2,zA,zB,zC,zD,zE,zF,zG,zH,zI,zJ,zK,zL,zM,zN,reduceIte,zO,zP, *,E3]
 obtain ⟨m3,hm3⟩ : ∃ m,((n2,[I r.me,I r.nodes,I r.view,I r.normal,I r.status,I r.commit,.bool r.sent,I r.log.base,r.log.snap.sv,ye,ya,ys,yd]) :: m2) = m:=⟨_,rfl⟩
 rw [hm3] at g3 g23 hT3 d1 d2 d3
 try rw [hm3]
 have u3:=g3.sub hfr (Nat.le_refl _)
 clear hm3 w1 w2 c1 c2 b1 b2 g23
 have w1:=Qdl (fz:=fz) d1
 have w2:=Qdl (fz:=fz) d2
 have w3:=Qdl (fz:=fz) d3
 cases h1 : repB r with
 | false =>
  have hT : Qeo r = r:=by unfold Qeo; rw [h1]; rfl
  have hput : ∀ n',n2 + 1 ≤ n' → k (.ag [I r.me,I r.nodes,I r.view,I r.normal,I r.status,I r.commit,.bool r.sent,I r.log.base,r.log.snap.sv,ye,ya,ys,yd]) (putS m3 (n + 1) [I r.me,I r.nodes,I r.view,I r.normal,I r.status,I r.commit,.bool r.sent,I r.log.base,r.log.snap.sv,ye,ya,ys,yd]) n':=λn' hn=>by
   have hput : ∀ t,t ≠ 0 → Sub (Tag (trim o n2) t (with' m3 fz)) (Tag (trim o n2) t (with' (putS m3 (n + 1) [I r.me,I r.nodes,I r.view,I r.normal,I r.status,I r.commit,.bool r.sent,I r.log.base,r.log.snap.sv,ye,ya,ys,yd]) fz)):=λt ht=>Tag.put (lookI d2) (by rw [hz3 _ (by omega)]; omega)
   exact hkH.out _ _ _ ((g3.le2 hn).put (id:=n + 1) (by omega) d2 (c:=[I r.me,I r.nodes,I r.view,I r.normal,I r.status,I r.commit,.bool r.sent,I r.log.base,r.log.snap.sv,ye,ya,ys,yd])) ⟨ye,ya,ys,yd,trim o n2,by rw [hT] <;> rfl,λj hj=>hz3 j (by omega),by rw [hT]; exact hT3.keep λt h6 h7=>hput t (by omega)⟩
  have hpH:=Hide.mk hput
  clear hput hT
  refine hM.q0 g3.free (RepS.mono u3 s1) ?_
  rintro v n3 l3 rfl
  simp only [↓E1,E2,zA,zB,zC,zD,zE,zF,zG,zH,zI,zJ,zK,zL,zM,zN,reduceIte,zO,zP, *,E3]
  exact hpH.out _ l3
 | true =>
  obtain ⟨N,n1',n2',n3',n4'⟩:=rep_N h1
  have hfits : fits N 8 = true:=Qef (by omega) (by decide) (by decide)
  have hNN : (N < N) = False:=by simp
  have hNH:=Hide.mk n1'
  have hnn:=Hide.mk n2'
  refine hM.q0 g3.free (RepS.mono u3 s1) ?_
  rintro v n4 l4 rfl
  rw [n1'] at w1
  have hr1:=Hide.mk h1
  have hp1 : (n4 = n2) = False:=by simp; omega
  have hp2 : (n4 = n) = False:=by simp; omega
  have hp3 : (n4 = n + 1) = False:=by simp; omega
  have hp4 : (n2 = n4) = False:=by simp; omega
  have hfin : ∀ st : Int,Qeo r = { r with commit:=r.log.base,status:=st,sent:=false,starts:=[],dos:=[],acks:=List.replicate N 0 } → k (.ag [I r.me,I r.nodes,I r.view,I r.normal,I st,I r.log.base,.bool false,I r.log.base,r.log.snap.sv,ye,.osl n4 0 N N 1,.nsl,.nsl]) ((n4,rep [I 0] N) :: putS (putS m3 n2 [I r.me,I r.nodes,I r.view,I r.normal,I st,I r.log.base,.bool false,I r.log.base,r.log.snap.sv,ye,.osl n4 0 N N 1,.nsl,.nsl]) (n + 1) [I r.me,I r.nodes,I r.view,I r.normal,I st,I r.log.base,.bool false,I r.log.base,r.log.snap.sv,ye,.osl n4 0 N N 1,.nsl,.nsl]) (n4 + 1):=λst hT=>by
   have d2' : Ev.look (putS m3 n2 [I r.me,I r.nodes,I r.view,I r.normal,I st,I r.log.base,.bool false,I r.log.base,r.log.snap.sv,ye,.osl n4 0 N N 1,.nsl,.nsl]) (n + 1) = some [I 0,I 0,I 0,I 0,I 0,I 0,.bool false,I 0,.str 0 0,.nsl,.nsl,.nsl,.nsl]:=by rw [Qdm,if_neg (by omega)]; exact d2
   have gz:=((((g3.le2 l4).put (id:=n2) (by omega) d3 (c:=[I r.me,I r.nodes,I r.view,I r.normal,I st,I r.log.base,.bool false,I r.log.base,r.log.snap.sv,ye,.osl n4 0 N N 1,.nsl,.nsl])).put (id:=n + 1) (by omega) d2' (c:=[I r.me,I r.nodes,I r.view,I r.normal,I st,I r.log.base,.bool false,I r.log.base,r.log.snap.sv,ye,.osl n4 0 N N 1,.nsl,.nsl]))).cons (by omega) (rep [I 0] N)
   have u : ∀ t,t ≠ 0 → Sub (Tag (trim o n2) t (with' m3 fz)) (Tag (tagN (trim o n2) n4 λ_=>3) t (with' ((n4,rep [I 0] N) :: putS (putS m3 n2 [I r.me,I r.nodes,I r.view,I r.normal,I st,I r.log.base,.bool false,I r.log.base,r.log.snap.sv,ye,.osl n4 0 N N 1,.nsl,.nsl]) (n + 1) [I r.me,I r.nodes,I r.view,I r.normal,I st,I r.log.base,.bool false,I r.log.base,r.log.snap.sv,ye,.osl n4 0 N N 1,.nsl,.nsl]) fz)):=λt ht j B hj=>by
    obtain ⟨p1,p2⟩:=Tag.el hj
    have p3 : j < n2:=by
     rcases Nat.lt_or_ge j n2 with h | h
     ·exact h
     ·rw [Qmy h] at p1; omega
    have p4 : j ≠ n + 1:=λe=>by rw [e,hz3 _ (by omega)] at p1; omega
    exact Tag.at (by rw [Qea (by omega)]; exact p1) (by rw [Qed,if_neg (by omega),Qds d2',if_neg (by omega),Qds d3,if_neg (by omega)]; exact p2)
   obtain ⟨⟨es,t1,t2⟩,t3,t4,ds,t5,t6⟩:=hT3
   refine hkH.out _ _ _ gz ⟨ye,.osl n4 0 N N 1,.nsl,.nsl,tagN (trim o n2) n4 λ_=>3,by rw [hT] <;> rfl,λj hj=>by rw [Qea (by omega)]; exact hz3 j (by omega),?_⟩
   rw [hT]
   refine ⟨⟨es,t1.mono (u 1 (by omega)),t2.imp λc a h=>EntX.mono (u 2 (by omega)) h⟩,?_,.inl ⟨.inl rfl,rfl⟩,[],.inl ⟨.inl rfl,rfl⟩,trivial⟩
   refine .inr ⟨n4,by simp,Tag.at (by rw [Qga (Nat.le_refl _)]) (by rw [Qed,if_pos rfl,Qkl] <;> rfl),?_,Qg0⟩
   exact Qeq (Qd5 Qg0)
  have hfinH:=Hide.mk hfin
  clear hfin
  have hR : ∀ st : Int,(if r.normal = r.view then 2 else 1) = st → Qeo r = { r with commit:=r.log.base,status:=st,sent:=false,starts:=[],dos:=[],acks:=List.replicate N 0 }:=λst hs=>by unfold Qeo; rw [hr1.out,if_pos rfl,hs,hnn.out]
  have hRH:=Hide.mk hR
  clear n1' n2' hR
  cases h7 : decide (r.normal = r.view) with
  | false =>
   simp only [↓E1,E2,zA,zB,zC,zD,zE,zF,zG,zH,zI,zJ,zK,zL,zM,zN,reduceIte,zO,zP, *,E3]
   exact hfinH.out 1 (hRH.out 1 (if_neg (of_decide_eq_false h7)))
  | true =>
   simp only [↓E1,E2,zA,zB,zC,zD,zE,zF,zG,zH,zI,zJ,zK,zL,zM,zN,reduceIte,zO,zP, *,E3]
   exact hfinH.out 2 (hRH.out 2 (if_pos (of_decide_eq_true h7)))
end Go.Proofs.YtnnjlnkoomeadaaGreat.Pv
namespace Go.Proofs.YtnnjlnkoomeadaaGreat.Pv
open Go.Ev Go.Ev.Rp
set_option maxRecDepth 100000
set_option maxHeartbeats 4000000
variable {P : Program} (H : Fs P)
include H
theorem ref16_Restart (r : Rep) (xe xa xs xd : SV) (hz : RepSz r) (hok1 : Ok r.log) (hok2 : ∀ d ∈ r.dos, Ok d.log) : Ctr P n_Qb3 [.ag (repC r xe xa xs xd)] (fun M => RepS M r xe xa xs xd) (fun n _ M v => RstP (Qeo r) n M v) := Ctr.of H.mx H.Qb3 (fun _ => 0) fun fz mu n k hfr s1 hk => by
 obtain ⟨-,-,xek,xem⟩:=s1.1.len
 obtain ⟨-,-,xak,xam⟩:=s1.2.1.len
 obtain ⟨-,-,xsk,xsm⟩:=s1.2.2.1.len
 obtain ⟨-,-,xdk,xdm⟩:=s1.2.2.2.len
 have hC:=ref16_Copy H r xe xa xs xd hz
 have hM:=ref16_May H r xe xa xs xd (RepSz.s r hz).1 (RepSz.s r hz).2.1 (RepSz.s r hz).2.2 hok1 hok2
 have hkH:=Hide.mk hk
 clear hk
 unfold repC at hC hM ⊢
 rw [i_Qb3,dc_at b_Qb3.eq_1]
 simp only [↓E1,E2,zA,zB,zC,zD,zE,zF,zG,zH,zI,zJ,zK,zL,zM,zN,reduceIte,zO,zP, *]
 refine CPr.abs2 hfr λm1 n1 g1 l1 b1 b2=>?_
 have u1:=g1.sub hfr (Nat.le_refl _)
 have w1:=Qdl (fz:=fz) b1
 have w2:=Qdl (fz:=fz) b2
 refine hM.q0 g1.free (RepS.mono u1 s1) ?_
 rintro v n3 l3 rfl
 cases h1 : repB r with
 | false =>
  have hT : Qeo r = r:=by unfold Qeo; rw [h1]; rfl
  have hTH:=Hide.mk hT
  clear hT
  simp only [↓E1,E2,zA,zB,zC,zD,zE,zF,zG,zH,zI,zJ,zK,zL,zM,zN,reduceIte,zO,zP, *,E3]
  refine hC.c1 (g1.free.le l3) (RepS.mono u1 s1) ?_
  rintro v m6 n6 g6 ⟨ye,ya,ys,yd,o,rfl,ho,hT6⟩
  have l6:=g6.le
  have c2:=(g6.own (n + 1) (by omega)).trans b2
  have gz:=((g1.le2 l3).trans (g6.weaken (by omega))).put (id:=n + 1) (by omega) c2 (c:=[I r.me,I r.nodes,I r.view,I r.normal,I r.status,I r.commit,.bool r.sent,I r.log.base,r.log.snap.sv,ye,ya,ys,yd])
  have hT2:=hT6.keep (M':=with' (putS m6 (n + 1) [I r.me,I r.nodes,I r.view,I r.normal,I r.status,I r.commit,.bool r.sent,I r.log.base,r.log.snap.sv,ye,ya,ys,yd]) fz) (o':=o) λt h6 h7=>Tag.put (lookI c2) (by rw [ho _ (by omega)]; omega)
  obtain ⟨⟨es,t1,t2⟩,t3,t4,ds,t5,t6⟩:=hT6
  obtain ⟨-,-,zek,zem⟩:=t1.len
  obtain ⟨-,-,zak,zam⟩:=SlX.len t3
  obtain ⟨-,-,zsk,zsm⟩:=SlX.len t4
  obtain ⟨-,-,zdk,zdm⟩:=SlX.len t5
  have w2':=Qdl (fz:=fz) c2
  have hk:=hkH.out _ _ _ gz ⟨ye,ya,ys,yd,o,by rw [hTH.out] <;> rfl,λj hj=>ho j (by omega),by rw [hTH.out]; exact hT2⟩
  clear t1 t2 t3 t4 t5 t6 w2 b2 b1 w1
  simp only [↓E1,E2,zA,zB,zC,zD,zE,zF,zG,zH,zI,zJ,zK,zL,zM,zN,reduceIte,zO,zP, *,E3]
  all_goals exact hk
 | true =>
  obtain ⟨N,n1',n2',n3',n4'⟩:=rep_N h1
  have hfits : fits N 8 = true:=Qef (by omega) (by decide) (by decide)
  have hNN : (N < N) = False:=by simp
  have hR : ∀ st : Int,(if r.normal = r.view then 2 else 1) = st → Qeo r = { r with commit:=r.log.base,status:=st,sent:=false,starts:=[],dos:=[],acks:=List.replicate N 0 }:=λst hs=>by unfold Qeo; rw [h1,if_pos rfl,hs,n2']
  have hRH:=Hide.mk hR
  have hE:=Qe6 H r.log xe hz.log.ents hz.log.bat
  unfold lgC at hE
  have b1':=b1
  rw [n1'] at w1 b1
  have hp2 : ∀ j,n + 1 < j → (j = n) = False:=λj hj=>by simp; omega
  have hNH:=Hide.mk n1'
  clear n1' n2' hR
  simp only [↓E1,E2,zA,zB,zC,zD,zE,zF,zG,zH,zI,zJ,zK,zL,zM,zN,reduceIte,zO,zP, *,E3]
  refine hE.d2 (g1.free.le l3) (EntsR.mono u1 s1.1) ?_
  rintro v new n6 g6 ⟨ye,rfl,hG⟩
  have l6:=g6.le
  obtain ⟨-,-,zek,zem⟩:=hG.len
  have c1:=(g6.own n (by omega)).trans b1
  have c2:=(g6.own (n + 1) (by omega)).trans b2
  have hX : ∀ j,Ev.look (new ++ [(n6,rep [I 0] N)] ++ m1) j = Ev.look ((n6,rep [I 0] N) :: (new ++ m1)) j:=λj=>by
   rw [List.append_assoc]
   refine Qi1 (b:=[(n6,rep [I 0] N)]) λh=>?_
   rw [Qdw]
   split
   ·rename_i e
    subst e
    exfalso
    apply h
    have h4:=g6.free.none (Nat.le_refl n6)
    rw [Qd6,Qd2] at h4
    cases e : Ev.look new n6 with
    | none=>rfl
    | some c=>rw [e] at h4; cases h4
   ·rfl
  have gB : Gr n3 fz m1 (new ++ [(n6,rep [I 0] N)] ++ m1) n3 (n6 + 1):=(g6.cons (by omega) _).congr hX
  have hXw:=Qhy (fz:=fz) hX
  have d1:=(gB.own n (by omega)).trans b1
  have d2:=(gB.own (n + 1) (by omega)).trans b2
  have hXH:=Hide.mk hXw
  clear hX hXw
  have hq1 : (n6 + 1 = n) = False:=by simp; omega
  have hq2 : (n6 + 1 = n + 1) = False:=by simp; omega
  have hq3 : (n + 1 = n6 + 1) = False:=by simp; omega
  have hfin : ∀ (m5 : St) (st : Int),(new ++ [(n6,rep [I 0] N)] ++ m1) = m5 → Qeo r = { r with commit:=r.log.base,status:=st,sent:=false,starts:=[],dos:=[],acks:=List.replicate N 0 } → k (.ag [I r.me,I (N : Nat),I r.view,I r.normal,I st,I r.log.base,.bool false,I r.log.base,r.log.snap.sv,ye,.osl n6 0 N N 1,.nsl,.nsl]) ((n6 + 1,[I r.me,I (N : Nat),I r.view,I r.normal,I st,I r.log.base,.bool false,I r.log.base,r.log.snap.sv,ye,.osl n6 0 N N 1,.nsl,.nsl]) :: putS m5 (n + 1) [I r.me,I (N : Nat),I r.view,I r.normal,I st,I r.log.base,.bool false,I r.log.base,r.log.snap.sv,ye,.osl n6 0 N N 1,.nsl,.nsl]) (n6 + 1 + 1):=λm5 st he hT=>by
   subst he
   have gz:=(((g1.le2 l3).trans (gB.weaken (by omega))).put (id:=n + 1) (by omega) d2 (c:=[I r.me,I (N : Nat),I r.view,I r.normal,I st,I r.log.base,.bool false,I r.log.base,r.log.snap.sv,ye,.osl n6 0 N N 1,.nsl,.nsl])).cons (by omega) [I r.me,I (N : Nat),I r.view,I r.normal,I st,I r.log.base,.bool false,I r.log.base,r.log.snap.sv,ye,.osl n6 0 N N 1,.nsl,.nsl]
   obtain ⟨cs,t1,t2⟩:=Grow.tag (R:=EntX) (λh g=>EntX.mono h g) hG (o:=λ_=>0) (a:=1) (b:=2)
   obtain ⟨o',ho'⟩ : ∃ o',tagN (tagN (λ_=>0) n3 (Qff ye 1 2)) n6 (λ_=>3) = o':=⟨_,rfl⟩
   have u : ∀ t,t ≠ 0 → Sub (Tag (tagN (λ_=>0) n3 (Qff ye 1 2)) t (with' (new ++ m1) fz)) (Tag o' t (with' ((n6 + 1,[I r.me,I (N : Nat),I r.view,I r.normal,I st,I r.log.base,.bool false,I r.log.base,r.log.snap.sv,ye,.osl n6 0 N N 1,.nsl,.nsl]) :: putS (new ++ [(n6,rep [I 0] N)] ++ m1) (n + 1) [I r.me,I (N : Nat),I r.view,I r.normal,I st,I r.log.base,.bool false,I r.log.base,r.log.snap.sv,ye,.osl n6 0 N N 1,.nsl,.nsl]) fz)):=λt ht j B hj=>by
    obtain ⟨p1,p2⟩:=Tag.el hj
    have p3:=g6.free.lt p2
    have p4 : n3 ≤ j:=by
     rcases Nat.lt_or_ge j n3 with h | h
     ·rw [Qea h] at p1; omega
     ·exact h
    exact Tag.at (by rw [← ho',Qea p3]; exact p1) (by rw [Qed,if_neg (by omega),Qds d2,if_neg (by omega),hXH.out,Qed,if_neg (by omega)]; exact p2)
   refine hkH.out _ _ _ gz ⟨ye,.osl n6 0 N N 1,.nsl,.nsl,o',?_,λj hj=>by rw [← ho',Qea (by omega),Qea (by omega)],?_⟩
   ·rw [hT]; unfold repC; simp only [hNH.out]
   ·rw [hT]
    refine ⟨⟨cs,t1.mono (u 1 (by omega)),t2.imp λc a h=>EntX.mono (u 2 (by omega)) h⟩,?_,.inl ⟨.inl rfl,rfl⟩,[],.inl ⟨.inl rfl,rfl⟩,trivial⟩
    refine .inr ⟨n6,by simp,Tag.at (by rw [← ho',Qga (Nat.le_refl _)]) (by rw [Qed,if_neg (by omega),Qds d2,if_neg (by omega),hXH.out,Qed,if_pos rfl,Qkl] <;> rfl),?_,Qg0⟩
    exact Qeq (Qd5 Qg0)
  have hfinH:=Hide.mk hfin
  have v1:=Qdl (fz:=fz) d1
  have v2:=Qdl (fz:=fz) d2
  clear hfin w2 c1 c2
  obtain ⟨m5,hm5⟩ : ∃ m,(new ++ [(n6,rep [I 0] N)] ++ m1) = m:=⟨_,rfl⟩
  rw [hm5] at v1 v2 d1 d2
  cases h7 : decide (r.normal = r.view) with
  | false =>
   simp only [↓E1,E2,zA,zB,zC,zD,zE,zF,zG,zH,zI,zJ,zK,zL,zM,zN,reduceIte,zO,zP, *,E3]
   exact hfinH.out m5 1 hm5 (hRH.out 1 (if_neg (of_decide_eq_false h7)))
  | true =>
   simp only [↓E1,E2,zA,zB,zC,zD,zE,zF,zG,zH,zI,zJ,zK,zL,zM,zN,reduceIte,zO,zP, *,E3]
   exact hfinH.out m5 2 hm5 (hRH.out 2 (if_pos (of_decide_eq_true h7)))
end Go.Proofs.YtnnjlnkoomeadaaGreat.Pv
namespace Go.Proofs.YtnnjlnkoomeadaaGreat.Pv
open Go.Ev Go.Ev.Rp
set_option maxRecDepth 100000
set_option maxHeartbeats 4000000
theorem Rg.mono {lo hi : Nat} {M M' : Fz} (h : Sub M M') : Sub (Rg lo hi M) (Rg lo hi M'):=λj B g=>Rg.at (Rg.el g).1 (Rg.el g).2.1 (h _ _ (Rg.el g).2.2)
theorem SpR.gr1 {lo hi : Nat} {fz : Fz} {mu mu' : St} {n n' : Nat} (h : SpR lo hi fz mu mu' n n') (hl : lo ≤ n) : Gr lo fz mu mu' n n' :=
 ⟨h.le,λid hi=>Qdq (h.out id (by omega) (by omega)),λid hi=>h.out id (by omega) (by omega),h.free⟩
variable {P : Program} (H : Fs P)
include H
end Go.Proofs.YtnnjlnkoomeadaaGreat.Pv
namespace Go.Proofs.YtnnjlnkoomeadaaGreat.Pv
open Go.Ev Go.Ev.Rp
set_option maxRecDepth 100000
set_option maxHeartbeats 4000000
theorem SpR.sub {lo hi lo2 hi2 : Nat} {fz : Fz} {mu mu' : St} {n n' : Nat} (h : SpR lo hi fz mu mu' n n') (hd : hi2 ≤ lo ∨ hi ≤ lo2) (hn : hi2 ≤ n) : Sub (Rg lo2 hi2 (with' mu fz)) (Rg lo2 hi2 (with' mu' fz)):=λj B hj=>by
 obtain ⟨h1,h2,h3⟩:=Rg.el hj
 exact Rg.at h1 h2 (by rw [Qdq (h.out j (by omega) (by omega))]; exact h3)
theorem MsgsK.mono {M M' : Fz} {x : SV} {L b : Nat} (hs : Sub M M') (h : MsgsK M x L b) : MsgsK M' x L b:=by
 obtain ⟨l,h1,h2,h3⟩:=h
 exact ⟨l,h1,h2,MsgsR.mono hs h3⟩
variable {P : Program} (H : Fs P)
include H
theorem law17_ReplicaTimers (hS : SortC P) (aw : BoolC P n_Qcv [] (λ_=>True) true) (r : Rep) (xe xa xs xd : SV) (hz : RepSz r) (hl : LndSz r) (hok1 : Ok r.log) (hok2 : ∀ d ∈ r.dos,Ok d.log)
 (ra rb rc : Rep) (pa qb : List Msg) (hta : tickS r = (ra,pa)) (htb : beatS r = (rb,qb)) (htc : Qeo r = rc) (za : RepSz ra) (zb : RepSz rb) (zc : RepSz rc) (hpa : ∀ m ∈ pa,MsgSz m) (hqb : ∀ m ∈ qb,MsgSz m) (lpa : pa.length ≤ 1000) (lqb : qb.length ≤ 1000) :
 BoolC P n_Qap [.ag (repC r xe xa xs xd)] (λM=>RepS M r xe xa xs xd) true:=boolC H.mx H.Qap 0 λfz mu n k hfr g0 s1 hk=>by
 obtain ⟨-,-,xek,xem⟩:=s1.1.len
 obtain ⟨-,-,xak,xam⟩:=s1.2.1.len
 obtain ⟨-,-,xsk,xsm⟩:=s1.2.2.1.len
 obtain ⟨-,-,xdk,xdm⟩:=s1.2.2.2.len
 have hkH:=Hide.mk hk
 clear hk
 have cL:=law0_LendReplica H r xe xa xs xd hl
 have cKr:=λide ida ids xd1=>law0_KeptReplica H r ide ida ids xd1 xe xa xs xd hl
 have cT2:=ref16_Tick H r xe xa xs xd hz hok1 hok2
 have cB2:=ref16_Beat H r xe xa xs xd hz hok1 hok2
 have cR2:=ref16_Restart H r xe xa xs xd hz hok1 hok2
 rw [hta] at cT2
 rw [htb] at cB2
 rw [htc] at cR2
 unfold repC at cL cT2 cB2 cR2 cKr ⊢
 rw [i_Qap,dc_at b_Qap.eq_1]
 have G:=(Gr.refl (lo:=n) hfr).cons (Nat.le_refl _) [I r.me,I r.nodes,I r.view,I r.normal,I r.status,I r.commit,.bool r.sent,I r.log.base,r.log.snap.sv,xe,xa,xs,xd]
 have b0 : Ev.look ((n,[I r.me,I r.nodes,I r.view,I r.normal,I r.status,I r.commit,.bool r.sent,I r.log.base,r.log.snap.sv,xe,xa,xs,xd]) :: mu) n = some [I r.me,I r.nodes,I r.view,I r.normal,I r.status,I r.commit,.bool r.sent,I r.log.base,r.log.snap.sv,xe,xa,xs,xd]:=Qiu
 have s0:=s1
 have s1:=RepS.mono (G.sub hfr (Nat.le_refl _)) s1
 simp only [↓E1,E2,zA,zB,zC,zD,zE,zF,zG,zH,zI,zJ,zK,zL,zM,zN,reduceIte,zO,zP, *]
 obtain ⟨M0,hm⟩ : ∃ z,((n,[I r.me,I r.nodes,I r.view,I r.normal,I r.status,I r.commit,.bool r.sent,I r.log.base,r.log.snap.sv,xe,xa,xs,xd]) :: mu) = z:=⟨_,rfl⟩
 rw [hm] at G b0 s1
 try rw [hm]
 clear hm
 have vb0:=Qdl (fz:=fz) b0
 clear vb0
 refine cL.c1 G.free s1 ?_
 rintro v m1 n1 g1 ⟨ide,ida,ids,xd1,rfl,hX⟩
 have l1:=g1.le
 have u1:=g1.sub G.free (Nat.le_refl _)
 replace s1:=RepS.mono u1 s1
 replace b0:=(g1.own n (by omega)).trans b0
 have hXr:=hX.rs
 obtain ⟨-,-,xk1,xm1⟩:=hXr.2.2.2.len
 have vb0:=Qdl (fz:=fz) b0
 have kb0 : (n1 = n) = False:=by simp; omega
 try unfold repC
 simp only [↓E1,E2,zA,zB,zC,zD,zE,zF,zG,zH,zI,zJ,zK,zL,zM,zN,reduceIte,zO,zP, *]
 have gc:=(Gr.refl (lo:=n1) g1.free).cons (Nat.le_refl _) [I r.me,I r.nodes,I r.view,I r.normal,I r.status,I r.commit,.bool r.sent,I r.log.base,r.log.snap.sv,(.osl ide 0 r.log.ents.length (r.log.ents.length + 1) 5),(.osl ida 0 r.acks.length (r.acks.length + 2) 1),(.osl ids 0 r.starts.length (r.starts.length + 2) 1),xd1]
 have uc:=gc.sub g1.free (Nat.le_refl _)
 have G:=(G.trans (g1.weaken (by omega))).trans (gc.weaken (by omega))
 replace s1:=RepS.mono uc s1
 replace hX:=LentR.mono uc hX
 replace b0:=(gc.own n (by omega)).trans b0
 have b1 : Ev.look ((n1,[I r.me,I r.nodes,I r.view,I r.normal,I r.status,I r.commit,.bool r.sent,I r.log.base,r.log.snap.sv,(.osl ide 0 r.log.ents.length (r.log.ents.length + 1) 5),(.osl ida 0 r.acks.length (r.acks.length + 2) 1),(.osl ids 0 r.starts.length (r.starts.length + 2) 1),xd1]) :: m1) n1 = some [I r.me,I r.nodes,I r.view,I r.normal,I r.status,I r.commit,.bool r.sent,I r.log.base,r.log.snap.sv,(.osl ide 0 r.log.ents.length (r.log.ents.length + 1) 5),(.osl ida 0 r.acks.length (r.acks.length + 2) 1),(.osl ids 0 r.starts.length (r.starts.length + 2) 1),xd1]:=Qiu
 obtain ⟨M1,hm⟩ : ∃ z,((n1,[I r.me,I r.nodes,I r.view,I r.normal,I r.status,I r.commit,.bool r.sent,I r.log.base,r.log.snap.sv,(.osl ide 0 r.log.ents.length (r.log.ents.length + 1) 5),(.osl ida 0 r.acks.length (r.acks.length + 2) 1),(.osl ids 0 r.starts.length (r.starts.length + 2) 1),xd1]) :: m1) = z:=⟨_,rfl⟩
 rw [hm] at G  b0 b1 s1 hX
 try rw [hm]
 clear hm gc uc u1 g1 vb0 kb0
 have vb0:=Qdl (fz:=fz) b0
 have vb1:=Qdl (fz:=fz) b1
 have hX1:=hX
 have G1:=G
 have Gx:=Gr.refl (lo:=n1 + 1) G.free
 have cT:=replica_Tick H hS r (.osl ide 0 r.log.ents.length (r.log.ents.length + 1) 5) (.osl ida 0 r.acks.length (r.acks.length + 2) 1) (.osl ids 0 r.starts.length (r.starts.length + 2) 1) xd1 hz
 have cB:=replica_Beat H r (.osl ide 0 r.log.ents.length (r.log.ents.length + 1) 5) (.osl ida 0 r.acks.length (r.acks.length + 2) 1) (.osl ids 0 r.starts.length (r.starts.length + 2) 1) xd1 hz
 have cR:=replica_Restart H r (.osl ide 0 r.log.ents.length (r.log.ents.length + 1) 5) (.osl ida 0 r.acks.length (r.acks.length + 2) 1) (.osl ids 0 r.starts.length (r.starts.length + 2) 1) xd1 hz
 rw [hta] at cT
 rw [htb] at cB
 rw [htc] at cR
 unfold repC at cT cB cR
 clear vb0 vb1
 refine cT.c1 G.free hX.rs ?_
 rintro v m2 n2 g2 ⟨ye2,ya2,ys2,yd2,xo2,o2,rfl,ho2,hRT2,hOT2⟩
 have l2:=g2.le
 have u2:=g2.sub G.free (Nat.le_refl _)
 replace s1:=RepS.mono u2 s1
 replace hX:=LentR.mono u2 hX
 replace b0:=(g2.own n (by omega)).trans b0
 replace b1:=(g2.own n1 (by omega)).trans b1
 have A2:=Qlq ho2 g2.free hRT2
 have O2:=Qqg ho2 g2.free hOT2
 obtain ⟨-,-,ek2,em2⟩:=A2.1.len
 obtain ⟨-,-,ak2,am2⟩:=A2.2.1.len
 obtain ⟨-,-,sk2,sm2⟩:=A2.2.2.1.len
 obtain ⟨-,-,dk2,dm2⟩:=A2.2.2.2.len
 obtain ⟨-,-,ok2,om2⟩:=Qhh O2
 clear hRT2 hOT2 ho2
 have vb0:=Qdl (fz:=fz) b0
 have kb0 : (n2 = n) = False:=by simp; omega
 have vb1:=Qdl (fz:=fz) b1
 have kb1 : (n2 = n1) = False:=by simp; omega
 try unfold repC
 simp only [↓E1,E2,zA,zB,zC,zD,zE,zF,zG,zH,zI,zJ,zK,zL,zM,zN,reduceIte,zO,zP, *]
 have gc:=(Gr.refl (lo:=n2) g2.free).cons (Nat.le_refl _) [I ra.me,I ra.nodes,I ra.view,I ra.normal,I ra.status,I ra.commit,.bool ra.sent,I ra.log.base,ra.log.snap.sv,ye2,ya2,ys2,yd2]
 have uc:=gc.sub g2.free (Nat.le_refl _)
 have G:=(G.trans (g2.weaken (by omega))).trans (gc.weaken (by omega))
 have Gx:=(Gx.trans (g2.weaken (by omega))).trans (gc.weaken (by omega))
 replace s1:=RepS.mono uc s1
 replace hX:=LentR.mono uc hX
 replace A2:=RepS.mono (Rg.mono uc) A2
 replace O2:=MsgsR.mono (Rg.mono uc) O2
 replace b0:=(gc.own n (by omega)).trans b0
 replace b1:=(gc.own n1 (by omega)).trans b1
 have b2 : Ev.look ((n2,[I ra.me,I ra.nodes,I ra.view,I ra.normal,I ra.status,I ra.commit,.bool ra.sent,I ra.log.base,ra.log.snap.sv,ye2,ya2,ys2,yd2]) :: m2) n2 = some [I ra.me,I ra.nodes,I ra.view,I ra.normal,I ra.status,I ra.commit,.bool ra.sent,I ra.log.base,ra.log.snap.sv,ye2,ya2,ys2,yd2]:=Qiu
 obtain ⟨M2,hm⟩ : ∃ z,((n2,[I ra.me,I ra.nodes,I ra.view,I ra.normal,I ra.status,I ra.commit,.bool ra.sent,I ra.log.base,ra.log.snap.sv,ye2,ya2,ys2,yd2]) :: m2) = z:=⟨_,rfl⟩
 rw [hm] at G Gx b0 b1 b2 s1 hX A2 O2
 try rw [hm]
 clear hm gc uc u2 g2 vb0 vb1 kb0 kb1
 have vb0:=Qdl (fz:=fz) b0
 have vb1:=Qdl (fz:=fz) b1
 have vb2:=Qdl (fz:=fz) b2
 clear vb0 vb1 vb2
 refine cT2.c1 G.free s1 ?_
 rintro v m3 n3 g3 ⟨ye3,ya3,ys3,yd3,xo3,o3,rfl,ho3,hRT3,hOT3⟩
 have l3:=g3.le
 have u3:=g3.sub G.free (Nat.le_refl _)
 replace s1:=RepS.mono u3 s1
 replace hX:=LentR.mono u3 hX
 replace A2:=RepS.mono (Rg.mono u3) A2
 replace O2:=MsgsR.mono (Rg.mono u3) O2
 replace b0:=(g3.own n (by omega)).trans b0
 replace b1:=(g3.own n1 (by omega)).trans b1
 replace b2:=(g3.own n2 (by omega)).trans b2
 have A3:=RepS.mono Rg.sub (Qlq ho3 g3.free hRT3)
 have O3:=MsgsR.mono Rg.sub (Qqg ho3 g3.free hOT3)
 obtain ⟨-,-,ek3,em3⟩:=A3.1.len
 obtain ⟨-,-,ak3,am3⟩:=A3.2.1.len
 obtain ⟨-,-,sk3,sm3⟩:=A3.2.2.1.len
 obtain ⟨-,-,dk3,dm3⟩:=A3.2.2.2.len
 obtain ⟨-,-,ok3,om3⟩:=Qhh O3
 clear hRT3 hOT3 ho3
 have vb0:=Qdl (fz:=fz) b0
 have kb0 : (n3 = n) = False:=by simp; omega
 have vb1:=Qdl (fz:=fz) b1
 have kb1 : (n3 = n1) = False:=by simp; omega
 have vb2:=Qdl (fz:=fz) b2
 have kb2 : (n3 = n2) = False:=by simp; omega
 try unfold repC
 simp only [↓E1,E2,zA,zB,zC,zD,zE,zF,zG,zH,zI,zJ,zK,zL,zM,zN,reduceIte,zO,zP, *]
 have gc:=(Gr.refl (lo:=n3) g3.free).cons (Nat.le_refl _) [I ra.me,I ra.nodes,I ra.view,I ra.normal,I ra.status,I ra.commit,.bool ra.sent,I ra.log.base,ra.log.snap.sv,ye3,ya3,ys3,yd3]
 have uc:=gc.sub g3.free (Nat.le_refl _)
 have G:=(G.trans (g3.weaken (by omega))).trans (gc.weaken (by omega))
 have Gx:=(Gx.trans (g3.weaken (by omega))).trans (gc.weaken (by omega))
 replace s1:=RepS.mono uc s1
 replace hX:=LentR.mono uc hX
 replace A2:=RepS.mono (Rg.mono uc) A2
 replace O2:=MsgsR.mono (Rg.mono uc) O2
 replace A3:=RepS.mono uc A3
 replace O3:=MsgsR.mono uc O3
 replace b0:=(gc.own n (by omega)).trans b0
 replace b1:=(gc.own n1 (by omega)).trans b1
 replace b2:=(gc.own n2 (by omega)).trans b2
 have b3 : Ev.look ((n3,[I ra.me,I ra.nodes,I ra.view,I ra.normal,I ra.status,I ra.commit,.bool ra.sent,I ra.log.base,ra.log.snap.sv,ye3,ya3,ys3,yd3]) :: m3) n3 = some [I ra.me,I ra.nodes,I ra.view,I ra.normal,I ra.status,I ra.commit,.bool ra.sent,I ra.log.base,ra.log.snap.sv,ye3,ya3,ys3,yd3]:=Qiu
 obtain ⟨M3,hm⟩ : ∃ z,((n3,[I ra.me,I ra.nodes,I ra.view,I ra.normal,I ra.status,I ra.commit,.bool ra.sent,I ra.log.base,ra.log.snap.sv,ye3,ya3,ys3,yd3]) :: m3) = z:=⟨_,rfl⟩
 rw [hm] at G Gx b0 b1 b2 b3 s1 hX A2 O2 A3 O3
 try rw [hm]
 clear hm gc uc u3 g3 vb0 vb1 vb2 kb0 kb1 kb2
 have vb0:=Qdl (fz:=fz) b0
 have vb1:=Qdl (fz:=fz) b1
 have vb2:=Qdl (fz:=fz) b2
 have vb3:=Qdl (fz:=fz) b3
 clear vb0 vb1 vb2 vb3
 refine cB.c1 G.free hX.rs ?_
 rintro v m4 n4 g4 ⟨ye4,ya4,ys4,yd4,xo4,o4,rfl,ho4,hRT4,hOT4⟩
 have l4:=g4.le
 have u4:=g4.sub G.free (Nat.le_refl _)
 replace s1:=RepS.mono u4 s1
 replace hX:=LentR.mono u4 hX
 replace A2:=RepS.mono (Rg.mono u4) A2
 replace O2:=MsgsR.mono (Rg.mono u4) O2
 replace A3:=RepS.mono u4 A3
 replace O3:=MsgsR.mono u4 O3
 replace b0:=(g4.own n (by omega)).trans b0
 replace b1:=(g4.own n1 (by omega)).trans b1
 replace b2:=(g4.own n2 (by omega)).trans b2
 replace b3:=(g4.own n3 (by omega)).trans b3
 have A4:=Qlq ho4 g4.free hRT4
 have O4:=Qqg ho4 g4.free hOT4
 obtain ⟨-,-,ek4,em4⟩:=A4.1.len
 obtain ⟨-,-,ak4,am4⟩:=A4.2.1.len
 obtain ⟨-,-,sk4,sm4⟩:=A4.2.2.1.len
 obtain ⟨-,-,dk4,dm4⟩:=A4.2.2.2.len
 obtain ⟨-,-,ok4,om4⟩:=Qhh O4
 clear hRT4 hOT4 ho4
 have vb0:=Qdl (fz:=fz) b0
 have kb0 : (n4 = n) = False:=by simp; omega
 have vb1:=Qdl (fz:=fz) b1
 have kb1 : (n4 = n1) = False:=by simp; omega
 have vb2:=Qdl (fz:=fz) b2
 have kb2 : (n4 = n2) = False:=by simp; omega
 have vb3:=Qdl (fz:=fz) b3
 have kb3 : (n4 = n3) = False:=by simp; omega
 try unfold repC
 simp only [↓E1,E2,zA,zB,zC,zD,zE,zF,zG,zH,zI,zJ,zK,zL,zM,zN,reduceIte,zO,zP, *]
 have gc:=(Gr.refl (lo:=n4) g4.free).cons (Nat.le_refl _) [I rb.me,I rb.nodes,I rb.view,I rb.normal,I rb.status,I rb.commit,.bool rb.sent,I rb.log.base,rb.log.snap.sv,ye4,ya4,ys4,yd4]
 have uc:=gc.sub g4.free (Nat.le_refl _)
 have G:=(G.trans (g4.weaken (by omega))).trans (gc.weaken (by omega))
 have Gx:=(Gx.trans (g4.weaken (by omega))).trans (gc.weaken (by omega))
 replace s1:=RepS.mono uc s1
 replace hX:=LentR.mono uc hX
 replace A2:=RepS.mono (Rg.mono uc) A2
 replace O2:=MsgsR.mono (Rg.mono uc) O2
 replace A3:=RepS.mono uc A3
 replace O3:=MsgsR.mono uc O3
 replace A4:=RepS.mono (Rg.mono uc) A4
 replace O4:=MsgsR.mono (Rg.mono uc) O4
 replace b0:=(gc.own n (by omega)).trans b0
 replace b1:=(gc.own n1 (by omega)).trans b1
 replace b2:=(gc.own n2 (by omega)).trans b2
 replace b3:=(gc.own n3 (by omega)).trans b3
 have b4 : Ev.look ((n4,[I rb.me,I rb.nodes,I rb.view,I rb.normal,I rb.status,I rb.commit,.bool rb.sent,I rb.log.base,rb.log.snap.sv,ye4,ya4,ys4,yd4]) :: m4) n4 = some [I rb.me,I rb.nodes,I rb.view,I rb.normal,I rb.status,I rb.commit,.bool rb.sent,I rb.log.base,rb.log.snap.sv,ye4,ya4,ys4,yd4]:=Qiu
 obtain ⟨M4,hm⟩ : ∃ z,((n4,[I rb.me,I rb.nodes,I rb.view,I rb.normal,I rb.status,I rb.commit,.bool rb.sent,I rb.log.base,rb.log.snap.sv,ye4,ya4,ys4,yd4]) :: m4) = z:=⟨_,rfl⟩
 rw [hm] at G Gx b0 b1 b2 b3 b4 s1 hX A2 O2 A3 O3 A4 O4
 try rw [hm]
 clear hm gc uc u4 g4 vb0 vb1 vb2 vb3 kb0 kb1 kb2 kb3
 have vb0:=Qdl (fz:=fz) b0
 have vb1:=Qdl (fz:=fz) b1
 have vb2:=Qdl (fz:=fz) b2
 have vb3:=Qdl (fz:=fz) b3
 have vb4:=Qdl (fz:=fz) b4
 clear vb0 vb1 vb2 vb3 vb4
 refine cB2.c1 G.free s1 ?_
 rintro v m5 n5 g5 ⟨ye5,ya5,ys5,yd5,xo5,o5,rfl,ho5,hRT5,hOT5⟩
 have l5:=g5.le
 have u5:=g5.sub G.free (Nat.le_refl _)
 replace s1:=RepS.mono u5 s1
 replace hX:=LentR.mono u5 hX
 replace A2:=RepS.mono (Rg.mono u5) A2
 replace O2:=MsgsR.mono (Rg.mono u5) O2
 replace A3:=RepS.mono u5 A3
 replace O3:=MsgsR.mono u5 O3
 replace A4:=RepS.mono (Rg.mono u5) A4
 replace O4:=MsgsR.mono (Rg.mono u5) O4
 replace b0:=(g5.own n (by omega)).trans b0
 replace b1:=(g5.own n1 (by omega)).trans b1
 replace b2:=(g5.own n2 (by omega)).trans b2
 replace b3:=(g5.own n3 (by omega)).trans b3
 replace b4:=(g5.own n4 (by omega)).trans b4
 have A5:=RepS.mono Rg.sub (Qlq ho5 g5.free hRT5)
 have O5:=MsgsR.mono Rg.sub (Qqg ho5 g5.free hOT5)
 obtain ⟨-,-,ek5,em5⟩:=A5.1.len
 obtain ⟨-,-,ak5,am5⟩:=A5.2.1.len
 obtain ⟨-,-,sk5,sm5⟩:=A5.2.2.1.len
 obtain ⟨-,-,dk5,dm5⟩:=A5.2.2.2.len
 obtain ⟨-,-,ok5,om5⟩:=Qhh O5
 clear hRT5 hOT5 ho5
 have vb0:=Qdl (fz:=fz) b0
 have kb0 : (n5 = n) = False:=by simp; omega
 have vb1:=Qdl (fz:=fz) b1
 have kb1 : (n5 = n1) = False:=by simp; omega
 have vb2:=Qdl (fz:=fz) b2
 have kb2 : (n5 = n2) = False:=by simp; omega
 have vb3:=Qdl (fz:=fz) b3
 have kb3 : (n5 = n3) = False:=by simp; omega
 have vb4:=Qdl (fz:=fz) b4
 have kb4 : (n5 = n4) = False:=by simp; omega
 try unfold repC
 simp only [↓E1,E2,zA,zB,zC,zD,zE,zF,zG,zH,zI,zJ,zK,zL,zM,zN,reduceIte,zO,zP, *]
 have gc:=(Gr.refl (lo:=n5) g5.free).cons (Nat.le_refl _) [I rb.me,I rb.nodes,I rb.view,I rb.normal,I rb.status,I rb.commit,.bool rb.sent,I rb.log.base,rb.log.snap.sv,ye5,ya5,ys5,yd5]
 have uc:=gc.sub g5.free (Nat.le_refl _)
 have G:=(G.trans (g5.weaken (by omega))).trans (gc.weaken (by omega))
 have Gx:=(Gx.trans (g5.weaken (by omega))).trans (gc.weaken (by omega))
 replace s1:=RepS.mono uc s1
 replace hX:=LentR.mono uc hX
 replace A2:=RepS.mono (Rg.mono uc) A2
 replace O2:=MsgsR.mono (Rg.mono uc) O2
 replace A3:=RepS.mono uc A3
 replace O3:=MsgsR.mono uc O3
 replace A4:=RepS.mono (Rg.mono uc) A4
 replace O4:=MsgsR.mono (Rg.mono uc) O4
 replace A5:=RepS.mono uc A5
 replace O5:=MsgsR.mono uc O5
 replace b0:=(gc.own n (by omega)).trans b0
 replace b1:=(gc.own n1 (by omega)).trans b1
 replace b2:=(gc.own n2 (by omega)).trans b2
 replace b3:=(gc.own n3 (by omega)).trans b3
 replace b4:=(gc.own n4 (by omega)).trans b4
 have b5 : Ev.look ((n5,[I rb.me,I rb.nodes,I rb.view,I rb.normal,I rb.status,I rb.commit,.bool rb.sent,I rb.log.base,rb.log.snap.sv,ye5,ya5,ys5,yd5]) :: m5) n5 = some [I rb.me,I rb.nodes,I rb.view,I rb.normal,I rb.status,I rb.commit,.bool rb.sent,I rb.log.base,rb.log.snap.sv,ye5,ya5,ys5,yd5]:=Qiu
 obtain ⟨M5,hm⟩ : ∃ z,((n5,[I rb.me,I rb.nodes,I rb.view,I rb.normal,I rb.status,I rb.commit,.bool rb.sent,I rb.log.base,rb.log.snap.sv,ye5,ya5,ys5,yd5]) :: m5) = z:=⟨_,rfl⟩
 rw [hm] at G Gx b0 b1 b2 b3 b4 b5 s1 hX A2 O2 A3 O3 A4 O4 A5 O5
 try rw [hm]
 clear hm gc uc u5 g5 vb0 vb1 vb2 vb3 vb4 kb0 kb1 kb2 kb3 kb4
 have vb0:=Qdl (fz:=fz) b0
 have vb1:=Qdl (fz:=fz) b1
 have vb2:=Qdl (fz:=fz) b2
 have vb3:=Qdl (fz:=fz) b3
 have vb4:=Qdl (fz:=fz) b4
 have vb5:=Qdl (fz:=fz) b5
 clear vb0 vb1 vb2 vb3 vb4 vb5
 refine cR.c1 G.free hX.rs ?_
 rintro v m6 n6 g6 ⟨ye6,ya6,ys6,yd6,o6,rfl,ho6,hRT6⟩
 have l6:=g6.le
 have u6:=g6.sub G.free (Nat.le_refl _)
 replace s1:=RepS.mono u6 s1
 replace hX:=LentR.mono u6 hX
 replace A2:=RepS.mono (Rg.mono u6) A2
 replace O2:=MsgsR.mono (Rg.mono u6) O2
 replace A3:=RepS.mono u6 A3
 replace O3:=MsgsR.mono u6 O3
 replace A4:=RepS.mono (Rg.mono u6) A4
 replace O4:=MsgsR.mono (Rg.mono u6) O4
 replace A5:=RepS.mono u6 A5
 replace O5:=MsgsR.mono u6 O5
 replace b0:=(g6.own n (by omega)).trans b0
 replace b1:=(g6.own n1 (by omega)).trans b1
 replace b2:=(g6.own n2 (by omega)).trans b2
 replace b3:=(g6.own n3 (by omega)).trans b3
 replace b4:=(g6.own n4 (by omega)).trans b4
 replace b5:=(g6.own n5 (by omega)).trans b5
 have A6:=Qlq ho6 g6.free hRT6
 obtain ⟨-,-,ek6,em6⟩:=A6.1.len
 obtain ⟨-,-,ak6,am6⟩:=A6.2.1.len
 obtain ⟨-,-,sk6,sm6⟩:=A6.2.2.1.len
 obtain ⟨-,-,dk6,dm6⟩:=A6.2.2.2.len
 clear hRT6 ho6
 have vb0:=Qdl (fz:=fz) b0
 have kb0 : (n6 = n) = False:=by simp; omega
 have vb1:=Qdl (fz:=fz) b1
 have kb1 : (n6 = n1) = False:=by simp; omega
 have vb2:=Qdl (fz:=fz) b2
 have kb2 : (n6 = n2) = False:=by simp; omega
 have vb3:=Qdl (fz:=fz) b3
 have kb3 : (n6 = n3) = False:=by simp; omega
 have vb4:=Qdl (fz:=fz) b4
 have kb4 : (n6 = n4) = False:=by simp; omega
 have vb5:=Qdl (fz:=fz) b5
 have kb5 : (n6 = n5) = False:=by simp; omega
 try unfold repC
 simp only [↓E1,E2,zA,zB,zC,zD,zE,zF,zG,zH,zI,zJ,zK,zL,zM,zN,reduceIte,zO,zP, *]
 have gc:=(Gr.refl (lo:=n6) g6.free).cons (Nat.le_refl _) [I rc.me,I rc.nodes,I rc.view,I rc.normal,I rc.status,I rc.commit,.bool rc.sent,I rc.log.base,rc.log.snap.sv,ye6,ya6,ys6,yd6]
 have uc:=gc.sub g6.free (Nat.le_refl _)
 have G:=(G.trans (g6.weaken (by omega))).trans (gc.weaken (by omega))
 have Gx:=(Gx.trans (g6.weaken (by omega))).trans (gc.weaken (by omega))
 replace s1:=RepS.mono uc s1
 replace hX:=LentR.mono uc hX
 replace A2:=RepS.mono (Rg.mono uc) A2
 replace O2:=MsgsR.mono (Rg.mono uc) O2
 replace A3:=RepS.mono uc A3
 replace O3:=MsgsR.mono uc O3
 replace A4:=RepS.mono (Rg.mono uc) A4
 replace O4:=MsgsR.mono (Rg.mono uc) O4
 replace A5:=RepS.mono uc A5
 replace O5:=MsgsR.mono uc O5
 replace A6:=RepS.mono (Rg.mono uc) A6
 replace b0:=(gc.own n (by omega)).trans b0
 replace b1:=(gc.own n1 (by omega)).trans b1
 replace b2:=(gc.own n2 (by omega)).trans b2
 replace b3:=(gc.own n3 (by omega)).trans b3
 replace b4:=(gc.own n4 (by omega)).trans b4
 replace b5:=(gc.own n5 (by omega)).trans b5
 have b6 : Ev.look ((n6,[I rc.me,I rc.nodes,I rc.view,I rc.normal,I rc.status,I rc.commit,.bool rc.sent,I rc.log.base,rc.log.snap.sv,ye6,ya6,ys6,yd6]) :: m6) n6 = some [I rc.me,I rc.nodes,I rc.view,I rc.normal,I rc.status,I rc.commit,.bool rc.sent,I rc.log.base,rc.log.snap.sv,ye6,ya6,ys6,yd6]:=Qiu
 obtain ⟨M6,hm⟩ : ∃ z,((n6,[I rc.me,I rc.nodes,I rc.view,I rc.normal,I rc.status,I rc.commit,.bool rc.sent,I rc.log.base,rc.log.snap.sv,ye6,ya6,ys6,yd6]) :: m6) = z:=⟨_,rfl⟩
 rw [hm] at G Gx b0 b1 b2 b3 b4 b5 b6 s1 hX A2 O2 A3 O3 A4 O4 A5 O5 A6
 try rw [hm]
 clear  gc uc u6 g6 vb0 vb1 vb2 vb3 vb4 vb5 kb0 kb1 kb2 kb3 kb4 kb5
 have vb0:=Qdl (fz:=fz) b0
 have vb1:=Qdl (fz:=fz) b1
 have vb2:=Qdl (fz:=fz) b2
 have vb3:=Qdl (fz:=fz) b3
 have vb4:=Qdl (fz:=fz) b4
 have vb5:=Qdl (fz:=fz) b5
 have vb6:=Qdl (fz:=fz) b6
 have hlt1 : n + 1 ≤ n6:=by omega
 have cS1:=ref16_Same H ra ye2 ya2 ys2 yd2 ye3 ya3 ys3 yd3 za
 have cS2:=ref16_Same H rb ye4 ya4 ys4 yd4 ye5 ya5 ys5 yd5 zb
 unfold repC at cS1 cS2
 refine cS1.q1 G.free ⟨RepS.mono Rg.sub A2,A3⟩ ?_
 rintro v j1 i1 rfl
 simp only [↓E1,E2,zA,zB,zC,zD,zE,zF,zG,zH,zI,zJ,zK,zL,zM,zN,reduceIte,zO,zP, *]
 refine (ref4_SameAll H pa _ _ (by omega) hpa).q1 (G.free.le i1) ⟨MsgsR.mono Rg.sub O2,O3⟩ ?_
 rintro v j2 i2 rfl
 simp only [↓E1,E2,zA,zB,zC,zD,zE,zF,zG,zH,zI,zJ,zK,zL,zM,zN,reduceIte,zO,zP, *]
 refine cS2.q1 ((G.free.le i1).le i2) ⟨RepS.mono Rg.sub A4,A5⟩ ?_
 rintro v j3 i3 rfl
 simp only [↓E1,E2,zA,zB,zC,zD,zE,zF,zG,zH,zI,zJ,zK,zL,zM,zN,reduceIte,zO,zP, *]
 refine (ref4_SameAll H qb _ _ (by omega) hqb).q1 (((G.free.le i1).le i2).le i3) ⟨MsgsR.mono Rg.sub O4,O5⟩ ?_
 rintro v j4 i4 rfl
 simp only [↓E1,E2,zA,zB,zC,zD,zE,zF,zG,zH,zI,zJ,zK,zL,zM,zN,reduceIte,zO,zP, *]
 refine cR2.d2 ((((G.free.le i1).le i2).le i3).le i4) s1 ?_
 rintro v new n7 g7 ⟨ye7,ya7,ys7,yd7,o7,rfl,ho7,hRT7⟩
 have l7:=g7.le
 have A7:=RepS.mono Rg.sub (Qlq ho7 g7.free hRT7)
 obtain ⟨-,-,ek7,em7⟩:=A7.1.len
 obtain ⟨-,-,ak7,am7⟩:=A7.2.1.len
 obtain ⟨-,-,sk7,sm7⟩:=A7.2.2.1.len
 obtain ⟨-,-,dk7,dm7⟩:=A7.2.2.2.len
 clear hRT7 ho7
 unfold repC
 simp only [↓E1,E2,zA,zB,zC,zD,zE,zF,zG,zH,zI,zJ,zK,zL,zM,zN,reduceIte,zO,zP, *]
 have cS3:=ref16_Same H rc ye6 ya6 ys6 yd6 ye7 ya7 ys7 yd7 zc
 unfold repC at cS3
 have f6:=(((G.free.le i1).le i2).le i3).le i4
 have u7:=g7.sub f6 (Nat.le_refl _)
 replace s1:=RepS.mono u7 s1
 replace hX:=LentR.mono u7 hX
 replace A2:=RepS.mono (Rg.mono u7) A2
 replace O2:=MsgsR.mono (Rg.mono u7) O2
 replace A3:=RepS.mono u7 A3
 replace O3:=MsgsR.mono u7 O3
 replace A4:=RepS.mono (Rg.mono u7) A4
 replace O4:=MsgsR.mono (Rg.mono u7) O4
 replace A5:=RepS.mono u7 A5
 replace O5:=MsgsR.mono u7 O5
 replace A6:=RepS.mono (Rg.mono u7) A6
 replace b0:=(g7.own n (by omega)).trans b0
 replace b1:=(g7.own n1 (by omega)).trans b1
 replace b2:=(g7.own n2 (by omega)).trans b2
 replace b3:=(g7.own n3 (by omega)).trans b3
 replace b4:=(g7.own n4 (by omega)).trans b4
 replace b5:=(g7.own n5 (by omega)).trans b5
 replace b6:=(g7.own n6 (by omega)).trans b6
 refine cS3.q1 (mu:=new ++ M6) g7.free ⟨RepS.mono Rg.sub A6,A7⟩ ?_
 rintro v j5 i5 rfl
 have G:=(G.le2 (show n6 + 1 ≤ j4 by omega)).trans (g7.weaken (by omega))
 have Gx:=(Gx.le2 (show n6 + 1 ≤ j4 by omega)).trans (g7.weaken (by omega))
 have F7:=g7.free.le i5
 clear cT cB cR cT2 cB2 cR2 cL cS1 cS2 cS3 A3 A5 O3 O5 A7 u7
 replace vb0:=Qdl (fz:=fz) b0
 replace vb1:=Qdl (fz:=fz) b1
 replace vb2:=Qdl (fz:=fz) b2
 replace vb3:=Qdl (fz:=fz) b3
 replace vb4:=Qdl (fz:=fz) b4
 replace vb5:=Qdl (fz:=fz) b5
 replace vb6:=Qdl (fz:=fz) b6
 simp only [↓E1,E2,zA,zB,zC,zD,zE,zF,zG,zH,zI,zJ,zK,zL,zM,zN,reduceIte,zO,zP, *]
 obtain ⟨M7,hm7⟩ : ∃ z,new ++ M6 = z:=⟨_,rfl⟩
 rw [hm7] at G Gx F7 g7 b0 b1 b2 b3 b4 b5 b6 vb0 vb1 vb2 vb3 vb4 vb5 vb6 hX s1 A2 O2 A4 O4 A6
 try rw [hm7]
 clear hm
 have G:=G.le2 i5
 have Gx:=Gx.le2 i5
 have K2 : MsgsK (Rg (n1 + 1) n2 (with' M7 fz)) xo2 pa.length 4398046511104:=⟨pa,rfl,λm hm=>⟨(hpa m hm).bat,by have:=(hpa m hm).log.ents; omega,(hpa m hm).log.bat⟩,O2⟩
 have K4 : MsgsK (Rg (n3 + 1) n4 (with' M7 fz)) xo4 qb.length 4398046511104:=⟨qb,rfl,λm hm=>⟨(hqb m hm).bat,by have:=(hqb m hm).log.ents; omega,(hqb m hm).log.bat⟩,O4⟩
 clear O2 O4 hX s1
 refine Qhc H (lo:=n1 + 1) (hi:=n2) (λj hj=>hfr.fz j (by omega)) ra (Le:=ra.log.ents.length) (Ld:=ra.dos.length) (bd:=4398046511104) (la:=ra.acks) (ls:=ra.starts) (by have:=za.log.ents; omega) (by have:=za.acks; omega) (by have:=za.starts; omega) (by have:=za.dos; omega) (by omega) F7 (by omega) ⟨_,rfl,za.log.bat,A2.1⟩ A2.2.1 A2.2.2.1 ⟨_,rfl,λm hm=>⟨by have:=(za.dlog m hm).ents; omega,(za.dlog m hm).bat⟩,A2.2.2.2⟩ ?_
 intro m8 n8 S8
 have l8:=S8.le
 have G:=G.trans ((S8.gr1 (by omega)).weaken (by omega))
 have Gx:=Gx.trans ((S8.gr1 (by omega)).weaken (by omega))
 replace A4:=RepS.mono (S8.sub (by omega) (by omega)) A4
 replace A6:=RepS.mono (S8.sub (by omega) (by omega)) A6
 replace K4:=MsgsK.mono (S8.sub (by omega) (by omega)) K4
 have K2:=K2.sim (S8.sim (λj hj=>hfr.fz j (by omega)))
 replace b0:=(S8.out n (by omega) (by omega)).trans b0
 replace vb0:=Qdl (fz:=fz) b0
 replace b1:=(S8.out n1 (by omega) (by omega)).trans b1
 replace vb1:=Qdl (fz:=fz) b1
 replace b2:=(S8.out n2 (by omega) (by omega)).trans b2
 replace vb2:=Qdl (fz:=fz) b2
 replace b3:=(S8.out n3 (by omega) (by omega)).trans b3
 replace vb3:=Qdl (fz:=fz) b3
 replace b4:=(S8.out n4 (by omega) (by omega)).trans b4
 replace vb4:=Qdl (fz:=fz) b4
 replace b5:=(S8.out n5 (by omega) (by omega)).trans b5
 replace vb5:=Qdl (fz:=fz) b5
 replace b6:=(S8.out n6 (by omega) (by omega)).trans b6
 replace vb6:=Qdl (fz:=fz) b6
 simp only [↓E1,E2,zA,zB,zC,zD,zE,zF,zG,zH,zI,zJ,zK,zL,zM,zN,reduceIte,zO,zP, *]
 refine Qhc H (lo:=n3 + 1) (hi:=n4) (λj hj=>hfr.fz j (by omega)) rb (Le:=rb.log.ents.length) (Ld:=rb.dos.length) (bd:=4398046511104) (la:=rb.acks) (ls:=rb.starts) (by have:=zb.log.ents; omega) (by have:=zb.acks; omega) (by have:=zb.starts; omega) (by have:=zb.dos; omega) (by omega) S8.free (by omega) ⟨_,rfl,zb.log.bat,A4.1⟩ A4.2.1 A4.2.2.1 ⟨_,rfl,λm hm=>⟨by have:=(zb.dlog m hm).ents; omega,(zb.dlog m hm).bat⟩,A4.2.2.2⟩ ?_
 intro m9 n9 S9
 have l9:=S9.le
 have G:=G.trans ((S9.gr1 (by omega)).weaken (by omega))
 have Gx:=Gx.trans ((S9.gr1 (by omega)).weaken (by omega))
 replace A6:=RepS.mono (S9.sub (by omega) (by omega)) A6
 replace K2:=MsgsK.mono (S9.sub (by omega) (by omega)) K2
 have K4:=K4.sim (S9.sim (λj hj=>hfr.fz j (by omega)))
 replace b0:=(S9.out n (by omega) (by omega)).trans b0
 replace vb0:=Qdl (fz:=fz) b0
 replace b1:=(S9.out n1 (by omega) (by omega)).trans b1
 replace vb1:=Qdl (fz:=fz) b1
 replace b2:=(S9.out n2 (by omega) (by omega)).trans b2
 replace vb2:=Qdl (fz:=fz) b2
 replace b3:=(S9.out n3 (by omega) (by omega)).trans b3
 replace vb3:=Qdl (fz:=fz) b3
 replace b4:=(S9.out n4 (by omega) (by omega)).trans b4
 replace vb4:=Qdl (fz:=fz) b4
 replace b5:=(S9.out n5 (by omega) (by omega)).trans b5
 replace vb5:=Qdl (fz:=fz) b5
 replace b6:=(S9.out n6 (by omega) (by omega)).trans b6
 replace vb6:=Qdl (fz:=fz) b6
 simp only [↓E1,E2,zA,zB,zC,zD,zE,zF,zG,zH,zI,zJ,zK,zL,zM,zN,reduceIte,zO,zP, *]
 refine Qhc H (lo:=n5 + 1) (hi:=n6) (λj hj=>hfr.fz j (by omega)) rc (Le:=rc.log.ents.length) (Ld:=rc.dos.length) (bd:=4398046511104) (la:=rc.acks) (ls:=rc.starts) (by have:=zc.log.ents; omega) (by have:=zc.acks; omega) (by have:=zc.starts; omega) (by have:=zc.dos; omega) (by omega) S9.free (by omega) ⟨_,rfl,zc.log.bat,A6.1⟩ A6.2.1 A6.2.2.1 ⟨_,rfl,λm hm=>⟨by have:=(zc.dlog m hm).ents; omega,(zc.dlog m hm).bat⟩,A6.2.2.2⟩ ?_
 intro m10 n10 S10
 have l10:=S10.le
 have G:=G.trans ((S10.gr1 (by omega)).weaken (by omega))
 have Gx:=Gx.trans ((S10.gr1 (by omega)).weaken (by omega))
 replace K2:=MsgsK.mono (S10.sub (by omega) (by omega)) K2
 replace K4:=MsgsK.mono (S10.sub (by omega) (by omega)) K4
 replace b0:=(S10.out n (by omega) (by omega)).trans b0
 replace vb0:=Qdl (fz:=fz) b0
 replace b1:=(S10.out n1 (by omega) (by omega)).trans b1
 replace vb1:=Qdl (fz:=fz) b1
 replace b2:=(S10.out n2 (by omega) (by omega)).trans b2
 replace vb2:=Qdl (fz:=fz) b2
 replace b3:=(S10.out n3 (by omega) (by omega)).trans b3
 replace vb3:=Qdl (fz:=fz) b3
 replace b4:=(S10.out n4 (by omega) (by omega)).trans b4
 replace vb4:=Qdl (fz:=fz) b4
 replace b5:=(S10.out n5 (by omega) (by omega)).trans b5
 replace vb5:=Qdl (fz:=fz) b5
 replace b6:=(S10.out n6 (by omega) (by omega)).trans b6
 replace vb6:=Qdl (fz:=fz) b6
 simp only [↓E1,E2,zA,zB,zC,zD,zE,zF,zG,zH,zI,zJ,zK,zL,zM,zN,reduceIte,zO,zP, *]
 refine Qie H (lo:=n1 + 1) (hi:=n2) (L:=pa.length) (bd:=4398046511104) (λj hj=>hfr.fz j (by omega)) (by omega) (by omega) S10.free (by omega) K2 ?_
 intro m11 n11 S11
 have l11:=S11.le
 have G:=G.trans ((S11.gr1 (by omega)).weaken (by omega))
 have Gx:=Gx.trans ((S11.gr1 (by omega)).weaken (by omega))
 replace K4:=MsgsK.mono (S11.sub (by omega) (by omega)) K4
 replace b0:=(S11.out n (by omega) (by omega)).trans b0
 replace vb0:=Qdl (fz:=fz) b0
 replace b1:=(S11.out n1 (by omega) (by omega)).trans b1
 replace vb1:=Qdl (fz:=fz) b1
 replace b2:=(S11.out n2 (by omega) (by omega)).trans b2
 replace vb2:=Qdl (fz:=fz) b2
 replace b3:=(S11.out n3 (by omega) (by omega)).trans b3
 replace vb3:=Qdl (fz:=fz) b3
 replace b4:=(S11.out n4 (by omega) (by omega)).trans b4
 replace vb4:=Qdl (fz:=fz) b4
 replace b5:=(S11.out n5 (by omega) (by omega)).trans b5
 replace vb5:=Qdl (fz:=fz) b5
 replace b6:=(S11.out n6 (by omega) (by omega)).trans b6
 replace vb6:=Qdl (fz:=fz) b6
 simp only [↓E1,E2,zA,zB,zC,zD,zE,zF,zG,zH,zI,zJ,zK,zL,zM,zN,reduceIte,zO,zP, *]
 refine Qie H (lo:=n3 + 1) (hi:=n4) (L:=qb.length) (bd:=4398046511104) (λj hj=>hfr.fz j (by omega)) (by omega) (by omega) S11.free (by omega) K4 ?_
 intro m12 n12 S12
 have l12:=S12.le
 have G:=G.trans ((S12.gr1 (by omega)).weaken (by omega))
 have Gx:=Gx.trans ((S12.gr1 (by omega)).weaken (by omega))
 replace b0:=(S12.out n (by omega) (by omega)).trans b0
 replace vb0:=Qdl (fz:=fz) b0
 replace b1:=(S12.out n1 (by omega) (by omega)).trans b1
 replace vb1:=Qdl (fz:=fz) b1
 replace b2:=(S12.out n2 (by omega) (by omega)).trans b2
 replace vb2:=Qdl (fz:=fz) b2
 replace b3:=(S12.out n3 (by omega) (by omega)).trans b3
 replace vb3:=Qdl (fz:=fz) b3
 replace b4:=(S12.out n4 (by omega) (by omega)).trans b4
 replace vb4:=Qdl (fz:=fz) b4
 replace b5:=(S12.out n5 (by omega) (by omega)).trans b5
 replace vb5:=Qdl (fz:=fz) b5
 replace b6:=(S12.out n6 (by omega) (by omega)).trans b6
 replace vb6:=Qdl (fz:=fz) b6
 simp only [↓E1,E2,zA,zB,zC,zD,zE,zF,zG,zH,zI,zJ,zK,zL,zM,zN,reduceIte,zO,zP, *]
 refine (cKr ide ida ids xd1).c1 S12.free ⟨LentR.mono (Gx.sub G1.free (Nat.le_refl _)) hX1,RepS.mono (G.sub hfr (Nat.le_refl _)) s0⟩ ?_
 rintro v m13 n13 g13 rfl
 have l13:=g13.le
 have G:=G.trans (g13.weaken (by omega))
 simp only [↓E1,E2,zA,zB,zC,zD,zE,zF,zG,zH,zI,zJ,zK,zL,zM,zN,reduceIte,zO,zP, *]
 refine aw.c1 G.free trivial ?_
 rintro v m14 n14 g14 rfl
 simp only [↓E1,E2,zA,zB,zC,zD,zE,zF,zG,zH,zI,zJ,zK,zL,zM,zN,reduceIte,zO,zP, *]
 exact hkH.out _ _ (G.trans (g14.weaken (by omega)))
end Go.Proofs.YtnnjlnkoomeadaaGreat.Pv
namespace Go.Proofs.YtnnjlnkoomeadaaGreat.Pv
open Go.Ev Go.Ev.Rp
set_option maxRecDepth 100000
set_option maxHeartbeats 4000000
theorem Qiq {r : Rep} {m : Msg} {N : Nat} (h : MsgSz m) : ∀ x ∈ allM r m N,MsgSz x:=λx hx=>by
 unfold allM at hx
 obtain ⟨j,-,rfl⟩:=List.mem_map.1 hx
 exact ⟨h.bat,h.log⟩
theorem take_sz {r r1 : Rep} {l : Lg} {c : Int} {N : Nat} (hN : N ≤ 7) (hl : LgSz l) (h : takeR r l c N = some r1) : RepSz r1:=by
 unfold takeR at h
 split at h
 ·cases h
 ·rename_i g hg
  split at h
  ·cases h
  ·cases h
   exact ⟨inst_sz hl hg,by simp [tk0,anewR]; omega,by simp [tk0,anewR],by simp [tk0,anewR],λd hd=>by simp [tk0,anewR] at hd⟩
theorem best_sz {r : Rep} (hz : RepSz r) : LgSz (bestD r).log:=by
 obtain ⟨h,e⟩:=Qpo r
 rw [e]
 rcases List.mem_append.1 (List.getElem_mem h) with h1 | h1
 ·exact hz.dlog _ h1
 ·rw [List.mem_singleton.1 h1]; exact hz.log
theorem Qu7 {r : Rep} {N : Nat} (hz : RepSz r) (hN : N ≤ 7) : RepSz (Qeg r N).1 ∧ (∀ m ∈ (Qeg r N).2.1,MsgSz m) ∧ (Qeg r N).2.1.length ≤ 7:=by
 rcases Qhv r N with ⟨-,hR⟩ | ⟨-,-,hR⟩ | ⟨-,-,hR⟩
 ·rw [hR]; exact ⟨hz,(λm hm=>by cases hm),by simp⟩
 ·rw [hR]; exact ⟨hz,(λm hm=>by cases hm),by simp⟩
 ·rw [hR]
  cases hT : takeR r (bestD r).log (Qgm (allD r) (allD r).length) N with
  | none=>exact ⟨hz,(λm hm=>by cases hm),by simp [chose]⟩
  | some r1 =>
   have h1:=take_sz hN (best_sz hz) hT
   exact ⟨⟨h1.log,h1.acks,h1.starts,h1.dos,h1.dlog⟩,Qiq (sz_set h1.log),Nat.le_trans (Qee _ _ _) hN⟩
theorem tick_sz {r : Rep} (hz : RepSz r) : RepSz (tickS r).1 ∧ (∀ m ∈ (tickS r).2, MsgSz m) ∧ (tickS r).2.length ≤ 1000 := by
 rcases Qjp r with ⟨hT,-⟩ | ⟨-,-,-,-,N,-,h1,h7,hT⟩
 ·rw [hT]; exact ⟨hz,(λm hm=>by cases hm),by simp⟩
 ·rw [hT]
  have hA:=Qee r (Qek (r.view + 1)) N
  obtain ⟨c1,c2,c3⟩:=Qu7 (Qki hz (r.view + 1) h7) h7
  split
  ·split
   ·exact ⟨hz,(λm hm=>by cases hm),by simp⟩
   ·refine ⟨c1,λm hm=>?_,by simp only [List.length_append]; omega⟩
    rcases List.mem_append.1 hm with h | h
    ·exact Qiq (Qe9 _) m h
    ·exact c2 m h
  ·exact ⟨Qki hz _ h7,Qiq (Qe9 _),by dsimp only; omega⟩
theorem beat_sz {r : Rep} (hz : RepSz r) : RepSz (beatS r).1 ∧ (∀ m ∈ (beatS r).2,MsgSz m) ∧ (beatS r).2.length ≤ 1000:=by
 refine ⟨hz,?_⟩
 have hv : MsgSz { voteG r with frm:=r.me,to:=prim r.view r.nodes }:=⟨(Qqc hz.log).bat,(Qqc hz.log).log⟩
 have ha : MsgSz { askG r with frm:=r.me,to:=prim r.view r.nodes }:=⟨(Qq6 r).bat,(Qq6 r).log⟩
 rcases Qjo r with ⟨-,hT⟩ | ⟨-,N,-,h1,h7,⟨-,hT⟩ | ⟨-,-,-,hT⟩ | ⟨-,-,-,-,hT⟩ | ⟨-,-,-,-,hT⟩ | ⟨-,-,-,hT⟩ | ⟨-,-,-,-,hT⟩ | ⟨-,-,-,-,hT⟩⟩
 ·rw [hT]; exact ⟨(λm hm=>by cases hm),by simp⟩
 ·rw [hT]; exact ⟨Qiq (Qp3 r),by have:=Qee r (beatM r) N; dsimp only; omega⟩
 ·rw [hT]; exact ⟨Qiq (Qe9 _),by have:=Qee r (Qek r.view) N; dsimp only; omega⟩
 ·rw [hT]; exact ⟨Qiq (Qe9 _),by have:=Qee r (Qek r.view) N; dsimp only; omega⟩
 ·rw [hT]
  refine ⟨λm hm=>?_,by have:=Qee r (Qek r.view) N; simp only [List.length_append,List.length_singleton]; omega⟩
  rcases List.mem_append.1 hm with h | h
  ·exact Qiq (Qe9 _) m h
  ·rw [List.mem_singleton.1 h]; exact hv
 ·rw [hT]; exact ⟨(λm hm=>by cases hm),by simp⟩
 ·rw [hT]; exact ⟨(λm hm=>by cases hm),by simp⟩
 ·rw [hT]; exact ⟨λm hm=>by rw [List.mem_singleton.1 hm]; exact ha,by simp⟩
theorem rst_sz {r : Rep} (hz : RepSz r) : RepSz (Qeo r):=by
 unfold Qeo
 cases h : repB r with
 | false=>exact hz
 | true =>
  obtain ⟨N,n1,n2,n3,n4⟩:=rep_N h
  rw [if_pos rfl]
  exact ⟨hz.log,by simp; omega,by simp,by simp,λd hd=>by simp at hd⟩
variable {P : Program} (H : Fs P)
include H
theorem Qhe (hS : SortC P) (aw : BoolC P n_Qcv [] (λ_=>True) true) (r : Rep) (xe xa xs xd : SV) (hz : RepSz r) (hl : LndSz r) :
 BoolC P n_Qap [.ag (repC r xe xa xs xd)] (λM=>RepS M r xe xa xs xd) true:=by
 obtain ⟨a1,a2,a3⟩:=tick_sz hz
 obtain ⟨b1,b2,b3⟩:=beat_sz hz
 exact law17_ReplicaTimers H hS aw r xe xa xs xd hz hl (λe he=>by have:=hz.log.bat e he; omega) (λd hd e he=>by have:=(hz.dlog d hd).bat e he; omega) (tickS r).1 (beatS r).1 (Qeo r) (tickS r).2 (beatS r).2 rfl rfl rfl a1 b1 (rst_sz hz) a2 b2 a3 b3
end Go.Proofs.YtnnjlnkoomeadaaGreat.Pv
namespace Go.Ev
structure Imp (w : World) (n : Nat) (fz : Fz) (ρ : Rho) : Prop where
 fr : ∀ id,n ≤ id → fz id = none ∧ ρ id = none
 own : ∀ id cs,fz id = some cs → OwnR v0 ρ w id cs
theorem Imp.nil (w : World) : Imp w 0 (λ_=>none) (λ_=>none):=⟨λ_ _=>⟨rfl,rfl⟩,λ_ _ h=>by cases h⟩
theorem Imp.rel {w : World} {n : Nat} {fz : Fz} {ρ : Rho} (h : Imp w n fz ρ) : Rel v0 ρ fz [] w :=
 ⟨λid cs hh=>.inl (h.own id cs hh),λid cs h=>(by cases h),λid cs h=>(by cases h),λid id' p p' h=>(by cases h)⟩
theorem Imp.free {w : World} {n : Nat} {fz : Fz} {ρ : Rho} (h : Imp w n fz ρ) : Free fz [] n:=λj=>(h.fr _ (by omega)).1
theorem Imp.fresh {w : World} {n n' : Nat} {fz : Fz} {ρ : Rho} (h : Imp w n fz ρ) : Qfd ρ n n':=λid h1 _=>(h.fr id h1).2
structure ImpX (n : Nat) (fz : Fz) (ρ : Rho) (n' : Nat) (fz' : Fz) (ρ' : Rho) : Prop where
 le : n ≤ n'
 fz : Sub fz fz'
 rho : ∀ id p,ρ id = some p → ρ' id = some p
theorem ImpX.refl {n : Nat} {fz : Fz} {ρ : Rho} : ImpX n fz ρ n fz ρ:=⟨Nat.le_refl _,Sub.refl _,λ_ _ h=>h⟩
theorem ImpX.trans {n n' n'' : Nat} {fz fz' fz'' : Fz} {ρ ρ' ρ'' : Rho} (h : ImpX n fz ρ n' fz' ρ') (k : ImpX n' fz' ρ' n'' fz'' ρ'') : ImpX n fz ρ n'' fz'' ρ'' :=
 ⟨Nat.le_trans h.le k.le,h.fz.trans k.fz,λ_ _ g=>k.rho _ _ (h.rho _ _ g)⟩
theorem ImpX.vr {n n' : Nat} {fz fz' : Fz} {ρ ρ' : Rho} (h : ImpX n fz ρ n' fz' ρ') {w : World} {s : SV} {v : Value} (g : VR v0 ρ w s v) : VR v0 ρ' w s v:=g.mono h.rho λ_=>Nat.le_refl _
theorem ImpX.vrs {n n' : Nat} {fz fz' : Fz} {ρ ρ' : Rho} (h : ImpX n fz ρ n' fz' ρ') {w : World} {s : List SV} {v : List Value} (g : All2 (VR v0 ρ w) s v) : All2 (VR v0 ρ' w) s v:=g.imp λ_ _ g=>h.vr g
def Im (w : World) (n : Nat) (fz : Fz) (ρ : Rho) (vs : List Value) (q : Fz → List SV → Prop) : Prop :=
 ∃ n' fz' ρ' c,Imp w n' fz' ρ' ∧ ImpX n fz ρ n' fz' ρ' ∧ All2 (VR v0 ρ' w) c vs ∧ Qdo c = true ∧ q fz' c
theorem Im.seq {w : World} {n : Nat} {fz : Fz} {ρ : Rho} {vs us : List Value} {q r : Fz → List SV → Prop} (hq : ∀ {M M' c},Sub M M' → q M c → q M' c) (h : Im w n fz ρ vs q) (k : ∀ n fz ρ,Imp w n fz ρ → Im w n fz ρ us r) :
 Im w n fz ρ (vs ++ us) λM c=>∃ a b,c = a ++ b ∧ q M a ∧ r M b:=by
 obtain ⟨n1,fz1,ρ1,a,h1,h2,h3,h4,h5⟩:=h
 obtain ⟨n2,fz2,ρ2,b,k1,k2,k3,k4,k5⟩:=k n1 fz1 ρ1 h1
 exact ⟨n2,fz2,ρ2,a ++ b,k1,h2.trans k2,(k2.vrs h3).append k3,by rw [Qj6,h4,k4]; rfl,a,b,rfl,hq k2.fz h5,k5⟩
theorem Im.one {w : World} {n : Nat} {fz : Fz} {ρ : Rho} (h : Imp w n fz ρ) {c : List SV} {vs : List Value} (hv : ∀ ρ,All2 (VR v0 ρ w) c vs) (hk : Qdo c = true) : Im w n fz ρ vs λ_ d=>d = c :=
 ⟨n,fz,ρ,c,h,.refl,hv ρ,hk,rfl⟩
theorem Im.mono {w : World} {n : Nat} {fz : Fz} {ρ : Rho} {vs : List Value} {q r : Fz → List SV → Prop} (h : Im w n fz ρ vs q) (hq : ∀ M c,q M c → r M c) : Im w n fz ρ vs r :=
 let ⟨n',fz',ρ',c,h1,h2,h3,h4,h5⟩:=h; ⟨n',fz',ρ',c,h1,h2,h3,h4,hq _ _ h5⟩
theorem Qus {w : World} {s : Nat} (hs : 0 < s) {a : Addr} {len cap : Nat} {C : Nat → List Value} (hcells : ∀ i, i < cap → w.cells? 0 (a.add (i * s)) s = some (C i)) (hle : len ≤ cap) (hcap : cap ≤ maxLen)
 {El : Fz → List SV → Nat → Prop} (hm : ∀ {M M' c i},Sub M M' → El M c i → El M' c i) (hel : ∀ i,i < len → ∀ n fz ρ,Imp w n fz ρ → Im w n fz ρ (C i) λM c=>El M c i)
 {n : Nat} {fz : Fz} {ρ : Rho} (h : Imp w n fz ρ) : Im w n fz ρ [.slice (some a) len cap] λM c=>∃ x css,c = [x] ∧ Sl M s x css ∧ css.length = len ∧ ∀ i (hi : i < css.length),El M css[i] i:=by
 have hlen : ∀ i,i < cap → (C i).length = s:=λi hi=>by
  have:=hcells i hi
  unfold World.cells? at this
  rw [if_pos (Nat.zero_le _)] at this
  have:=Go.mapM_some_length this
  simpa using this
 have hcell : ∀ i j,i < cap → j < s → w.cell? ((a.add (i * s)).add j) = (C i)[j]?:=λi j hi hj=>by
  have:=hcells i hi
  unfold World.cells? at this
  rw [if_pos (Nat.zero_le _)] at this
  exact Go.mapM_some_get this j j (by simp [hj])
 -- the elements
 have key : ∀ m,m ≤ len → ∃ (n' : Nat) (fz' : Fz) (ρ' : Rho) (css : List (List SV)),Imp w n' fz' ρ' ∧ ImpX n fz ρ n' fz' ρ' ∧ css.length = m ∧ (∀ i (hi : i < css.length),All2 (VR v0 ρ' w) css[i] (C i)) ∧ (∀ i (hi : i < css.length),Qdo css[i] = true) ∧ ∀ i (hi : i < css.length),El fz' css[i] i:=by
  intro m
  induction m with
  | zero=>exact λ_=>⟨n,fz,ρ,[],h,.refl,rfl,λi hi=>(by simp at hi),λi hi=>(by simp at hi),λi hi=>(by simp at hi)⟩
  | succ m ih =>
   intro hm1
   obtain ⟨n1,fz1,ρ1,css,g1,g2,g3,g4,g5,g6⟩:=ih (by omega)
   obtain ⟨n2,fz2,ρ2,c,k1,k2,k3,k4,k5⟩:=hel m (by omega) n1 fz1 ρ1 g1
   refine ⟨n2,fz2,ρ2,css ++ [c],k1,g2.trans k2,by simp [g3],λi hi=>?_,λi hi=>?_,λi hi=>?_⟩
   all_goals
    rcases Nat.lt_or_ge i css.length with h1 | h1
    ·rw [List.getElem_append_left h1]
     first | exact k2.vrs (g4 i h1) | exact g5 i h1 | exact hm k2.fz (g6 i h1)
    ·have : i = m:=by simp at hi; omega
     subst this
     rw [List.getElem_append_right h1]
     simp only [g3,Nat.sub_self,List.getElem_cons_zero]
     first | exact k3 | exact k4 | exact k5
 obtain ⟨n1,fz1,ρ1,css,g1,g2,g3,g4,g5,g6⟩:=key len (Nat.le_refl _)
 rcases Nat.eq_zero_or_pos len with h0 | h0
 ·subst h0
  exact ⟨n1,fz1,ρ1,[.zsl],g1,g2,⟨⟨a,cap,rfl⟩,trivial⟩,rfl,.zsl,css,rfl,.inl ⟨.inr (.inr rfl),List.length_eq_zero_iff.1 g3⟩,g3,g6⟩
 ·have hls : ∀ e ∈ css,e.length = s ∧ Qdo e = true:=λe he=>by
   obtain ⟨i,hi,rfl⟩:=List.getElem_of_mem he
   exact ⟨by rw [(g4 i hi).length,hlen i (by omega)],g5 i hi⟩
  have hfl : css.flatten.length = len * s:=by rw [Qen λe he=>(hls e he).1,g3]
  -- the block
  obtain ⟨B,ty,fr,hB,hsp⟩ : ∃ B ty fr,w.heap[a.block]? = some (.cells B ty fr) ∧ a.spot = none:=by
   have:=hcell 0 0 (by omega) hs
   rw [List.getElem?_eq_getElem (by rw [hlen 0 (by omega)]; exact hs),Nat.zero_mul] at this
   have ha : (a.add 0).add 0 = a:=by simp [Addr.add]
   rw [ha] at this
   unfold World.cell? at this
   split at this
   ·rename_i c t f hc
    refine ⟨c,t,f,hc,?_⟩
    split at this
    ·cases this
    ·rename_i hns; simpa using hns
   ·cases this
  have hadd : ∀ k,a.add k = ⟨a.block,a.off + k,none⟩:=λk=>by
   cases a with | mk b o sp =>
   simp only at hsp
   subst hsp
   simp only [Addr.add]
   split
   ·rename_i h; subst h; rfl
   ·rfl
  have hB2 : ∀ i j,i < cap → j < s → B[a.off + (i * s + j)]? = (C i)[j]?:=λi j hi hj=>by
   rw [← hcell i j hi hj,hadd]
   have : (⟨a.block,a.off + i * s,none⟩ : Addr).add j = ⟨a.block,a.off + i * s + j,none⟩:=by
    simp only [Addr.add]
    split
    ·rename_i h; subst h; rfl
    ·rfl
   rw [this,Nat.add_assoc]
   simp only [World.cell?,hB]
   rfl
  have hsz : a.off + cap * s ≤ B.size:=by
   have h1:=hB2 (cap - 1) (s - 1) (by omega) (by omega)
   rw [List.getElem?_eq_getElem (by rw [hlen _ (by omega)]; omega)] at h1
   have h2:=(Array.getElem?_eq_some_iff.1 h1).1
   have h3 : (cap - 1) * s + (s - 1) + 1 = cap * s:=by
    obtain ⟨c,rfl⟩ : ∃ c,cap = c + 1:=⟨cap - 1,by omega⟩
    rw [Nat.add_sub_cancel,Nat.add_mul]; omega
   omega
  have hdiv : ∀ k,k < len * s → k / s < len ∧ k % s < s ∧ k = k / s * s + k % s:=λk hk=>⟨Nat.div_lt_of_lt_mul (by rw [Nat.mul_comm]; exact hk),Nat.mod_lt _ hs,by rw [Nat.mul_comm]; exact (Nat.div_add_mod k s).symm⟩
  let ρ2 : Rho:=upd ρ1 n1 (a.block,a.off)
  let fz2 : Fz:=λid=>if id = n1 then some css.flatten else fz1 id
  have hup : ∀ id p,ρ1 id = some p → ρ2 id = some p:=λid p hp=>Qlh (p:=(a.block,a.off)) (g1.fr n1 (Nat.le_refl _)).2 id p hp
  have hx : ImpX n1 fz1 ρ1 (n1 + 1) fz2 ρ2:=⟨by omega,λid B hb=>by
   show (if id = n1 then _ else _) = _
   rw [if_neg (λe=>by subst e; rw [(g1.fr id (Nat.le_refl _)).1] at hb; cases hb)]; exact hb,hup⟩
  refine ⟨n1 + 1,fz2,ρ2,[.osl n1 0 len len s],⟨λid hi=>⟨?_,?_⟩,λid cs hcs=>?_⟩,g2.trans hx,⟨⟨(a.block,a.off),cap,upd_same _ _ _,?_,Nat.le_refl _,hle,?_,?_⟩,trivial⟩,rfl,_,css,rfl,.inr ⟨n1,0,len,css.flatten,by rw [g3],by omega,?_,Qeq (Qd5 hls),by rw [hfl,g3]; omega,?_,hls⟩,g3,λi hi=>hm hx.fz (g6 i hi)⟩
  ·show (if id = n1 then _ else _) = none
   rw [if_neg (by omega)]; exact (g1.fr id (by omega)).1
  ·show upd ρ1 n1 _ id = none
   unfold upd; rw [if_neg (by omega)]; exact (g1.fr id (by omega)).2
  ·have hcs' : (if id = n1 then some css.flatten else fz1 id) = some cs:=hcs
   split at hcs'
   ·rename_i e
    subst e
    cases hcs'
    refine ⟨(a.block,a.off),B,ty,fr,upd_same _ _ _,hB,?_,λk sv hk=>?_⟩
    ·show a.off + css.flatten.length ≤ B.size
     have : len * s ≤ cap * s:=Nat.mul_le_mul_right _ hle
     omega
    ·have hkl : k < len * s:=by rw [← hfl]; exact (List.getElem?_eq_some_iff.1 hk).1
     obtain ⟨d1,d2,d3⟩:=hdiv k hkl
     have hci : k / s < css.length:=by omega
     have h1:=Qmp (es:=css) (i:=k / s) (k:=k % s) (m:=1) (λe he=>(hls e he).1) hci (by omega)
     rw [← d3] at h1
     have h2 : css.flatten[k]? = (css[k / s])[k % s]?:=by
      have:=congrArg List.head? h1
      rwa [List.head?_take,List.head?_take,if_neg (by omega),if_neg (by omega),List.head?_drop,List.head?_drop] at this
     rw [h2] at hk
     obtain ⟨v,hv,hr⟩:=(g4 _ hci).get hk
     refine ⟨v,?_,VR.mono hr hup λ_=>Nat.le_refl _⟩
     rw [show (a.block,a.off).2 + k = a.off + (k / s * s + k % s) by show a.off + k = _; omega,hB2 _ _ (by omega) d2]; exact hv
   ·exact OwnR.mono (g1.own id cs hcs') hup (λ_=>Nat.le_refl _) λ_ _=>rfl
  ·show Value.slice (some a) len cap = .slice (some ⟨a.block,a.off + 0,none⟩) len cap
   rw [← hadd 0]; rfl
  ·show a.off + 0 + cap * s ≤ bsize w a.block
   unfold bsize; rw [hB]; show _ ≤ B.size; omega
  ·unfold maxLen at hcap; omega
  ·show (if n1 = n1 then some css.flatten else fz1 n1) = some _
   rw [if_pos rfl]
  ·rw [List.drop_zero,List.take_of_length_le]
   rw [hfl,g3]; omega
end Go.Ev
namespace Go.Ev
section
variable {H : Type} {enc : TypeId × Value → H} {P : Program} {w : World}
def ImpT {H : Type} (enc : TypeId × Value → H) (P : Program) (w : World) (T : TypeId) (q : Fz → List SV → Prop) : Prop :=
 ∀ fuel cs d ps,DataW.trod enc P w 0 (λ_=>true) true fuel T cs = some (d,ps) → (∀ k ∈ d.weights P T,k ≤ reachBytes) → ∀ n fz ρ,Imp w n fz ρ → Im w n fz ρ cs q
def Mono (q : Fz → List SV → Prop) : Prop:=∀ M M' c,Sub M M' → q M c → q M' c
theorem ImpT.mono {T : TypeId} {q r : Fz → List SV → Prop} (h : ImpT enc P w T q) (hq : ∀ M c,q M c → r M c) : ImpT enc P w T r:=λfuel cs d ps h1 h2 n fz ρ h3=>(h fuel cs d ps h1 h2 n fz ρ h3).mono hq
theorem impT_int {T : TypeId} (ht : P.underlying T = some (.int .i64)) : ImpT enc P w T λ_ c=>∃ i : Int,(Lit.int .i64 i).wf = true ∧ c = [.int .i64 i]:=λfuel cs d ps h _ n fz ρ hi=>by
 obtain ⟨i,rfl,_,hw⟩:=DataW.trod_int ht h
 exact (Im.one hi (c:=[.int .i64 i]) (vs:=[.int .i64 i]) (λ_=>⟨rfl,trivial⟩) rfl).mono λ_ _ h=>⟨i,hw,h⟩
theorem Qsr {T : TypeId} (ht : P.underlying T = some .bool) : ImpT enc P w T λ_ c=>∃ b,c = [.bool b]:=λfuel cs d ps h _ n fz ρ hi=>by
 obtain ⟨b,rfl,_⟩:=DataW.trod_bool ht h
 exact (Im.one hi (c:=[.bool b]) (vs:=[.bool b]) (λ_=>⟨rfl,trivial⟩) rfl).mono λ_ _ h=>⟨b,h⟩
theorem impT_str {T : TypeId} (ht : P.underlying T = some .string) : ImpT enc P w T λ_ c=>∃ l m,m < 256 ^ l ∧ l ≤ reachBytes ∧ c = [.str l m]:=λfuel cs d ps h hwt n fz ρ hi=>by
 obtain ⟨s,rfl,hx,_⟩:=DataW.trod_string ht h
 have hd : d = .lit (.string s.data.toList):=congrArg Prod.fst hx
 subst hd
 have hb:=hwt s.data.toList.length (by simp [DataW.weights])
 have hs : sOf s.data.toList.length (nOf s.data.toList) = s:=by
  apply ByteArray.ext
  apply Array.ext'
  show sB _ _ = _
  rw [Qsp]
 exact (Im.one hi (c:=[.str s.data.toList.length (nOf s.data.toList)]) (vs:=[.string s]) (λ_=>⟨⟨Ql3 _,by rw [hs]⟩,trivial⟩) rfl).mono λ_ _ h=>⟨_,_,Ql3 _,hb,h⟩
theorem Ql9 : ∀ (ts : List (TypeId × (Fz → List SV → Prop))) (segs : List (List Value)),(∀ p ∈ ts,Mono p.2) → All2 (λp cs=>∀ n fz ρ,Imp w n fz ρ → Im w n fz ρ cs p.2) ts segs → ∀ n fz ρ,Imp w n fz ρ → Im w n fz ρ segs.flatten λM c=>∃ cs,c = cs.flatten ∧ All2 (λp d=>p.2 M d) ts cs
 | [],[],_,_,n,fz,ρ,h=>(Im.one h (c:=[]) (vs:=[]) (λ_=>trivial) rfl).mono λ_ _ h=>⟨[],h,trivial⟩
 | [],_ :: _,_,h,_,_,_,_=>h.elim
 | _ :: _,[],_,h,_,_,_,_=>h.elim
 | p :: ts,s :: segs,hm,h,n,fz,ρ,hi=>by
  refine (Im.seq (q:=p.2) (λhs hq=>hm p (by simp) _ _ _ hs hq) (h.1 n fz ρ hi) λn fz ρ hi=>Ql9 ts segs (λp hp=>hm p (by simp [hp])) h.2 n fz ρ hi).mono ?_
  rintro M c ⟨a,b,rfl,h1,cs,rfl,h2⟩
  exact ⟨a :: cs,rfl,h1,h2⟩
def Qic (P : Program) : List TypeId → List Value → List (List Value)
 | [],_=>[]
 | t :: ts,cs=>cs.take (P.cellsOf t) :: Qic P ts (cs.drop (P.cellsOf t))
theorem Qnn : ∀ (ts : List TypeId) (cs : List Value),cs.length = (ts.map P.cellsOf).sum → (Qic P ts cs).flatten = cs
 | [],cs,h=>by simp at h; simp [Qic,h]
 | t :: ts,cs,h=>by
  simp only [List.map_cons,List.sum_cons] at h
  simp only [Qic,List.flatten_cons]
  rw [Qnn ts _ (by simp; omega),List.take_append_drop]
theorem Qj4 {ts : List TypeId} {ds : List (DataW H)} {i : Nat} {t : TypeId} {d : DataW H} (ht : ts[i]? = some t) (hd : ds[i]? = some d) : ∀ k ∈ d.weights P t,k ∈ DataW.weightsEach P ts ds:=λk hk=>DataW.weights_mem_each ht hd k hk
theorem Qkr {e : TypeId} : ∀ {ds : List (DataW H)} {d : DataW H},d ∈ ds → ∀ k ∈ d.weights P e,k ∈ DataW.weightsAll P e ds
 | [],_,h,_,_=>by cases h
 | x :: ds,d,h,k,hk=>by
  simp only [DataW.weightsAll,List.mem_append]
  rcases List.mem_cons.1 h with rfl | h
  ·exact .inl hk
  ·exact .inr (Qkr h k hk)
theorem Qgj {T : TypeId} {fs : Array Field} (ht : P.underlying T = some (.struct fs)) (ts : List (TypeId × (Fz → List SV → Prop))) (hts : fs.toList.map (·.type) = ts.map (·.1)) (hoff : fs.toList.map (·.offset) = (List.range ts.length).map fun i => (((ts.map (·.1)).take i).map P.cellsOf).sum)
 (hsz : P.cellsOf T = ((ts.map (·.1)).map P.cellsOf).sum) (hm : ∀ p ∈ ts,Mono p.2) (hi : ∀ p ∈ ts,ImpT enc P w p.1 p.2) : ImpT enc P w T λM c=>∃ cs,c = cs.flatten ∧ All2 (λp d=>p.2 M d) ts cs:=λfuel cs d ps h hwt n fz ρ himp=>by
 obtain ⟨xs,m,_,hx,hlen,hxl,hf⟩:=DataW.trod_struct ht h
 have hd : d = .agg (xs.map (·.1)):=congrArg Prod.fst hx
 subst hd
 have hfl : fs.toList.length = ts.length:=by have:=congrArg List.length hts; simpa using this
 rw [show cs = (Qic P (ts.map (·.1)) cs).flatten from (Qnn _ _ (by rw [hlen,hsz])).symm]
 have hseg : ∀ (us : List TypeId) (cs : List Value) (i : Nat) (h : i < us.length),(Qic P us cs)[i]? = some ((cs.drop ((us.take i).map P.cellsOf).sum).take (P.cellsOf us[i])):=by
  intro us
  induction us with
  | nil=>intro cs i h; simp at h
  | cons u us ih =>
   intro cs i h
   cases i with
   | zero=>simp [Qic]
   | succ i =>
    have:=ih (cs.drop (P.cellsOf u)) i (by simpa using h)
    simp only [Qic,List.getElem?_cons_succ,this,List.drop_drop,List.take_succ_cons,List.map_cons,List.sum_cons,List.getElem_cons_succ]
 have hsl : ∀ (us : List TypeId) (cs : List Value),(Qic P us cs).length = us.length:=by
  intro us
  induction us with
  | nil=>intro cs; rfl
  | cons u us ih=>intro cs; simp [Qic,ih]
 refine Ql9 ts _ hm (All2.Qjc (by rw [hsl]; simp) λi p sg hp hsg n fz ρ himp=>?_) n fz ρ himp
 have hil : i < ts.length:=(List.getElem?_eq_some_iff.1 hp).1
 have hpe : ts[i] = p:=(List.getElem?_eq_some_iff.1 hp).2
 obtain ⟨f,hfi⟩ : ∃ f,fs[i]? = some f:=⟨fs[i]'(by have : fs.size = fs.toList.length:=rfl; omega),Array.getElem?_eq_getElem _⟩
 have hfi' : fs.toList[i]? = some f:=by simpa using hfi
 have e1 : f.type = p.1:=by
  have:=congrArg (·[i]?) hts
  simp only [List.getElem?_map,hfi',hp,Option.map_some] at this
  exact Option.some.inj this
 have e2 : f.offset = (((ts.map (·.1)).take i).map P.cellsOf).sum:=by
  have:=congrArg (·[i]?) hoff
  simp only [List.getElem?_map,hfi',List.getElem?_range hil,Option.map_some] at this
  exact Option.some.inj this
 have h1:=hf i f hfi
 rw [hseg _ _ i (by simpa using hil)] at hsg
 cases hsg
 have hxi : i < xs.length:=by rw [hxl]; have : fs.size = fs.toList.length:=rfl; omega
 rw [List.getElem?_eq_getElem hxi,e1,e2] at h1
 rw [List.getElem_map,hpe]
 refine hi p (List.mem_of_getElem? hp) m _ xs[i].1 xs[i].2 h1 (λk hk=>hwt k ?_) n fz ρ himp
 simp only [DataW.weights,ht]
 exact Qj4 (i:=i) (t:=p.1) (d:=xs[i].1) (by rw [List.getElem?_map,hfi',Option.map_some,e1]) (by rw [List.getElem?_map,List.getElem?_eq_getElem hxi,Option.map_some]) k hk
theorem Qh4 {T e : TypeId} (ht : P.underlying T = some (.slice e)) {s b : Nat} (hs : P.cellsOf e = s) (hs0 : 0 < s) (hb : P.bytesOf e = b) {q : Fz → List SV → Prop} (hm : Mono q) (hi : ImpT enc P w e q) :
 ImpT enc P w T λM c=>∃ x css,c = [x] ∧ Sl M s x css ∧ css.length * b ≤ reachBytes ∧ ∀ d ∈ css,q M d:=λfuel cs d ps h hwt n fz ρ himp=>by
 rcases Go.Deep.open_slice ht h with ⟨rfl,_⟩ | ⟨a,len,cap,m,k,D,Pl,rfl,_,hle,hcap,hmm,hx,hel⟩
 ·exact (Im.one himp (c:=[.nsl]) (vs:=[.slice none 0 0]) (λ_=>⟨rfl,trivial⟩) rfl).mono λM c hc=>⟨.nsl,[],hc,.inl ⟨.inl rfl,rfl⟩,by simp,λd hd=>(by cases hd)⟩
 ·have hmm : m = cap:=hmm
  rw [hmm] at hx hel
  have hd : d = .slice ((List.range len).map D) ((List.range (cap - len)).map λj=>D (len + j)):=congrArg Prod.fst hx
  subst hd
  have hel' : ∀ i,i < cap → ∃ cs',w.cells? 0 (a.add (i * s)) s = some cs' ∧ DataW.trod enc P w 0 (λ_=>true) true k e cs' = some (D i,Pl i):=λi hi=>by rw [← hs]; exact hel i hi
  have hC : ∃ C : Nat → List Value,∀ i,i < cap → w.cells? 0 (a.add (i * s)) s = some (C i) ∧ DataW.trod enc P w 0 (λ_=>true) true k e (C i) = some (D i,Pl i):=by
   refine ⟨λi=>((w.cells? 0 (a.add (i * s)) s).getD []),λi hi=>?_⟩
   obtain ⟨cs',h1,h2⟩:=hel' i hi
   simp only [h1,Option.getD_some]; exact ⟨trivial,h2⟩
  obtain ⟨C,hC⟩:=hC
  have hw1 : ∀ i,i < len → ∀ k ∈ (D i).weights P e,k ≤ reachBytes:=λi hi k hk=>hwt k (by
   simp only [DataW.weights,ht,List.mem_cons,List.mem_append]
   exact .inr (.inl (Qkr (List.mem_map.2 ⟨i,by simpa using hi,rfl⟩) k hk)))
  have hw2 : len * b ≤ reachBytes:=by
   have:=hwt _ (by simp only [DataW.weights,ht,List.mem_cons]; exact .inl rfl)
   simp only [List.length_map,List.length_range,hb] at this
   have h3 : len * b ≤ (len + (cap - len)) * b:=Nat.mul_le_mul_right _ (by omega)
   omega
  refine (Qus hs0 (C:=C) (λi hi=>(hC i hi).1) hle hcap (El:=λM c _=>q M c) (λhs hq=>hm _ _ _ hs hq) (λi hi' n fz ρ h=>hi k (C i) _ _ (hC i (by omega)).2 (hw1 i hi') n fz ρ h) himp).mono ?_
  rintro M c ⟨x,css,rfl,h1,h2,h3⟩
  refine ⟨x,css,rfl,h1,by rw [h2]; exact hw2,λd hd=>?_⟩
  obtain ⟨i,hi,rfl⟩:=List.getElem_of_mem hd
  exact h3 i hi
end
end Go.Ev
namespace Go.Ev
theorem Qp4 {P : Program} {f : Nat} (hb : Qgb P f = true) (h : Qqt P f) : Ctr P f [] (λ_=>True) λ_ _ _ v=>v = .one (.bool true):=λfz mu n k hfr _ hk =>
 ⟨.one (.bool true),mu,n,hk _ _ _ (Gr.refl hfr) rfl,hb,Nat.le_refl _,λρ w xs hr hx hf=>by
  cases xs with
  | cons _ _=>exact hx.elim
  | nil=>exact (h w).mono λe w' ⟨he,hf⟩=>⟨_,he,ρ,Ext.refl _ _ _,hr.grow hf,rfl,hf.any,λid p hl hp=>.inr ⟨id,p,hl,hp,rfl⟩,NewI.refl⟩⟩
theorem Qqb {P : Program} {f : Nat} {avs : List AV} {fz : Fz} {n : Nat} {ρ : Rho} {w : World} {xs : List Value} (h : CP P f avs fz [] n λv _ _=>v = .one (.bool true)) (hi : Imp w n fz ρ) (hx : All2 (AVR v0 ρ w) avs xs) :
 Calls P f xs.toArray w λe w'=>e = .returned (.bool true) ∧ Fr ρ [] w w':=by
 obtain ⟨v,mu',n',rfl,hb,hle,hc⟩:=h
 refine (hc ρ w xs hi.rel hx hi.fresh).mono λe w' ⟨x,he,ρ',h1,h2,h3,h4,_⟩=>⟨?_,h4⟩
 have : x = .bool true:=h3
 rw [he,this]
section
open Go.ChangeShapes Go.WideShapes Go.RowKit
variable {H : Type} {enc : TypeId × Value → H} {P : Program}
theorem Qi5 (hl : laidOutB P = true) {W W' : World} (hb : Below W.heap.size W W') {sp : Nat → Bool} : ∀ {ts : List TypeId} {vs : List Value} {ds : List (DataW H)} {ps : List MemPlace},(∀ t ∈ ts,P.readableRec t = true ∧ t < P.types.size) →
 DataW.TrodAll enc P W 0 (λ_=>true) true ts vs ds ps → (∀ x ∈ ps,x.block < W.heap.size) → (∀ p ∈ ps,sp p.block = true) → DataW.TrodAll enc P W' 0 sp true ts vs ds ps
 | [],[],[],_,_,h,_,_=>h
 | t :: ts, v :: vs, d :: ds, ps, ht, ⟨p, q, h1, h2, he⟩, hlt, hs => ⟨p, q, WideElems.Trod_stays hl (ht t (by simp)).1 (ht t (by simp)).2 h1 (fun x hx => hb.same (hlt x (by rw [he]; simp [hx]))) (fun x hx => hs x (by rw [he]; simp [hx])),
     Qi5 hl hb (λt h=>ht t (by simp [h])) h2 (λx hx=>hlt x (by rw [he]; simp [hx])) (λx hx=>hs x (by rw [he]; simp [hx])),he⟩
 | [],_ :: _,_,_,_,h,_,_=>h.elim
 | [],[],_ :: _,_,_,h,_,_=>h.elim
 | _ :: _,[],_,_,_,h,_,_=>h.elim
 | _ :: _,_ :: _,[],_,_,h,_,_=>h.elim
theorem Fr.below {ρ : Rho} {w w' : World} (h : Fr ρ [] w w') : Below w.heap.size w w':=⟨h.os,h.tape,h.output,h.size,λk hk=>h.keep k hk λid p hl=>by cases hl⟩
theorem post_law {f : Func} {s : ChangeSpec} {apart fresh handsOn again : Bool} {W W' : World} {args : Array Value} {ds gs : List (DataW H)} {before : List MemPlace} {ρ : Rho} {tb : TypeId} (hl : laidOutB P = true) (hts : ∀ t ∈ f.params.toList,P.readableRec t = true ∧ t < P.types.size)
 (hv : s.vars = []) (hr : f.resultTypes = #[tb]) (htb : P.underlying tb = some .bool) (hs : (s.fn H (ds ++ gs)).results = [.lit (.bool true)]) (hs2 : (s.fn H (ds ++ gs)).args = ds) (hs3 : (s.fn H (ds ++ gs)).vars = [])
 (hW : DataW.Whole enc P f.params.toList s.vars apart W args.toList ds gs before) (hf : Fr ρ [] W W') : s.post enc P f apart fresh handsOn again W args (.bool true) W':=by
 have hlt:=hW.lt
 have hW':=hW
 obtain ⟨p,q,hA,hV,rfl,hfz,hnd⟩:=hW
 have hq : q = []:=by
  rw [hv] at hV
  cases gs with
  | nil=>exact hV
  | cons g gs=>exact hV.elim
 subst hq
 have hg:=hf.grown
 refine Qnb (pa:=p) (pv:=[]) hW' (λb sp hd=>?_) (λsp hsp=>?_) (λsp hsp=>?_) rfl (hg.frame _) hg.2.1 ?_
 ·rw [hs,hr]; exact trodAll_cons_mk (shut_bool htb _) trodAll_mk0
 ·rw [hs2]; exact Qi5 hl (Fr.below hf) hts hA (λx hx=>hlt x (by simp [hx])) (λx hx=>hsp x (by simp [hx]))
 ·rw [hs3,hv]; exact rfl
 ·exact ok_one hr rfl (okWide_bool_mk htb _)
end
end Go.Ev
set_option maxRecDepth 1000000
namespace Go.Proofs.YtnnjlnkoomeadaaGreat.Pv
open Go.Ev
def ml : List Nat:=[12,13,36,42,45,46,47,55,56,58,59,62,66,67,71,72,73,74,75,77,78,79,80,81,82,101,102,106,107,110,120,121,124,126,128,136,143,154,157,161,162,163,164,165,166,167,168,171,172,173,176,177,178,179]
theorem k_Qap : FOk Tryz.prog n_Qap a_Qap:=⟨by kernel_rfl,Tryz.f4,Qdp ml false,Tryz.func4,by kernel_rfl⟩
theorem k_Qa8 : FOk Tryz.prog n_Qa8 a_Qa8:=⟨by kernel_rfl,Tryz.f6,Qdp ml false,Tryz.func6,by kernel_rfl⟩
theorem k_Qa9 : FOk Tryz.prog n_Qa9 a_Qa9:=⟨by kernel_rfl,Tryz.f7,Qdp ml false,Tryz.func7,by kernel_rfl⟩
theorem k_Qc4 : FOk Tryz.prog n_Qc4 a_Qc4:=⟨by kernel_rfl,Tryz.f10,Qdp ml false,Tryz.func10,by kernel_rfl⟩
theorem k_Qck : FOk Tryz.prog n_Qck a_Qck:=⟨by kernel_rfl,Tryz.f11,Qdp ml false,Tryz.func11,by kernel_rfl⟩
theorem k_Qa0 : FOk Tryz.prog n_Qa0 a_Qa0:=⟨by kernel_rfl,Tryz.f12,Qdp ml false,Tryz.func12,by kernel_rfl⟩
theorem k_Qau : FOk Tryz.prog n_Qau a_Qau:=⟨by kernel_rfl,Tryz.f13,Qdp ml false,Tryz.func13,by kernel_rfl⟩
theorem k_Qba : FOk Tryz.prog n_Qba a_Qba:=⟨by kernel_rfl,Tryz.f14,Qdp ml false,Tryz.func14,by kernel_rfl⟩
theorem k_Qbb : FOk Tryz.prog n_Qbb a_Qbb:=⟨by kernel_rfl,Tryz.f15,Qdp ml false,Tryz.func15,by kernel_rfl⟩
theorem k_Qcv : FOk Tryz.prog n_Qcv a_Qcv:=⟨by kernel_rfl,Tryz.f16,Qdp ml false,Tryz.func16,by kernel_rfl⟩
theorem k_Qcl : FOk Tryz.prog n_Qcl a_Qcl:=⟨by kernel_rfl,Tryz.f17,Qdp ml false,Tryz.func17,by kernel_rfl⟩
theorem k_Qc5 : FOk Tryz.prog n_Qc5 a_Qc5:=⟨by kernel_rfl,Tryz.f18,Qdp ml false,Tryz.func18,by kernel_rfl⟩
theorem k_Qcm : FOk Tryz.prog n_Qcm a_Qcm:=⟨by kernel_rfl,Tryz.f19,Qdp ml false,Tryz.func19,by kernel_rfl⟩
theorem k_Qc6 : FOk Tryz.prog n_Qc6 a_Qc6:=⟨by kernel_rfl,Tryz.f20,Qdp ml false,Tryz.func20,by kernel_rfl⟩
theorem k_Qbk : FOk Tryz.prog n_Qbk a_Qbk:=⟨by kernel_rfl,Tryz.f21,Qdp ml false,Tryz.func21,by kernel_rfl⟩
theorem k_Qb3 : FOk Tryz.prog n_Qb3 a_Qb3:=⟨by kernel_rfl,Tryz.f22,Qdp ml false,Tryz.func22,by kernel_rfl⟩
theorem k_Qcn : FOk Tryz.prog n_Qcn a_Qcn:=⟨by kernel_rfl,Tryz.f27,Qdp ml false,Tryz.func27,by kernel_rfl⟩
theorem k_Qb4 : FOk Tryz.prog n_Qb4 a_Qb4:=⟨by kernel_rfl,Tryz.f28,Qdp ml false,Tryz.func28,by kernel_rfl⟩
theorem k_Qbl : FOk Tryz.prog n_Qbl a_Qbl:=⟨by kernel_rfl,Tryz.f29,Qdp ml false,Tryz.func29,by kernel_rfl⟩
theorem k_Qb5 : FOk Tryz.prog n_Qb5 a_Qb5:=⟨by kernel_rfl,Tryz.f30,Qdp ml false,Tryz.func30,by kernel_rfl⟩
theorem k_Qcw : FOk Tryz.prog n_Qcw a_Qcw:=⟨by kernel_rfl,Tryz.f31,Qdp ml false,Tryz.func31,by kernel_rfl⟩
theorem k_Qaq : FOk Tryz.prog n_Qaq a_Qaq:=⟨by kernel_rfl,Tryz.f32,Qdp ml false,Tryz.func32,by kernel_rfl⟩
theorem k_Qbc : FOk Tryz.prog n_Qbc a_Qbc:=⟨by kernel_rfl,Tryz.f33,Qdp ml false,Tryz.func33,by kernel_rfl⟩
theorem k_Qa1 : FOk Tryz.prog n_Qa1 a_Qa1:=⟨by kernel_rfl,Tryz.f34,Qdp ml false,Tryz.func34,by kernel_rfl⟩
theorem k_Qav : FOk Tryz.prog n_Qav a_Qav:=⟨by kernel_rfl,Tryz.f35,Qdp ml false,Tryz.func35,by kernel_rfl⟩
theorem k_Qbd : FOk Tryz.prog n_Qbd a_Qbd:=⟨by kernel_rfl,Tryz.f36,Qdp ml false,Tryz.func36,by kernel_rfl⟩
theorem k_Qdf : FOk Tryz.prog n_Qdf a_Qdf:=⟨by kernel_rfl,Tryz.f37,Qdp ml false,Tryz.func37,by kernel_rfl⟩
theorem k_Qc7 : FOk Tryz.prog n_Qc7 a_Qc7:=⟨by kernel_rfl,Tryz.f38,Qdp ml false,Tryz.func38,by kernel_rfl⟩
theorem k_Qb6 : FOk Tryz.prog n_Qb6 a_Qb6:=⟨by kernel_rfl,Tryz.f39,Qdp ml false,Tryz.func39,by kernel_rfl⟩
theorem k_Qc8 : FOk Tryz.prog n_Qc8 a_Qc8:=⟨by kernel_rfl,Tryz.f40,Qdp ml false,Tryz.func40,by kernel_rfl⟩
theorem k_Qc9 : FOk Tryz.prog n_Qc9 a_Qc9:=⟨by kernel_rfl,Tryz.f41,Qdp ml false,Tryz.func41,by kernel_rfl⟩
theorem k_Qbx : FOk Tryz.prog n_Qbx a_Qbx:=⟨by kernel_rfl,Tryz.f42,Qdp ml false,Tryz.func42,by kernel_rfl⟩
theorem k_Qco : FOk Tryz.prog n_Qco a_Qco:=⟨by kernel_rfl,Tryz.f43,Qdp ml false,Tryz.func43,by kernel_rfl⟩
theorem k_Qdg : FOk Tryz.prog n_Qdg a_Qdg:=⟨by kernel_rfl,Tryz.f44,Qdp ml false,Tryz.func44,by kernel_rfl⟩
theorem k_Qb7 : FOk Tryz.prog n_Qb7 a_Qb7:=⟨by kernel_rfl,Tryz.f45,Qdp ml false,Tryz.func45,by kernel_rfl⟩
theorem k_Qby : FOk Tryz.prog n_Qby a_Qby:=⟨by kernel_rfl,Tryz.f46,Qdp ml false,Tryz.func46,by kernel_rfl⟩
theorem k_Qbe : FOk Tryz.prog n_Qbe a_Qbe:=⟨by kernel_rfl,Tryz.f47,Qdp ml false,Tryz.func47,by kernel_rfl⟩
theorem k_Qcp : FOk Tryz.prog n_Qcp a_Qcp:=⟨by kernel_rfl,Tryz.f48,Qdp ml false,Tryz.func48,by kernel_rfl⟩
theorem k_Qb8 : FOk Tryz.prog n_Qb8 a_Qb8:=⟨by kernel_rfl,Tryz.f49,Qdp ml false,Tryz.func49,by kernel_rfl⟩
theorem k_Qbm : FOk Tryz.prog n_Qbm a_Qbm:=⟨by kernel_rfl,Tryz.f50,Qdp ml false,Tryz.func50,by kernel_rfl⟩
theorem k_Qcx : FOk Tryz.prog n_Qcx a_Qcx:=⟨by kernel_rfl,Tryz.f51,Qdp ml false,Tryz.func51,by kernel_rfl⟩
theorem k_Qdj : FOk Tryz.prog n_Qdj a_Qdj:=⟨by kernel_rfl,Tryz.f52,Qdp ml false,Tryz.func52,by kernel_rfl⟩
theorem k_Qbn : FOk Tryz.prog n_Qbn a_Qbn:=⟨by kernel_rfl,Tryz.f53,Qdp ml false,Tryz.func53,by kernel_rfl⟩
theorem k_Qa2 : FOk Tryz.prog n_Qa2 a_Qa2:=⟨by kernel_rfl,Tryz.f54,Qdp ml false,Tryz.func54,by kernel_rfl⟩
theorem k_Qaw : FOk Tryz.prog n_Qaw a_Qaw:=⟨by kernel_rfl,Tryz.f55,Qdp ml false,Tryz.func55,by kernel_rfl⟩
theorem k_Qar : FOk Tryz.prog n_Qar a_Qar:=⟨by kernel_rfl,Tryz.f56,Qdp ml false,Tryz.func56,by kernel_rfl⟩
theorem k_Qbf : FOk Tryz.prog n_Qbf a_Qbf:=⟨by kernel_rfl,Tryz.f57,Qdp ml false,Tryz.func57,by kernel_rfl⟩
theorem k_Qbg : FOk Tryz.prog n_Qbg a_Qbg:=⟨by kernel_rfl,Tryz.f58,Qdp ml false,Tryz.func58,by kernel_rfl⟩
theorem k_Qa3 : FOk Tryz.prog n_Qa3 a_Qa3:=⟨by kernel_rfl,Tryz.f59,Qdp ml false,Tryz.func59,by kernel_rfl⟩
theorem k_Qax : FOk Tryz.prog n_Qax a_Qax:=⟨by kernel_rfl,Tryz.f60,Qdp ml false,Tryz.func60,by kernel_rfl⟩
theorem k_Qay : FOk Tryz.prog n_Qay a_Qay:=⟨by kernel_rfl,Tryz.f61,Qdp ml false,Tryz.func61,by kernel_rfl⟩
theorem k_Qa4 : FOk Tryz.prog n_Qa4 a_Qa4:=⟨by kernel_rfl,Tryz.f62,Qdp ml false,Tryz.func62,by kernel_rfl⟩
theorem k_Qa5 : FOk Tryz.prog n_Qa5 a_Qa5:=⟨by kernel_rfl,Tryz.f63,Qdp ml false,Tryz.func63,by kernel_rfl⟩
theorem k_Qbh : FOk Tryz.prog n_Qbh a_Qbh:=⟨by kernel_rfl,Tryz.f64,Qdp ml false,Tryz.func64,by kernel_rfl⟩
theorem k_Qaz : FOk Tryz.prog n_Qaz a_Qaz:=⟨by kernel_rfl,Tryz.f65,Qdp ml false,Tryz.func65,by kernel_rfl⟩
theorem k_Qbo : FOk Tryz.prog n_Qbo a_Qbo:=⟨by kernel_rfl,Tryz.f66,Qdp ml false,Tryz.func66,by kernel_rfl⟩
theorem k_Qbp : FOk Tryz.prog n_Qbp a_Qbp:=⟨by kernel_rfl,Tryz.f67,Qdp ml false,Tryz.func67,by kernel_rfl⟩
theorem k_Qb9 : FOk Tryz.prog n_Qb9 a_Qb9:=⟨by kernel_rfl,Tryz.f68,Qdp ml false,Tryz.func68,by kernel_rfl⟩
theorem k_Qcq : FOk Tryz.prog n_Qcq a_Qcq:=⟨by kernel_rfl,Tryz.f69,Qdp ml false,Tryz.func69,by kernel_rfl⟩
theorem k_Qca : FOk Tryz.prog n_Qca a_Qca:=⟨by kernel_rfl,Tryz.f83,Qdp ml false,Tryz.func83,by kernel_rfl⟩
theorem k_Qbq : FOk Tryz.prog n_Qbq a_Qbq:=⟨by kernel_rfl,Tryz.f84,Qdp ml false,Tryz.func84,by kernel_rfl⟩
theorem k_Qcr : FOk Tryz.prog n_Qcr a_Qcr:=⟨by kernel_rfl,Tryz.f85,Qdp ml false,Tryz.func85,by kernel_rfl⟩
theorem k_Qbz : FOk Tryz.prog n_Qbz a_Qbz:=⟨by kernel_rfl,Tryz.f86,Qdp ml false,Tryz.func86,by kernel_rfl⟩
theorem k_Qb0 : FOk Tryz.prog n_Qb0 a_Qb0:=⟨by kernel_rfl,Tryz.f87,Qdp ml false,Tryz.func87,by kernel_rfl⟩
theorem k_Qcy : FOk Tryz.prog n_Qcy a_Qcy:=⟨by kernel_rfl,Tryz.f88,Qdp ml false,Tryz.func88,by kernel_rfl⟩
theorem k_Qai : FOk Tryz.prog n_Qai a_Qai:=⟨by kernel_rfl,Tryz.f89,Qdp ml false,Tryz.func89,by kernel_rfl⟩
theorem k_Qcb : FOk Tryz.prog n_Qcb a_Qcb:=⟨by kernel_rfl,Tryz.f90,Qdp ml false,Tryz.func90,by kernel_rfl⟩
theorem k_Qcz : FOk Tryz.prog n_Qcz a_Qcz:=⟨by kernel_rfl,Tryz.f91,Qdp ml false,Tryz.func91,by kernel_rfl⟩
theorem k_Qc0 : FOk Tryz.prog n_Qc0 a_Qc0:=⟨by kernel_rfl,Tryz.f92,Qdp ml false,Tryz.func92,by kernel_rfl⟩
theorem k_Qda : FOk Tryz.prog n_Qda a_Qda:=⟨by kernel_rfl,Tryz.f93,Qdp ml false,Tryz.func93,by kernel_rfl⟩
theorem k_Qc1 : FOk Tryz.prog n_Qc1 a_Qc1:=⟨by kernel_rfl,Tryz.f94,Qdp ml false,Tryz.func94,by kernel_rfl⟩
theorem k_Qcc : FOk Tryz.prog n_Qcc a_Qcc:=⟨by kernel_rfl,Tryz.f95,Qdp ml false,Tryz.func95,by kernel_rfl⟩
theorem k_Qdb : FOk Tryz.prog n_Qdb a_Qdb:=⟨by kernel_rfl,Tryz.f96,Qdp ml false,Tryz.func96,by kernel_rfl⟩
theorem k_Qb1 : FOk Tryz.prog n_Qb1 a_Qb1:=⟨by kernel_rfl,Tryz.f97,Qdp ml false,Tryz.func97,by kernel_rfl⟩
theorem k_Qbr : FOk Tryz.prog n_Qbr a_Qbr:=⟨by kernel_rfl,Tryz.f98,Qdp ml false,Tryz.func98,by kernel_rfl⟩
theorem k_Qcd : FOk Tryz.prog n_Qcd a_Qcd:=⟨by kernel_rfl,Tryz.f99,Qdp ml false,Tryz.func99,by kernel_rfl⟩
theorem k_Qbs : FOk Tryz.prog n_Qbs a_Qbs:=⟨by kernel_rfl,Tryz.f100,Qdp ml false,Tryz.func100,by kernel_rfl⟩
theorem k_Qas : FOk Tryz.prog n_Qas a_Qas:=⟨by kernel_rfl,Tryz.f101,Qdp ml false,Tryz.func101,by kernel_rfl⟩
theorem k_Qa6 : FOk Tryz.prog n_Qa6 a_Qa6:=⟨by kernel_rfl,Tryz.f102,Qdp ml false,Tryz.func102,by kernel_rfl⟩
theorem k_Qat : FOk Tryz.prog n_Qat a_Qat:=⟨by kernel_rfl,Tryz.f103,Qdp ml false,Tryz.func103,by kernel_rfl⟩
theorem k_Qak : FOk Tryz.prog n_Qak a_Qak:=⟨by kernel_rfl,Tryz.f104,Qdp ml false,Tryz.func104,by kernel_rfl⟩
theorem k_Qc2 : FOk Tryz.prog n_Qc2 a_Qc2:=⟨by kernel_rfl,Tryz.f105,Qdp ml false,Tryz.func105,by kernel_rfl⟩
theorem k_Qa7 : FOk Tryz.prog n_Qa7 a_Qa7:=⟨by kernel_rfl,Tryz.f106,Qdp ml false,Tryz.func106,by kernel_rfl⟩
theorem k_Qbi : FOk Tryz.prog n_Qbi a_Qbi:=⟨by kernel_rfl,Tryz.f107,Qdp ml false,Tryz.func107,by kernel_rfl⟩
theorem k_Qcs : FOk Tryz.prog n_Qcs a_Qcs:=⟨by kernel_rfl,Tryz.f108,Qdp ml false,Tryz.func108,by kernel_rfl⟩
theorem k_Qdc : FOk Tryz.prog n_Qdc a_Qdc:=⟨by kernel_rfl,Tryz.f109,Qdp ml false,Tryz.func109,by kernel_rfl⟩
theorem k_Qbt : FOk Tryz.prog n_Qbt a_Qbt:=⟨by kernel_rfl,Tryz.f110,Qdp ml false,Tryz.func110,by kernel_rfl⟩
theorem k_Qbu : FOk Tryz.prog n_Qbu a_Qbu:=⟨by kernel_rfl,Tryz.f111,Qdp ml false,Tryz.func111,by kernel_rfl⟩
theorem k_Qce : FOk Tryz.prog n_Qce a_Qce:=⟨by kernel_rfl,Tryz.f112,Qdp ml false,Tryz.func112,by kernel_rfl⟩
theorem k_Qbj : FOk Tryz.prog n_Qbj a_Qbj:=⟨by kernel_rfl,Tryz.f113,Qdp ml false,Tryz.func113,by kernel_rfl⟩
theorem k_Qao : FOk Tryz.prog n_Qao a_Qao:=⟨by kernel_rfl,Tryz.f114,Qdp ml false,Tryz.func114,by kernel_rfl⟩
theorem k_Qdd : FOk Tryz.prog n_Qdd a_Qdd:=⟨by kernel_rfl,Tryz.f119,Qdp ml false,Tryz.func119,by kernel_rfl⟩
theorem k_Qdh : FOk Tryz.prog n_Qdh a_Qdh:=⟨by kernel_rfl,Tryz.f134,Qdp ml false,Tryz.func134,by kernel_rfl⟩
theorem k_Qan : FOk Tryz.prog n_Qan a_Qan:=⟨by kernel_rfl,Tryz.f138,Qdp ml false,Tryz.func138,by kernel_rfl⟩
theorem k_Qaa : FOk Tryz.prog n_Qaa a_Qaa:=⟨by kernel_rfl,Tryz.f139,Qdp ml false,Tryz.func139,by kernel_rfl⟩
theorem k_Qcf : FOk Tryz.prog n_Qcf a_Qcf:=⟨by kernel_rfl,Tryz.f140,Qdp ml false,Tryz.func140,by kernel_rfl⟩
theorem k_Qdi : FOk Tryz.prog n_Qdi a_Qdi:=⟨by kernel_rfl,Tryz.f141,Qdp ml false,Tryz.func141,by kernel_rfl⟩
theorem k_Qdk : FOk Tryz.prog n_Qdk a_Qdk:=⟨by kernel_rfl,Tryz.f142,Qdp ml false,Tryz.func142,by kernel_rfl⟩
theorem k_Qam : FOk Tryz.prog n_Qam a_Qam:=⟨by kernel_rfl,Tryz.f143,Qdp ml false,Tryz.func143,by kernel_rfl⟩
theorem k_Qcg : FOk Tryz.prog n_Qcg a_Qcg:=⟨by kernel_rfl,Tryz.f144,Qdp ml false,Tryz.func144,by kernel_rfl⟩
theorem k_Qch : FOk Tryz.prog n_Qch a_Qch:=⟨by kernel_rfl,Tryz.f145,Qdp ml false,Tryz.func145,by kernel_rfl⟩
theorem k_Qb2 : FOk Tryz.prog n_Qb2 a_Qb2:=⟨by kernel_rfl,Tryz.f146,Qdp ml false,Tryz.func146,by kernel_rfl⟩
theorem k_Qct : FOk Tryz.prog n_Qct a_Qct:=⟨by kernel_rfl,Tryz.f147,Qdp ml false,Tryz.func147,by kernel_rfl⟩
theorem k_Qci : FOk Tryz.prog n_Qci a_Qci:=⟨by kernel_rfl,Tryz.f148,Qdp ml false,Tryz.func148,by kernel_rfl⟩
theorem k_Qcu : FOk Tryz.prog n_Qcu a_Qcu:=⟨by kernel_rfl,Tryz.f151,Qdp ml false,Tryz.func151,by kernel_rfl⟩
theorem k_Qcj : FOk Tryz.prog n_Qcj a_Qcj:=⟨by kernel_rfl,Tryz.f155,Qdp ml false,Tryz.func155,by kernel_rfl⟩
theorem k_Qde : FOk Tryz.prog n_Qde a_Qde:=⟨by kernel_rfl,Tryz.f158,Qdp ml false,Tryz.func158,by kernel_rfl⟩
theorem k_Qac : FOk Tryz.prog n_Qac a_Qac:=⟨by kernel_rfl,Tryz.f159,Qdp ml false,Tryz.func159,by kernel_rfl⟩
theorem k_Qc3 : FOk Tryz.prog n_Qc3 a_Qc3:=⟨by kernel_rfl,Tryz.f160,Qdp ml false,Tryz.func160,by kernel_rfl⟩
theorem k_Qae : FOk Tryz.prog n_Qae a_Qae:=⟨by kernel_rfl,Tryz.f161,Qdp ml false,Tryz.func161,by kernel_rfl⟩
theorem k_Qbw : FOk Tryz.prog n_Qbw a_Qbw:=⟨by kernel_rfl,Tryz.f170,Qdp ml false,Tryz.func170,by kernel_rfl⟩
theorem fs : Fs Tryz.prog:=⟨by kernel_rfl,k_Qap,k_Qa8,k_Qa9,k_Qc4,k_Qck,k_Qa0,k_Qau,k_Qba,k_Qbb,k_Qcl,k_Qc5,k_Qcm,k_Qc6,k_Qbk,k_Qb3,k_Qcn,k_Qb4,k_Qbl,k_Qb5,k_Qcw,k_Qaq,k_Qbc,k_Qa1,k_Qav,k_Qbd,k_Qdf,k_Qc7,k_Qb6,k_Qc8,k_Qc9,k_Qbx,k_Qco,k_Qdg,k_Qb7,k_Qby,k_Qbe,k_Qcp,k_Qb8,k_Qbm,k_Qbn,k_Qa2,k_Qaw,k_Qar,k_Qbf,k_Qbg,k_Qa3,k_Qax,k_Qay,k_Qa4,k_Qa5,k_Qbh,k_Qaz,k_Qbo,k_Qbp,k_Qb9,k_Qcq,k_Qca,k_Qbq,k_Qcr,k_Qbz,k_Qb0,k_Qcy,k_Qai,k_Qcb,k_Qcz,k_Qc0,k_Qda,k_Qc1,k_Qcc,k_Qdb,k_Qb1,k_Qbr,k_Qcd,k_Qbs,k_Qa6,k_Qat,k_Qak,k_Qc2,k_Qa7,k_Qbi,k_Qcs,k_Qdc,k_Qbt,k_Qbu,k_Qce,k_Qbj,k_Qao,k_Qdd,k_Qdh,k_Qan,k_Qaa,k_Qcf,k_Qdi,k_Qdk,k_Qch,k_Qb2,k_Qct,k_Qci,k_Qde,k_Qac,k_Qc3⟩
end Go.Proofs.YtnnjlnkoomeadaaGreat.Pv
set_option maxRecDepth 1000000
set_option maxHeartbeats 4000000
namespace Go.Proofs.YtnnjlnkoomeadaaGreat.Pv
open Go.Ev
theorem mixedV : Tryz.prog.follows .mixedOrders = true:=by kernel_rfl
def FA : FTree:=(.node n_Qbz a_Qbz (.node n_Qbn a_Qbn (.node n_Qaq a_Qaq (.node n_Qb5 a_Qb5 (.node n_Qcl a_Qcl (.node n_Qcv a_Qcv .nil .nil) .nil) (.node n_Qcw a_Qcw .nil .nil)) (.node n_Qcx a_Qcx (.node n_Qbd a_Qbd .nil .nil) (.node n_Qdj a_Qdj .nil .nil))) (.node n_Qay a_Qay (.node n_Qbf a_Qbf (.node n_Qaw a_Qaw (.node n_Qa2 a_Qa2 .nil .nil) .nil) (.node n_Qax a_Qax .nil .nil)) (.node n_Qb9 a_Qb9 (.node n_Qa4 a_Qa4 .nil .nil) (.node n_Qcr a_Qcr .nil .nil)))) (.node n_Qbj a_Qbj (.node n_Qas a_Qas (.node n_Qai a_Qai (.node n_Qcy a_Qcy (.node n_Qb0 a_Qb0 .nil .nil) .nil) (.node n_Qcb a_Qcb .nil .nil)) (.node n_Qak a_Qak (.node n_Qa6 a_Qa6 .nil .nil) (.node n_Qce a_Qce .nil .nil))) (.node n_Qcu a_Qcu (.node n_Qam a_Qam (.node n_Qan a_Qan (.node n_Qao a_Qao .nil .nil) .nil) (.node n_Qcg a_Qcg .nil .nil)) (.node n_Qae a_Qae (.node n_Qcj a_Qcj .nil .nil) (.node n_Qbw a_Qbw .nil .nil)))))
theorem faOk : FA.Ok Tryz.prog:=⟨k_Qbz,⟨k_Qbn,⟨k_Qaq,⟨k_Qb5,⟨k_Qcl,⟨k_Qcv,trivial,trivial⟩,trivial⟩,⟨k_Qcw,trivial,trivial⟩⟩,⟨k_Qcx,⟨k_Qbd,trivial,trivial⟩,⟨k_Qdj,trivial,trivial⟩⟩⟩,⟨k_Qay,⟨k_Qbf,⟨k_Qaw,⟨k_Qa2,trivial,trivial⟩,trivial⟩,⟨k_Qax,trivial,trivial⟩⟩,⟨k_Qb9,⟨k_Qa4,trivial,trivial⟩,⟨k_Qcr,trivial,trivial⟩⟩⟩⟩,⟨k_Qbj,⟨k_Qas,⟨k_Qai,⟨k_Qcy,⟨k_Qb0,trivial,trivial⟩,trivial⟩,⟨k_Qcb,trivial,trivial⟩⟩,⟨k_Qak,⟨k_Qa6,trivial,trivial⟩,⟨k_Qce,trivial,trivial⟩⟩⟩,⟨k_Qcu,⟨k_Qam,⟨k_Qan,⟨k_Qao,trivial,trivial⟩,trivial⟩,⟨k_Qcg,trivial,trivial⟩⟩,⟨k_Qae,⟨k_Qcj,trivial,trivial⟩,⟨k_Qbw,trivial,trivial⟩⟩⟩⟩⟩
theorem Qp2 : vcall (noOrc false) false (λ_=>none) FA.find 300 16 n_Qcv [] (λ_=>none) [] 0 isT = true:=by kernel_rfl
theorem awake17 : Qqt Tryz.prog n_Qcv:=λw=>law_true (T:=λb : Bool=>b = true) (val:=v0) (by decide) (λ_ _ _ h=>isT_elim h) (noOrc_ok (by decide) _) mixedV (λf c h=>by cases h) (FTree.ok faOk) Qp2 w [] trivial
end Go.Proofs.YtnnjlnkoomeadaaGreat.Pv
namespace Go.Ev
section
variable {val : Nat → Int} {fz : Fz}
structure Stp (val : Nat → Int) (fz : Fz) (ρ : Rho) (mu : St) (n : Nat) (w : World) (ρ' : Rho) (mu' : St) (n' : Nat) (w' : World) : Prop where
 le : n ≤ n'
 ext : Ext ρ ρ' n n'
 rel : Rel val ρ' fz mu' w'
 fr : Fr ρ mu w w'
 nb : NewB ρ ρ' mu mu' w
 ni : NewI mu mu' n n'
variable {ρ ρ' ρ'' : Rho} {mu mu' mu'' : St} {n n' n'' : Nat} {w w' w'' : World}
theorem Stp.trans (h : Stp val fz ρ mu n w ρ' mu' n' w') (k : Stp val fz ρ' mu' n' w' ρ'' mu'' n'' w'') : Stp val fz ρ mu n w ρ'' mu'' n'' w'' :=
 ⟨Nat.le_trans h.le k.le,h.ext.trans k.ext h.le k.le,k.rel,h.fr.trans h.nb k.fr,h.nb.trans k.nb h.fr.size,h.ni.trans k.ni h.le k.le⟩
theorem Stp.post (h : Stp val fz ρ mu n w ρ' mu' n' w') {v : AV} {x : Value} (hv : AVR val ρ' w' v x) : Post val ρ fz mu n w v mu' n' x w':=⟨ρ',h.ext,h.rel,hv,h.fr,h.nb,h.ni⟩
theorem Stp.put {id : Nat} {cs cs' : List SV} {p : Nat × Nat} (hr : Rel val ρ fz mu w) (hl : look mu id = some cs) (hp : ρ id = some p) (hos : w'.os = w.os) (htp : w'.tape = w.tape) (hou : w'.output = w.output)
 (hsz : w'.heap.size = w.heap.size) (hother : ∀ b,b ≠ p.1 → w'.heap[b]? = w.heap[b]?) (hbs : ∀ b,bsize w b ≤ bsize w' b) (hown : OwnG val ρ w' id cs') :
 Stp val fz ρ mu n w ρ (putS mu id cs') n w' :=
 let ⟨a1,a2,a3,a4⟩:=Qls hr hl hp hos htp hou hsz hother hbs hown
 ⟨Nat.le_refl _,Ext.refl _ _ _,a1,a2,a3,a4⟩
end
end Go.Ev
namespace Go.Ev
open Go.Shelf Go.Proofs Go.Sort Go.RowKit
section
variable {val : Nat → Int} {fz : Fz} {ρ : Rho} {mu : St} {n : Nat} {w w' : World}
theorem Qht (hb : Below w.heap.size w w') (b : Nat) : bsize w b ≤ bsize w' b:=by
 unfold bsize
 by_cases h : b < w.heap.size
 ·rw [hb.block b h]; exact Nat.le_refl _
 ·rw [show w.heap[b]? = none from by simp; omega]; exact Nat.zero_le _
theorem Rel.Qt8 (hr : Rel val ρ fz mu w) (hb : Below w.heap.size w w') : Rel val ρ fz mu w' :=
 ⟨fun id cs h => (hr.rf id cs h).mono (fun _ _ h => h) (Qht hb) fun p hp => hb.block _ ((hr.rf id cs h).lt hp),
  λid cs h=>(hr.rm id cs h).mono (λ_ _ h=>h) (Qht hb) λp hp=>hb.block _ ((hr.rm id cs h).lt hp),hr.dm,hr.dj⟩
theorem Stp.Qt8 (hr : Rel val ρ fz mu w) (hb : Below w.heap.size w w') : Stp val fz ρ mu n w ρ mu n w' :=
 ⟨Nat.le_refl _,Ext.refl _ _ _,hr.Qt8 hb,⟨hb.os,hb.tape,hb.output,hb.size,λb h _=>hb.block b h,Qht hb⟩,NewB.refl,NewI.refl⟩
end
theorem Qtj {w : World} {g m off : Nat} {cur : Array Value} {e : TypeId} {fr : Nat × Nat} (d : Array Int) (hb : w.heap[g]? = some (.cells cur e fr)) :
 (putRow (Value.int .i64) (Sort.ahead w m) g off d).heap[g]? = some (.cells (putCells (Value.int .i64) off d cur) e fr):=by
 simp [putRow,mapBlock,Sort.ahead,Array.getElem?_modify,hb,onCells]
theorem Qkn {w : World} {g m off b : Nat} (d : Array Int) (h : b ≠ g) : (putRow (Value.int .i64) (Sort.ahead w m) g off d).heap[b]? = w.heap[b]?:=by
 simp [putRow,mapBlock,Sort.ahead,Array.getElem?_modify,Ne.symm h]
theorem Qok {P : Program} {f : FuncId} {B : Func} (hf : P.funcs[f]? = some B) (hb : B.body.isSome = true) (hn : (B.name == "runtime.NumGoroutine") = false) : Qgb P f = true := by
 unfold Qgb
 rw [hf]
 show (B.body.isSome && !(B.name == "runtime.NumGoroutine")) = true
 rw [hb,hn]; rfl
theorem Qun {P : Program} {ren : Ren} {f : FuncId} (hf0 : ren.f 189 = f) (L : Lays.n189 P ren) {id cap : Nat} {l : List Int} {fz : Fz} {mu : St} {n : Nat} {k : AV → St → Nat → Prop}
 (hl : look mu id = some (l.map (SV.int .i64))) (hs : l.length < 4611686018427387904)
 (h : k (.tp []) (putS mu id ((srt l).map (SV.int .i64))) n) : CP P f [.one (.osl id 0 l.length cap 1)] fz mu n k:=by
 subst hf0
 refine ⟨_, _, _, h, Qok L.f189 rfl (show ("slices.Sort[[]int,int]" == "runtime.NumGoroutine") = false by decide), Nat.le_refl _, fun ρ w xs hr hx hf => ?_⟩
 match xs,hx with
 | [x],hx =>
 obtain ⟨q,c,hq,hxe,_⟩:=(show VR v0 ρ w (.osl id 0 l.length cap 1) x from hx.1)
 subst hxe
 obtain ⟨p,C,ty,fr,hp,hC,hfr,hsz,hcs⟩:=(hr.rm id _ hl).plain (by cases l <;> rfl)
 rw [hq] at hp; cases hp
 have hsz : q.2 + l.length ≤ C.size:=by simpa using hsz
 have hcell : ∀ j (hj : j < l.length),C[q.2 + j]? = some (.int .i64 l[j]):=λj hj=>by
  obtain ⟨v,e1,e2⟩:=hcs j (.int .i64 l[j]) (by simp [hj])
  rw [e1,show v = .int .i64 l[j] from e2]
 have hH : Holds (Value.int .i64) w q.1 q.2 l.toArray:=by
  intro j hj
  have hj : j < l.length:=by simpa using hj
  refine ⟨?_,?_⟩
  ·simp only [World.cell?,hC,Option.isSome_none,Bool.false_eq_true,if_false]
   rw [hcell j hj]; simp [hj]
  ·simp only [World.frozen?,hC]
   exact hfr.no (by omega)
 have hlt : q.1 < w.heap.size:=(Array.getElem?_eq_some_iff.1 hC).1
 refine (Any.slices_Sort_int L q.1 q.2 c l w hH hlt hs).mono ?_
 rintro e w' ⟨rfl,m,os,rfl⟩
 refine ⟨_,rfl,?_⟩
 have hdl : (srt l).toArray.size = l.length:=by simp [Qfp]
 have hself:=Qtj (m:=m) (off:=q.2) (srt l).toArray hC
 have hother : ∀ b,b ≠ q.1 → (putRow (Value.int .i64) (Sort.ahead w m) q.1 q.2 (srt l).toArray).heap[b]? = w.heap[b]?:=λb hb=>Qkn _ hb
 have hsize : (putRow (Value.int .i64) (Sort.ahead w m) q.1 q.2 (srt l).toArray).heap.size = w.heap.size:=by simp [Sort.ahead]
 have hbs : ∀ b,bsize w b ≤ bsize (putRow (Value.int .i64) (Sort.ahead w m) q.1 q.2 (srt l).toArray) b:=λb=>by
  unfold bsize
  by_cases hb : b = q.1
  ·subst hb; rw [hself,hC]; simp [putCells]
  ·rw [hother b hb]; exact Nat.le_refl _
 have h1 : Stp v0 fz ρ mu n w ρ (putS mu id ((srt l).map (SV.int .i64))) n (putRow (Value.int .i64) (Sort.ahead w m) q.1 q.2 (srt l).toArray):=by
  refine Stp.put hr hl hq rfl rfl rfl hsize hother hbs (.inl ⟨q,_,ty,fr,hq,hself,by simpa [putCells] using hfr,by simpa [putCells,Qfp] using hsz,λi s hi=>?_⟩)
  simp only [List.getElem?_map,Option.map_eq_some_iff] at hi
  obtain ⟨z,hz,rfl⟩:=hi
  obtain ⟨hzl,rfl⟩:=List.getElem?_eq_some_iff.1 hz
  have hil : i < l.length:=by rw [← Qfp l]; exact hzl
  refine ⟨.int .i64 (srt l)[i],?_,rfl⟩
  have : q.2 + i < C.size:=by omega
  simp [putCells,this,Qfp,hil,hzl]
 have hb : Below (putRow (Value.int .i64) (Sort.ahead w m) q.1 q.2 (srt l).toArray).heap.size (putRow (Value.int .i64) (Sort.ahead w m) q.1 q.2 (srt l).toArray) (grow (putRow (Value.int .i64) (Sort.ahead w m) q.1 q.2 (srt l).toArray) os) :=
  ⟨rfl,rfl,rfl,by simp [grow],λb hb=>heap_grow_old _ _ hb⟩
 exact (h1.trans (Stp.Qt8 h1.rel hb)).post ⟨_,rfl,trivial⟩
end Go.Ev
set_option maxRecDepth 1000000
namespace Go.Proofs.YtnnjlnkoomeadaaGreat.Ev
open Go.Ev Go.Shelf
theorem Qu4 : Tryz.prog.follows .mixedOrders = true:=by kernel_rfl
def Quf : Ren:=⟨λk=>if k = 189 then 101 else if k = 125 then 144 else if k = 257 then 143 else if k = 128 then 169 else if k = 129 then 170 else if k = 294 then 161 else if k = 295 then 162 else if k = 296 then 163 else if k = 297 then 164 else if k = 298 then 165 else if k = 299 then 166 else if k = 216 then 151 else if k = 300 then 167 else if k = 301 then 168 else if k = 328 then 173 else if k = 329 then 174 else if k = 330 then 175 else if k = 331 then 176 else if k = 332 then 177 else if k = 215 then 155 else if k = 343 then 180 else k,λk=>if k = 28 then 25 else if k = 3 then 3 else if k = 46 then 125 else if k = 0 then 0 else if k = 51 then 144 else if k = 53 then 146 else if k = 4 then 4 else if k = 183 then 138 else if k = 182 then 137 else if k = 131 then 111 else if k = 5 then 5 else if k = 9 then 9 else if k = 218 then 147 else if k = 222 then 107 else if k = 228 then 153 else if k = 229 then 99 else k,λk=>k⟩
theorem laysSort : Lays.n189 Tryz.prog Quf where
 mixed:=Qu4
 f125:=by kernel_rfl
 f128:=by kernel_rfl
 f129:=by kernel_rfl
 f189:=by kernel_rfl
 f215:=by kernel_rfl
 f216:=by kernel_rfl
 f257:=by kernel_rfl
 f294:=by kernel_rfl
 f295:=by kernel_rfl
 f296:=by kernel_rfl
 f297:=by kernel_rfl
 f298:=by kernel_rfl
 f299:=by kernel_rfl
 f300:=by kernel_rfl
 f301:=by kernel_rfl
 f328:=by kernel_rfl
 f329:=by kernel_rfl
 f330:=by kernel_rfl
 f331:=by kernel_rfl
 f332:=by kernel_rfl
 f343:=by kernel_rfl
 t0:=by kernel_rfl
 a0:=λw=>by kernel_rfl
 z0:=λw=>by kernel_rfl
 v0:=λw=>by kernel_rfl
 t3:=by kernel_rfl
 a3:=λw=>by kernel_rfl
 z3:=λw=>by kernel_rfl
 v3:=λw=>by kernel_rfl
 t4:=by kernel_rfl
 a4:=λw=>by kernel_rfl
 z4:=λw=>by kernel_rfl
 v4:=λw=>by kernel_rfl
 t5:=by kernel_rfl
 a5:=λw=>by kernel_rfl
 z5:=λw=>by kernel_rfl
 v5:=λw=>by kernel_rfl
 t9:=by kernel_rfl
 a9:=λw=>by kernel_rfl
 z9:=λw=>by kernel_rfl
 v9:=λw=>by kernel_rfl
 t28:=by kernel_rfl
 a28:=λw=>by kernel_rfl
 z28:=λw=>by kernel_rfl
 v28:=λw=>by kernel_rfl
 t46:=by kernel_rfl
 a46:=λw=>by kernel_rfl
 z46:=λw=>by kernel_rfl
 v46:=λw=>by kernel_rfl
 t51:=by kernel_rfl
 a51:=λw=>by kernel_rfl
 z51:=λw=>by kernel_rfl
 v51:=λw=>by kernel_rfl
 t53:=by kernel_rfl
 a53:=λw=>by kernel_rfl
 z53:=λw=>by kernel_rfl
 v53:=λw=>by kernel_rfl
 t131:=by kernel_rfl
 a131:=λw=>by kernel_rfl
 z131:=λw=>by kernel_rfl
 v131:=λw=>by kernel_rfl
 t182:=by kernel_rfl
 a182:=λw=>by kernel_rfl
 z182:=λw=>by kernel_rfl
 v182:=λw=>by kernel_rfl
 t183:=by kernel_rfl
 a183:=λw=>by kernel_rfl
 z183:=λw=>by kernel_rfl
 v183:=λw=>by kernel_rfl
 t218:=by kernel_rfl
 a218:=λw=>by kernel_rfl
 z218:=λw=>by kernel_rfl
 v218:=λw=>by kernel_rfl
 t222:=by kernel_rfl
 a222:=λw=>by kernel_rfl
 z222:=λw=>by kernel_rfl
 v222:=λw=>by kernel_rfl
 t228:=by kernel_rfl
 a228:=λw=>by kernel_rfl
 z228:=λw=>by kernel_rfl
 v228:=λw=>by kernel_rfl
 t229:=by kernel_rfl
 a229:=λw=>by kernel_rfl
 z229:=λw=>by kernel_rfl
 v229:=λw=>by kernel_rfl
theorem sortC : Pv.SortC Tryz.prog:=λid cap l fz mu n k hl hs h=>Qun (ren:=Quf) rfl laysSort hl hs h
end Go.Proofs.YtnnjlnkoomeadaaGreat.Ev
namespace Go.Proofs.YtnnjlnkoomeadaaGreat.Pv
open Go.Ev Go.Ev.Rp
set_option maxRecDepth 100000
def qI : Fz → List SV → Prop:=λ_ c=>∃ i : Int,(Lit.int .i64 i).wf = true ∧ c = [I i]
def qS : Fz → List SV → Prop:=λ_ c=>∃ t : Tx,t.l ≤ reachBytes ∧ c = [t.sv]
def qB : Fz → List SV → Prop:=λ_ c=>∃ b,c = [SV.bool b]
structure LgW (l : Lg) : Prop where
 snap : l.snap.l ≤ reachBytes
 ents : l.ents.length * 56 ≤ reachBytes
 bat : ∀ e ∈ l.ents,e.batch.length * 32 ≤ reachBytes
structure RepW (r : Rep) : Prop where
 log : LgW r.log
 acks : r.acks.length * 8 ≤ reachBytes
 starts : r.starts.length * 8 ≤ reachBytes
 dos : r.dos.length * 72 ≤ reachBytes
 dlog : ∀ d ∈ r.dos,LgW d.log
def qP : Fz → List SV → Prop:=λ_ c=>∃ p : Pt,c = ptC p
def qPs : Fz → List SV → Prop:=λM c=>∃ x l,c = [x] ∧ PtsR M x l ∧ l.length * 32 ≤ reachBytes
def qE : Fz → List SV → Prop:=λM c=>∃ b e,c = entC e b ∧ PtsR M b e.batch ∧ e.batch.length * 32 ≤ reachBytes
def qEs : Fz → List SV → Prop:=λM c=>∃ x l,c = [x] ∧ EntsR M x l ∧ l.length * 56 ≤ reachBytes ∧ ∀ e ∈ l,e.batch.length * 32 ≤ reachBytes
def qL : Fz → List SV → Prop:=λM c=>∃ x l,c = lgC l x ∧ EntsR M x l.ents ∧ LgW l
def qIs : Fz → List SV → Prop:=λM c=>∃ x l,c = [x] ∧ IntsR M x l ∧ l.length * 8 ≤ reachBytes
def qD : Fz → List SV → Prop:=λM c=>∃ x d,c = dvC d x ∧ EntsR M x d.log.ents ∧ LgW d.log
def qDs : Fz → List SV → Prop:=λM c=>∃ x l,c = [x] ∧ DvsR M x l ∧ l.length * 72 ≤ reachBytes ∧ ∀ d ∈ l,LgW d.log
def qR : Fz → List SV → Prop:=λM c=>∃ xe xa xs xd r,c = repC r xe xa xs xd ∧ RepS M r xe xa xs xd ∧ RepW r
theorem qI_m : Mono qI:=λ_ _ _ _ h=>h
theorem qS_m : Mono qS:=λ_ _ _ _ h=>h
theorem qB_m : Mono qB:=λ_ _ _ _ h=>h
theorem qP_m : Mono qP:=λ_ _ _ _ h=>h
theorem qPs_m : Mono qPs:=λ_ _ _ s ⟨x,l,h1,h2,h3⟩=>⟨x,l,h1,PtsR.mono s h2,h3⟩
theorem qE_m : Mono qE:=λ_ _ _ s ⟨b,e,h1,h2,h3⟩=>⟨b,e,h1,PtsR.mono s h2,h3⟩
theorem qEs_m : Mono qEs:=λ_ _ _ s ⟨x,l,h1,h2,h3⟩=>⟨x,l,h1,EntsR.mono s h2,h3⟩
theorem qL_m : Mono qL:=λ_ _ _ s ⟨x,l,h1,h2,h3⟩=>⟨x,l,h1,EntsR.mono s h2,h3⟩
theorem qIs_m : Mono qIs:=λ_ _ _ s ⟨x,l,h1,h2,h3⟩=>⟨x,l,h1,IntsR.mono s h2,h3⟩
theorem qD_m : Mono qD:=λ_ _ _ s ⟨x,d,h1,h2,h3⟩=>⟨x,d,h1,EntsR.mono s h2,h3⟩
theorem qDs_m : Mono qDs:=λ_ _ _ s ⟨x,l,h1,h2,h3⟩=>⟨x,l,h1,DvsR.mono s h2,h3⟩
section
variable {H : Type} {enc : TypeId × Value → H} {w : World}
theorem Qmi : ImpT enc Tryz.prog w 3 qI:=impT_int Tryz.underlying3
theorem im_bool : ImpT enc Tryz.prog w 4 qB:=Qsr Tryz.underlying4
theorem im_str : ImpT enc Tryz.prog w 9 qS:=(impT_str Tryz.underlying9).mono λ_ _ ⟨l,m,h1,h2,h3⟩=>⟨⟨l,m,h1⟩,h2,h3⟩
theorem im_pt : ImpT enc Tryz.prog w 88 qP:=by
 refine (Qgj Tryz.underlying88 [(9,qS),(3,qI),(3,qI)] rfl (by decide +kernel) (by decide +kernel) ?_ ?_).mono ?_
 ·intro p hp; simp only [List.mem_cons,List.not_mem_nil,or_false] at hp; rcases hp with rfl | rfl | rfl <;> first | exact qS_m | exact qI_m
 ·intro p hp; simp only [List.mem_cons,List.not_mem_nil,or_false] at hp; rcases hp with rfl | rfl | rfl <;> first | exact im_str | exact Qmi
 ·rintro M c ⟨cs,rfl,h⟩
  obtain ⟨c0,c1,c2,rfl⟩ : ∃ c0 c1 c2,cs = [c0,c1,c2]:=by
   have hl:=h.length
   rcases cs with _ | ⟨c0,cs⟩
   ·simp at hl
   rcases cs with _ | ⟨c1,cs⟩
   ·simp at hl
   rcases cs with _ | ⟨c2,cs⟩
   ·simp at hl
   rcases cs with _ | ⟨c,cs⟩
   ·exact ⟨c0,c1,c2,rfl⟩
   ·simp at hl
  obtain ⟨h0,h1,h2,-⟩:=h
  obtain ⟨s,-,rfl⟩:=h0
  obtain ⟨a,-,rfl⟩:=h1
  obtain ⟨b,-,rfl⟩:=h2
  exact ⟨⟨s,a,b⟩,rfl⟩
theorem im_pts : ImpT enc Tryz.prog w 29 qPs:=by
 refine (Qh4 Tryz.underlying29 (s:=3) (b:=32) (by decide +kernel) (by decide) (by decide +kernel) qP_m im_pt).mono ?_
 rintro M c ⟨x,css,rfl,h1,h2,h3⟩
 have hl : ∃ l : List Pt,css = l.map ptC:=by
  clear h1 h2
  induction css with
  | nil=>exact ⟨[],rfl⟩
  | cons d css ih =>
   obtain ⟨l,hl⟩:=ih λd hd=>h3 d (by simp [hd])
   obtain ⟨p,rfl⟩:=h3 d (by simp)
   exact ⟨p :: l,by rw [hl]; rfl⟩
 obtain ⟨l,rfl⟩:=hl
 exact ⟨x,l,rfl,h1,by simpa using h2⟩
theorem im_ent : ImpT enc Tryz.prog w 31 qE:=by
 refine (Qgj Tryz.underlying31 [(3,qI),(3,qI),(3,qI),(3,qI),(29,qPs)] rfl (by decide +kernel) (by decide +kernel) ?_ ?_).mono ?_
 ·intro p hp; simp only [List.mem_cons,List.not_mem_nil,or_false] at hp; rcases hp with rfl | rfl | rfl | rfl | rfl <;> first | exact qI_m | exact qPs_m
 ·intro p hp; simp only [List.mem_cons,List.not_mem_nil,or_false] at hp; rcases hp with rfl | rfl | rfl | rfl | rfl <;> first | exact Qmi | exact im_pts
 ·rintro M c ⟨cs,rfl,h⟩
  obtain ⟨c0,c1,c2,c3,c4,rfl⟩ : ∃ c0 c1 c2 c3 c4,cs = [c0,c1,c2,c3,c4]:=by
   have hl:=h.length
   rcases cs with _ | ⟨c0,cs⟩
   ·simp at hl
   rcases cs with _ | ⟨c1,cs⟩
   ·simp at hl
   rcases cs with _ | ⟨c2,cs⟩
   ·simp at hl
   rcases cs with _ | ⟨c3,cs⟩
   ·simp at hl
   rcases cs with _ | ⟨c4,cs⟩
   ·simp at hl
   rcases cs with _ | ⟨c,cs⟩
   ·exact ⟨c0,c1,c2,c3,c4,rfl⟩
   ·simp at hl
  obtain ⟨h0,h1,h2,h3,h4,-⟩:=h
  obtain ⟨a,-,rfl⟩:=h0
  obtain ⟨b,-,rfl⟩:=h1
  obtain ⟨c,-,rfl⟩:=h2
  obtain ⟨d,-,rfl⟩:=h3
  obtain ⟨x,l,rfl,g1,g2⟩:=h4
  exact ⟨x,⟨a,b,c,d,l⟩,rfl,g1,g2⟩
theorem im_ents : ImpT enc Tryz.prog w 22 qEs:=by
 refine (Qh4 Tryz.underlying22 (s:=5) (b:=56) (by decide +kernel) (by decide) (by decide +kernel) qE_m im_ent).mono ?_
 rintro M c ⟨x,css,rfl,h1,h2,h3⟩
 have hl : ∃ l : List Ent,All2 (EntR M) css l ∧ ∀ e ∈ l,e.batch.length * 32 ≤ reachBytes:=by
  clear h1 h2
  induction css with
  | nil=>exact ⟨[],trivial,λe he=>(by cases he)⟩
  | cons d css ih =>
   obtain ⟨l,hl⟩:=ih λd hd=>h3 d (by simp [hd])
   obtain ⟨b,e,rfl,g1,g2⟩:=h3 d (by simp)
   exact ⟨e :: l,⟨⟨b,rfl,g1⟩,hl.1⟩,λe he=>by rcases List.mem_cons.1 he with rfl | he; exact g2; exact hl.2 e he⟩
 obtain ⟨l,hl,hb⟩:=hl
 exact ⟨x,l,rfl,⟨css,h1,hl⟩,by rw [← hl.length]; exact h2,hb⟩
theorem im_log : ImpT enc Tryz.prog w 24 qL:=by
 refine (Qgj Tryz.underlying24 [(3,qI),(9,qS),(22,qEs)] rfl (by decide +kernel) (by decide +kernel) ?_ ?_).mono ?_
 ·intro p hp; simp only [List.mem_cons,List.not_mem_nil,or_false] at hp; rcases hp with rfl | rfl | rfl <;> first | exact qI_m | exact qS_m | exact qEs_m
 ·intro p hp; simp only [List.mem_cons,List.not_mem_nil,or_false] at hp; rcases hp with rfl | rfl | rfl <;> first | exact Qmi | exact im_str | exact im_ents
 ·rintro M c ⟨cs,rfl,h⟩
  obtain ⟨c0,c1,c2,rfl⟩ : ∃ c0 c1 c2,cs = [c0,c1,c2]:=by
   have hl:=h.length
   rcases cs with _ | ⟨c0,cs⟩
   ·simp at hl
   rcases cs with _ | ⟨c1,cs⟩
   ·simp at hl
   rcases cs with _ | ⟨c2,cs⟩
   ·simp at hl
   rcases cs with _ | ⟨c,cs⟩
   ·exact ⟨c0,c1,c2,rfl⟩
   ·simp at hl
  obtain ⟨h0,h1,h2,-⟩:=h
  obtain ⟨a,-,rfl⟩:=h0
  obtain ⟨s,hs,rfl⟩:=h1
  obtain ⟨x,l,rfl,g1,g2,g3⟩:=h2
  exact ⟨x,⟨a,s,l⟩,rfl,g1,hs,g2,g3⟩
theorem im_ints : ImpT enc Tryz.prog w 25 qIs:=by
 refine (Qh4 Tryz.underlying25 (s:=1) (b:=8) (by decide +kernel) (by decide) (by decide +kernel) qI_m Qmi).mono ?_
 rintro M c ⟨x,css,rfl,h1,h2,h3⟩
 have hl : ∃ l : List Int,css = l.map intC:=by
  clear h1 h2
  induction css with
  | nil=>exact ⟨[],rfl⟩
  | cons d css ih =>
   obtain ⟨l,hl⟩:=ih λd hd=>h3 d (by simp [hd])
   obtain ⟨i,-,rfl⟩:=h3 d (by simp)
   exact ⟨i :: l,by rw [hl]; rfl⟩
 obtain ⟨l,rfl⟩:=hl
 exact ⟨x,l,rfl,h1,by simpa using h2⟩
theorem im_do : ImpT enc Tryz.prog w 56 qD:=by
 refine (Qgj Tryz.underlying56 [(3,qI),(3,qI),(3,qI),(24,qL)] rfl (by decide +kernel) (by decide +kernel) ?_ ?_).mono ?_
 ·intro p hp; simp only [List.mem_cons,List.not_mem_nil,or_false] at hp; rcases hp with rfl | rfl | rfl | rfl <;> first | exact qI_m | exact qL_m
 ·intro p hp; simp only [List.mem_cons,List.not_mem_nil,or_false] at hp; rcases hp with rfl | rfl | rfl | rfl <;> first | exact Qmi | exact im_log
 ·rintro M c ⟨cs,rfl,h⟩
  obtain ⟨c0,c1,c2,c3,rfl⟩ : ∃ c0 c1 c2 c3,cs = [c0,c1,c2,c3]:=by
   have hl:=h.length
   rcases cs with _ | ⟨c0,cs⟩
   ·simp at hl
   rcases cs with _ | ⟨c1,cs⟩
   ·simp at hl
   rcases cs with _ | ⟨c2,cs⟩
   ·simp at hl
   rcases cs with _ | ⟨c3,cs⟩
   ·simp at hl
   rcases cs with _ | ⟨c,cs⟩
   ·exact ⟨c0,c1,c2,c3,rfl⟩
   ·simp at hl
  obtain ⟨h0,h1,h2,h3,-⟩:=h
  obtain ⟨a,-,rfl⟩:=h0
  obtain ⟨b,-,rfl⟩:=h1
  obtain ⟨c,-,rfl⟩:=h2
  obtain ⟨x,l,rfl,g1,g2⟩:=h3
  exact ⟨x,⟨a,b,c,l⟩,rfl,g1,g2⟩
theorem im_dos : ImpT enc Tryz.prog w 26 qDs:=by
 refine (Qh4 Tryz.underlying26 (s:=6) (b:=72) (by decide +kernel) (by decide) (by decide +kernel) qD_m im_do).mono ?_
 rintro M c ⟨x,css,rfl,h1,h2,h3⟩
 have hl : ∃ l : List Dv,All2 (DvR M) css l ∧ ∀ d ∈ l,LgW d.log:=by
  clear h1 h2
  induction css with
  | nil=>exact ⟨[],trivial,λe he=>(by cases he)⟩
  | cons d css ih =>
   obtain ⟨l,hl⟩:=ih λd hd=>h3 d (by simp [hd])
   obtain ⟨b,e,rfl,g1,g2⟩:=h3 d (by simp)
   exact ⟨e :: l,⟨⟨b,rfl,g1⟩,hl.1⟩,λe he=>by rcases List.mem_cons.1 he with rfl | he; exact g2; exact hl.2 e he⟩
 obtain ⟨l,hl,hb⟩:=hl
 exact ⟨x,l,rfl,⟨css,h1,hl⟩,by rw [← hl.length]; exact h2,hb⟩
theorem im_rep : ImpT enc Tryz.prog w 28 qR:=by
 refine (Qgj Tryz.underlying28 [(3,qI),(3,qI),(3,qI),(3,qI),(3,qI),(3,qI),(4,qB),(24,qL),(25,qIs),(25,qIs),(26,qDs)] rfl (by decide +kernel) (by decide +kernel) ?_ ?_).mono ?_
 ·intro p hp; simp only [List.mem_cons,List.not_mem_nil,or_false] at hp; rcases hp with rfl | rfl | rfl | rfl | rfl | rfl | rfl | rfl | rfl | rfl | rfl <;> first | exact qI_m | exact qB_m | exact qL_m | exact qIs_m | exact qDs_m
 ·intro p hp; simp only [List.mem_cons,List.not_mem_nil,or_false] at hp; rcases hp with rfl | rfl | rfl | rfl | rfl | rfl | rfl | rfl | rfl | rfl | rfl <;> first | exact Qmi | exact im_bool | exact im_log | exact im_ints | exact im_dos
 ·rintro M c ⟨cs,rfl,h⟩
  obtain ⟨c0,c1,c2,c3,c4,c5,c6,c7,c8,c9,c10,rfl⟩ : ∃ c0 c1 c2 c3 c4 c5 c6 c7 c8 c9 c10,cs = [c0,c1,c2,c3,c4,c5,c6,c7,c8,c9,c10]:=by
   have hl:=h.length
   rcases cs with _ | ⟨c0,cs⟩
   ·simp at hl
   rcases cs with _ | ⟨c1,cs⟩
   ·simp at hl
   rcases cs with _ | ⟨c2,cs⟩
   ·simp at hl
   rcases cs with _ | ⟨c3,cs⟩
   ·simp at hl
   rcases cs with _ | ⟨c4,cs⟩
   ·simp at hl
   rcases cs with _ | ⟨c5,cs⟩
   ·simp at hl
   rcases cs with _ | ⟨c6,cs⟩
   ·simp at hl
   rcases cs with _ | ⟨c7,cs⟩
   ·simp at hl
   rcases cs with _ | ⟨c8,cs⟩
   ·simp at hl
   rcases cs with _ | ⟨c9,cs⟩
   ·simp at hl
   rcases cs with _ | ⟨c10,cs⟩
   ·simp at hl
   rcases cs with _ | ⟨c,cs⟩
   ·exact ⟨c0,c1,c2,c3,c4,c5,c6,c7,c8,c9,c10,rfl⟩
   ·simp at hl
  obtain ⟨h0,h1,h2,h3,h4,h5,h6,h7,h8,h9,h10,-⟩:=h
  obtain ⟨a0,-,rfl⟩:=h0
  obtain ⟨a1,-,rfl⟩:=h1
  obtain ⟨a2,-,rfl⟩:=h2
  obtain ⟨a3,-,rfl⟩:=h3
  obtain ⟨a4,-,rfl⟩:=h4
  obtain ⟨a5,-,rfl⟩:=h5
  obtain ⟨b,rfl⟩:=h6
  obtain ⟨xe,l,rfl,g1,g2⟩:=h7
  obtain ⟨xa,la,rfl,g3,g4⟩:=h8
  obtain ⟨xs,ls,rfl,g5,g6⟩:=h9
  obtain ⟨xd,ld,rfl,g7,g8,g9⟩:=h10
  exact ⟨xe,xa,xs,xd,⟨a0,a1,a2,a3,a4,a5,b,l,la,ls,ld⟩,rfl,⟨g1,g3,g5,g7⟩,⟨g2,g4,g6,g8,g9⟩⟩
end
end Go.Proofs.YtnnjlnkoomeadaaGreat.Pv
