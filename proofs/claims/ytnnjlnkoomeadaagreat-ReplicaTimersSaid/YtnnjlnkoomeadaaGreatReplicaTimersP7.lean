/-
  ReplicaTimers: part 7 of what the proof is made of.
-/
import Derived.Test.YtnnjlnkoomeadaaGreatReplicaTimersP6
set_option linter.unusedVariables false
set_option linter.unusedSimpArgs false
set_option linter.unusedSectionVars false
noncomputable section
open Int renaming reduceEq → zA,reduceNe → zB,reduceLT → zC,reduceLE → zD,reduceNeg → zE,reduceAdd → zF,reduceSub → zG,reduceToNat → zH
open Nat renaming reduceEqDiff → zI,reduceAdd → zJ,reduceMul → zK,reduceSub → zL,reduceLeDiff → zM,reduceBEq → zN,reduceLT → zO,reduceBneDiff → zP
namespace Go.Proofs.YtnnjlnkoomeadaaGreat.Pv
open Go.Ev Go.Ev.Rp
set_option maxRecDepth 100000
set_option maxHeartbeats 4000000
def tk0 (r : Rep) (g : Lg) (N : Nat) : Rep:=anewR { r with log:=g,normal:=r.view,status:=0 } N
def takeR (r : Rep) (l : Lg) (commit : Int) (N : Nat) : Option Rep:=match instL r.log l with
 | none=>none
 | some g=>if last g < r.commit then none else some { tk0 r g N with commit:=max (max r.commit (min commit (last g))) g.base }
theorem Kp.put0 {T : Nat → Prop} {s : Nat} {o o' : Nat → Nat} {mu mu' : St} {n n' id : Nat} {c : List SV} (h : Kp T s o o' mu n mu' n') (hid : n ≤ id) : Kp T s o o' mu n (putS mu' id c) n':=⟨h.le,h.tags,λj hj h1 h2=>by rw [Qdm,if_neg (by omega)]; exact h.keep j hj h1 h2⟩
theorem Kp.le2 {T : Nat → Prop} {s : Nat} {o o' : Nat → Nat} {mu mu' : St} {n n' n2 : Nat} (h : Kp T s o o' mu n mu' n') (hn : n' ≤ n2) : Kp T s o o' mu n mu' n2:=⟨Nat.le_trans h.le hn,h.tags,h.keep⟩
variable {P : Program} (H : Fs P)
include H
theorem step_take {lo : Nat} {fz : Fz} {s : Nat} {o : Nat → Nat} {mu : St} {n : Nat} {r : Rep} {out : List Msg} {vd : Bool} {xe xa xs xd xo : SV} (S : SW lo fz s o mu n r out vd xe xa xs xd xo) (l : Lg) (ye : SV) (commit : Int)
 (hm : EntsR (with' mu fz) ye l.ents) (hz : LgSz l) {N : Nat} (hN : r.nodes = (N : Int)) (hN7 : N ≤ 7) {k : KT Prop} {w : WK k}
 (hk1 : ∀ r',takeR r l commit N = some r' → ∀ mu' n' o' xe' xa',SW lo fz s o' mu' n' r' out vd xe' xa' .nsl .nsl xo → Kp (λ_=>False) s o o' mu n mu' n' → k (.one (.bool true)) mu' n')
 (hk2 : takeR r l commit N = none → ∀ mu' n' o',SW lo fz s o' mu' n' r out true xe xa xs xd xo → Kp (λ_=>False) s o o' mu n mu' n' → k (.one (.bool false)) mu' n') : CPh P n_Qa7 [.one (.optr s 0),.ag (lgC l ye),.one (I commit)] fz mu n k w:=by
 refine CP_of H.Qa7 H.mx 0 ?_
 obtain ⟨-,-,yek,yem⟩:=hm.len
 have hsn : s < n:=S.slt
 have gA:=(Gr.refl (lo:=n) S.free).cons (Nat.le_refl _) (lgC l ye)
 have S1:=S.trim.gr gA
 have b1 : Ev.look ((n,lgC l ye) :: mu) n = some (lgC l ye):=by rw [Qdw,if_pos rfl]
 have K1 : Kp (λ_=>False) s (trim o n) (trim o n) mu n ((n,lgC l ye) :: mu) (n + 1):=Gr.kp gA
 have hm1:=EntsR.mono (gA.sub S.free (Nat.le_refl _)) hm
 have hon : trim o n n = 0:=Qmy (Nat.le_refl _)
 have hlon:=S.lon
 obtain ⟨m1,hm1e⟩ : ∃ mz : St,((n,lgC l ye) :: mu) = mz:=⟨_,rfl⟩
 rw [hm1e] at gA S1 b1 K1 hm1
 obtain ⟨⟨xek,xem⟩,⟨xak,xam⟩,⟨xsk,xsm⟩,⟨xdk,xdm⟩,xok,xom⟩:=S1.ks
 have ws1:=Qdl (fz:=fz) S1.cells
 have wb1:=Qdl (fz:=fz) b1
 have hC:=choose_Install H r.log l xe ye hz
 have hne : (n = s) = False:=by simp; omega
 rw [i_Qa7,dc_at b_Qa7.eq_1]
 unfold lgC at hm1e b1 wb1 hC ⊢
 unfold stepC repC at ws1
 have hH1:=Hide.mk hk1
 have hH2:=Hide.mk hk2
 have hNH:=Hide.mk hN
 clear hk1 hk2 hN
 simp only [↓E1,E2,zA,zB,zC,zD,zE,zF,zG,zH,zI,zJ,zK,zL,zM,zN,reduceIte,zO,zP, *,E3]
 refine hC.d2 S1.free ⟨S1.rs.1,hm1⟩ ?_
 have hcalls:=S1.cells
 rintro v new n2 g2 (⟨g,x',hI,rfl,hG⟩ | ⟨hI,rfl⟩)
 ·have l2:=g2.le
  obtain ⟨-,-,zk,zm⟩:=hG.len
  have S2:=S1.grT (Qff x' 1 2) g2
  have K2:=K1.trans (S1.kgrT (Qff x' 1 2) g2)
  have d1:=(g2.own n (by omega)).trans b1
  have hon2 : tagN (trim o n) (n + 1) (Qff x' 1 2) n = 0:=by rw [Qea (by omega)]; exact hon
  have S3:=S2.put0 (c:=[I g.base,g.snap.sv,x']) d1 hon2
  have K3:=K2.put0 (c:=[I g.base,g.snap.sv,x']) (Nat.le_refl n)
  obtain ⟨cs,t1,t2⟩:=Grow.tag (R:=EntX) (λh g=>EntX.mono h g) hG (o:=trim o n) (a:=1) (b:=2)
  have u : ∀ t,t ≠ 0 → Sub (Tag (tagN (trim o n) (n + 1) (Qff x' 1 2)) t (with' (new ++ m1) fz)) (Tag (tagN (trim o n) (n + 1) (Qff x' 1 2)) t (with' (putS (new ++ m1) n [I g.base,g.snap.sv,x']) fz)):=λt ht=>Tag.put (lookI d1) (by rw [hon2]; omega)
  have t1':=t1.mono (u 1 (by omega))
  have t2':=t2.imp λc a h=>EntX.mono (u 2 (by omega)) h
  have b3 : Ev.look (putS (new ++ m1) n [I g.base,g.snap.sv,x']) n = some [I g.base,g.snap.sv,x']:=by rw [Qdm,if_pos rfl,d1]; rfl
  have wd1:=Qdl (fz:=fz) d1
  have ws2:=Qdl (fz:=fz) S2.cells
  unfold stepC repC at ws2
  have hLE : EntsR (with' (putS (new ++ m1) n [I g.base,g.snap.sv,x']) fz) x' g.ents:=⟨cs,(t1'.mono Tag.sub).to,t2'.imp λc a h=>(EntX.mono Tag.sub h).to⟩
  have hL:=choose_Last H g x'
  unfold lgC at hL
  clear ws1 wb1 hC
  unfold lgC
  simp only [↓E1,E2,zA,zB,zC,zD,zE,zF,zG,zH,zI,zJ,zK,zL,zM,zN,reduceIte,zO,zP, *,E3]
  obtain ⟨m3,hm3⟩ : ∃ m,putS (new ++ m1) n [I g.base,g.snap.sv,x'] = m:=⟨_,rfl⟩
  rw [hm3] at S3 K3 t1' t2' b3 hLE
  try rw [hm3]
  have ws3:=Qdl (fz:=fz) S3.cells
  have wb3:=Qdl (fz:=fz) b3
  unfold stepC repC at ws3
  clear ws2 wd1 d1
  refine hL.q1 S3.free hLE ?_
  rintro v n4 l4 rfl
  have f4:=S3.free.le l4
  have hs3:=S3.cells
  unfold stepC repC at hs3
  clear hL
  simp only [↓E1,E2,zA,zB,zC,zD,zE,zF,zG,zH,zI,zJ,zK,zL,zM,zN,reduceIte,zO,zP, *,E3]
  refine Qdv (λhb=>?_) (λhb=>?_)
  ·have hno : takeR r l commit N = none:=by unfold takeR; rw [hI]; simp only; rw [if_pos (of_decide_eq_true hb)]
   have S4:=(S3.le l4).put (r':=r) (vd':=true) rfl rfl rfl rfl
   have K4:=(K3.trans (S3.kput (c:=stepC r xe xa xs xd xo true))).le2 l4
   have hk:=hH2.out hno _ _ _ S4 K4.trim
   unfold stepC repC at hk
   clear hno S4 K4
   simp only [↓E1,E2,zA,zB,zC,zD,zE,zF,zG,zH,zI,zJ,zK,zL,zM,zN,reduceIte,zO,zP, *,E3]
   all_goals exact hk
  ·have hyes : takeR r l commit N = some { tk0 r g N with commit:=max (max r.commit (min commit (last g))) g.base }:=by unfold takeR; rw [hI]; simp only; rw [if_neg (of_decide_eq_false hb)]
   have hyH:=Hide.mk hyes
   clear hyes
   have hT4 : RepT (tagN (trim o n) (n + 1) (Qff x' 1 2)) (with' m3 fz) { r with log:=g,normal:=r.view,status:=0 } x' xa xs xd:=⟨⟨cs,t1',t2'⟩,S3.rt.acks,S3.rt.starts,S3.rt.dos⟩
   have S4:=(S3.le l4).putT (vd':=vd) hT4
   have K4:=(K3.trans (S3.kput (c:=stepC { r with log:=g,normal:=r.view,status:=0 } x' xa xs xd xo vd))).le2 l4
   clear hT4 t1' t2' t1 t2 hLE hG hb
   unfold stepC repC at S4 K4
   simp only [↓E1,E2,zA,zB,zC,zD,zE,zF,zG,zH,zI,zJ,zK,zL,zM,zN,reduceIte,zO,zP, *,E3]
   refine Qoj H S4 hNH.out hN7 λm5 n5 o5 xa5 S5 K5=>?_
   obtain ⟨r5,hr5⟩ : ∃ r5,tk0 r g N = r5:=⟨_,rfl⟩
   have hr5c : r5.commit = r.commit:=by rw [← hr5]; rfl
   have hr5l : r5.log = g:=by rw [← hr5]; rfl
   have S5 : SW lo fz s o5 m5 n5 r5 out vd x' xa5 .nsl .nsl xo:=by rw [← hr5]; exact S5
   have hyes:=hyH.out
   rw [hr5,← hr5c,← hr5l] at hyes
   have hyH2:=Hide.mk hyes
   have K5':=(K4.trans K5).trim
   clear hyes hyH hr5c hr5l hr5 K5 K4 S4 K3 K2 K1 S3 S2 g2 hI hs3 ws3 wb3 b3 hm3 hm1e b1 S1
   have hs5:=S5.cells
   have ws5:=Qdl (fz:=fz) hs5
   have hLa:=replica_step_last H s r5 x' xa5 .nsl .nsl xo vd
   unfold stepC repC at hs5 ws5
   obtain ⟨⟨yek,yem⟩,⟨yak,yam⟩,-,-,-,-⟩:=S5.ks
   simp only [↓E1,E2,zA,zB,zC,zD,zE,zF,zG,zH,zI,zJ,zK,zL,zM,zN,reduceIte,zO,zP,Qd4,Qd8, *,E3]
   refine hLa.q1 S5.free ⟨Qdl S5.cells,S5.rs.1⟩ ?_
   rintro v n6 l6 rfl
   have S6:=(S5.le l6).put (r':={ r5 with commit:=max (max r5.commit (min commit (last r5.log))) r5.log.base }) (vd':=vd) rfl rfl rfl rfl
   have K6:=(K5'.trans (S5.kput (c:=stepC { r5 with commit:=max (max r5.commit (min commit (last r5.log))) r5.log.base } x' xa5 .nsl .nsl xo vd))).le2 l6
   have hk:=hH1.out _ hyH2.out _ _ _ _ _ S6 K6
   unfold stepC repC at hk
   clear S6 K6
   simp only [↓E1,E2,zA,zB,zC,zD,zE,zF,zG,zH,zI,zJ,zK,zL,zM,zN,reduceIte,zO,zP,Qd4,Qd8, *,E3]
   all_goals exact hk
 ·have l2:=g2.le
  have hno : takeR r l commit N = none:=by unfold takeR; rw [hI]
  have S2:=S1.gr g2
  have K2:=K1.trans (Gr.kp g2)
  have d1:=(g2.own n (by omega)).trans b1
  have wd1:=Qdl (fz:=fz) d1
  have S3:=S2.put0 (c:=[I 0,.str 0 0,.nsl]) d1 hon
  have K3:=K2.put0 (c:=[I 0,.str 0 0,.nsl]) (Nat.le_refl n)
  have hs2:=S2.cells
  have ws2:=Qdl (fz:=fz) hs2
  unfold stepC repC at ws2 hs2
  clear ws1 wb1 hC hI
  simp only [↓E1,E2,zA,zB,zC,zD,zE,zF,zG,zH,zI,zJ,zK,zL,zM,zN,reduceIte,zO,zP, *,E3]
  obtain ⟨m3,hm3⟩ : ∃ m,putS (new ++ m1) n [I 0,.str 0 0,.nsl] = m:=⟨_,rfl⟩
  rw [hm3] at S3 K3
  try rw [hm3]
  have S4:=S3.put (r':=r) (vd':=true) rfl rfl rfl rfl
  have K4:=K3.trans (S3.kput (c:=stepC r xe xa xs xd xo true))
  have hk:=hH2.out hno _ _ _ S4 K4.trim
  have hs3:=S3.cells
  unfold stepC repC at hk hs3
  clear hno S4 K4 S3 K3
  exact hk
end Go.Proofs.YtnnjlnkoomeadaaGreat.Pv
namespace Go.Proofs.YtnnjlnkoomeadaaGreat.Pv
open Go.Ev Go.Ev.Rp
set_option maxRecDepth 100000
set_option maxHeartbeats 4000000
variable {P : Program} (H : Fs P)
include H
theorem Qta {lo : Nat} {fz : Fz} {s : Nat} {o : Nat → Nat} {mu : St} {n : Nat} {r : Rep} {out : List Msg} {vd : Bool} {xe xa xs xd xo : SV} (S : SW lo fz s o mu n r out vd xe xa xs xd xo) (l : Lg) (ye : SV) (commit : Int)
 (hm : EntsR (with' mu fz) ye l.ents) (hz : LgSz l) (hok1 : Ok r.log) (hok2 : Ok l) {N : Nat} (hN : r.nodes = (N : Int)) (hN7 : N ≤ 7) {k : KT Prop} {w : WK k}
 (hk1 : ∀ r',takeR r l commit N = some r' → ∀ mu' n' o' xe' xa',SW lo fz s o' mu' n' r' out vd xe' xa' .nsl .nsl xo → Kp (λ_=>False) s o o' mu n mu' n' → k noVal mu' n')
 (hk2 : takeR r l commit N = none → ∀ mu' n' o',SW lo fz s o' mu' n' r out true xe xa xs xd xo → Kp (λ_=>False) s o o' mu n mu' n' → k noVal mu' n') : CPh P n_Qbt [.one (.optr s 0),.ag (lgC l ye),.one (I commit)] fz mu n k w:=by
 refine CP_of H.Qbt H.mx 0 ?_
 obtain ⟨-,-,yek,yem⟩:=hm.len
 have hsn : s < n:=S.slt
 have gA:=(Gr.refl (lo:=n) S.free).cons (Nat.le_refl _) (lgC l ye)
 have S1:=S.trim.gr gA
 have b1 : Ev.look ((n,lgC l ye) :: mu) n = some (lgC l ye):=by rw [Qdw,if_pos rfl]
 have K1 : Kp (λ_=>False) s (trim o n) (trim o n) mu n ((n,lgC l ye) :: mu) (n + 1):=Gr.kp gA
 have hm1:=EntsR.mono (gA.sub S.free (Nat.le_refl _)) hm
 have hlon:=S.lon
 obtain ⟨m1,hm1e⟩ : ∃ mz : St,((n,lgC l ye) :: mu) = mz:=⟨_,rfl⟩
 rw [hm1e] at gA S1 b1 K1 hm1
 obtain ⟨⟨xek,xem⟩,⟨xak,xam⟩,⟨xsk,xsm⟩,⟨xdk,xdm⟩,xok,xom⟩:=S1.ks
 have ws1:=Qdl (fz:=fz) S1.cells
 have wb1:=Qdl (fz:=fz) b1
 have hC:=ref16_Install H r.log l xe ye hz hok1 hok2
 have hne : (n = s) = False:=by simp; omega
 rw [i_Qbt,dc_at b_Qbt.eq_1]
 unfold lgC at hm1e b1 wb1 hC ⊢
 unfold stepC repC at ws1
 have hH1:=Hide.mk hk1
 have hH2:=Hide.mk hk2
 have hNH:=Hide.mk hN
 clear hk1 hk2 hN
 simp only [↓E1,E2,zA,zB,zC,zD,zE,zF,zG,zH,zI,zJ,zK,zL,zM,zN,reduceIte,zO,zP, *,E3]
 refine hC.d2 S1.free ⟨S1.rs.1,hm1⟩ ?_
 rintro v new n2 g2 (⟨g,x',hI,rfl,hG⟩ | ⟨hI,rfl⟩)
 ·have l2:=g2.le
  obtain ⟨-,-,zk,zm⟩:=hG.len
  have gB:=g2.cons (by omega) [I g.base,g.snap.sv,x']
  have S3:=S1.grT (Qff x' 1 2) gB
  have K3:=K1.trans (S1.kgrT (Qff x' 1 2) gB)
  have hG':=Grow.mono (R:=EntX) (λh g=>EntX.mono h g) hG (From.mono (((Gr.refl (lo:=n2) g2.free).cons (Nat.le_refl _) [I g.base,g.snap.sv,x']).sub g2.free (Nat.le_refl _)))
  obtain ⟨cs,t1,t2⟩:=Grow.tag (R:=EntX) (λh g=>EntX.mono h g) hG' (o:=trim o n) (a:=1) (b:=2)
  have b3 : Ev.look ((n2,[I g.base,g.snap.sv,x']) :: (new ++ m1)) n2 = some [I g.base,g.snap.sv,x']:=by rw [Qdw,if_pos rfl]
  have hLE : EntsR (with' ((n2,[I g.base,g.snap.sv,x']) :: (new ++ m1)) fz) x' g.ents:=⟨cs,(t1.mono Tag.sub).to,t2.imp λc a h=>(EntX.mono Tag.sub h).to⟩
  have hL:=ref16_Last H g x'
  have hne2 : (n2 = s) = False:=by simp; omega
  unfold lgC at hL
  clear ws1 wb1 hC
  unfold lgC
  obtain ⟨m3,hm3⟩ : ∃ m,((n2,[I g.base,g.snap.sv,x']) :: (new ++ m1)) = m:=⟨_,rfl⟩
  rw [hm3] at S3 K3 t1 t2 b3 hLE
  have ws3:=Qdl (fz:=fz) S3.cells
  have wb3:=Qdl (fz:=fz) b3
  unfold stepC repC at ws3
  simp only [↓E1,E2,zA,zB,zC,zD,zE,zF,zG,zH,zI,zJ,zK,zL,zM,zN,reduceIte,zO,zP, *,E3]
  refine hL.q1 S3.free hLE ?_
  rintro v n4 l4 rfl
  have f4:=S3.free.le l4
  have hs3:=S3.cells
  unfold stepC repC at hs3
  clear hL
  simp only [↓E1,E2,zA,zB,zC,zD,zE,zF,zG,zH,zI,zJ,zK,zL,zM,zN,reduceIte,zO,zP, *,E3]
  refine Qdv (λhb=>?_) (λhb=>?_)
  ·have hno : takeR r l commit N = none:=by unfold takeR; rw [hI]; simp only; rw [if_pos (of_decide_eq_true hb)]
   have S4:=(S3.le l4).put (r':=r) (vd':=true) rfl rfl rfl rfl
   have K4:=(K3.trans (S3.kput (c:=stepC r xe xa xs xd xo true))).le2 l4
   have hk:=hH2.out hno _ _ _ S4 K4.trim
   unfold stepC repC at hk
   clear hno S4 K4
   simp only [↓E1,E2,zA,zB,zC,zD,zE,zF,zG,zH,zI,zJ,zK,zL,zM,zN,reduceIte,zO,zP, *,E3]
   all_goals exact hk
  ·have hyes : takeR r l commit N = some { tk0 r g N with commit:=max (max r.commit (min commit (last g))) g.base }:=by unfold takeR; rw [hI]; simp only; rw [if_neg (of_decide_eq_false hb)]
   have hyH:=Hide.mk hyes
   clear hyes
   have hT4 : RepT (tagN (trim o n) (n + 1) (Qff x' 1 2)) (with' m3 fz) { r with log:=g,normal:=r.view,status:=0 } x' xa xs xd:=⟨⟨cs,t1,t2⟩,S3.rt.acks,S3.rt.starts,S3.rt.dos⟩
   have S4:=(S3.le l4).putT (vd':=vd) hT4
   have K4:=(K3.trans (S3.kput (c:=stepC { r with log:=g,normal:=r.view,status:=0 } x' xa xs xd xo vd))).le2 l4
   have b4 : Ev.look (putS m3 s (stepC { r with log:=g,normal:=r.view,status:=0 } x' xa xs xd xo vd)) n2 = some [I g.base,g.snap.sv,x']:=by rw [Qdm,if_neg (by omega)]; exact b3
   have n2n4 : n2 < n4:=by have:=S3.free.lt wb3; omega
   clear hT4 t1 t2 hLE hG hG' hb
   unfold stepC repC at S4 K4 b4
   simp only [↓E1,E2,zA,zB,zC,zD,zE,zF,zG,zH,zI,zJ,zK,zL,zM,zN,reduceIte,zO,zP, *,E3]
   refine Qmc H S4 hNH.out hN7 λm5 n5 o5 xa5 S5 K5=>?_
   have b5:=(K5.keep n2 n2n4 (by omega) (λh=>h)).trans b4
   have wb5:=Qdl (fz:=fz) b5
   obtain ⟨r5,hr5⟩ : ∃ r5,tk0 r g N = r5:=⟨_,rfl⟩
   have hr5c : r5.commit = r.commit:=by rw [← hr5]; rfl
   have hr5l : r5.log = g:=by rw [← hr5]; rfl
   have S5 : SW lo fz s o5 m5 n5 r5 out vd x' xa5 .nsl .nsl xo:=by rw [← hr5]; exact S5
   have hyes:=hyH.out
   rw [hr5,← hr5c] at hyes
   have hyH2:=Hide.mk hyes
   have K5':=(K4.trans K5).trim
   have hEn:=S5.rs.1
   rw [hr5l] at hEn
   clear hyes hyH hr5c hr5l hr5 K5 K4 S4 K3 K1 S3 g2 gB hI hs3 ws3 wb3 b3 hm3 hm1e b1 S1 b4
   have hs5:=S5.cells
   have ws5:=Qdl (fz:=fz) hs5
   have hLa:=ref16_Last H g x'
   unfold lgC at hLa
   unfold stepC repC at hs5 ws5
   obtain ⟨⟨yek,yem⟩,⟨yak,yam⟩,-,-,-,-⟩:=S5.ks
   simp only [↓E1,E2,zA,zB,zC,zD,zE,zF,zG,zH,zI,zJ,zK,zL,zM,zN,reduceIte,zO,zP,Qd4,Qd8, *,E3]
   refine hLa.q1 S5.free hEn ?_
   rintro v n6 l6 rfl
   have S6:=(S5.le l6).put (r':={ r5 with commit:=max (max r5.commit (min commit (last g))) g.base }) (vd':=vd) rfl rfl rfl rfl
   have K6:=(K5'.trans (S5.kput (c:=stepC { r5 with commit:=max (max r5.commit (min commit (last g))) g.base } x' xa5 .nsl .nsl xo vd))).le2 l6
   have hk:=hH1.out _ hyH2.out _ _ _ _ _ S6 K6
   unfold stepC repC at hk
   clear S6 K6
   simp only [↓E1,E2,zA,zB,zC,zD,zE,zF,zG,zH,zI,zJ,zK,zL,zM,zN,reduceIte,zO,zP,Qd4,Qd8, *,E3]
   all_goals exact hk
 ·have l2:=g2.le
  have hno : takeR r l commit N = none:=by unfold takeR; rw [hI]
  have gB:=g2.cons (by omega) [I 0,.str 0 0,.nsl]
  have S3:=S1.gr gB
  have K3:=K1.trans (Gr.kp gB)
  have hne2 : (n2 = s) = False:=by simp; omega
  clear ws1 wb1 hC hI
  have b3 : Ev.look ((n2,[I 0,.str 0 0,.nsl]) :: (new ++ m1)) n2 = some [I 0,.str 0 0,.nsl]:=by rw [Qdw,if_pos rfl]
  have S4:=S3.put (r':=r) (vd':=true) rfl rfl rfl rfl
  have K4:=K3.trans (S3.kput (c:=stepC r xe xa xs xd xo true))
  have hk:=hH2.out hno _ _ _ S4 K4.trim
  have hs3:=S3.cells
  unfold stepC repC at hk hs3
  clear hno S4 K4 S3 K3
  simp only [↓E1,E2,zA,zB,zC,zD,zE,zF,zG,zH,zI,zJ,zK,zL,zM,zN,reduceIte,zO,zP, *,E3]
  rw [Qj7,if_neg (by omega)] at hk
  exact hk
end Go.Proofs.YtnnjlnkoomeadaaGreat.Pv
namespace Go.Proofs.YtnnjlnkoomeadaaGreat.Pv
open Go.Ev Go.Ev.Rp
set_option maxRecDepth 100000
set_option maxHeartbeats 4000000
variable {P : Program} (H : Fs P)
include H
theorem ref16_Committed (x : SV) (acks : List Int) (me last : Int) (hl : acks.length ≤ 4611686018427387904) (hlast : last ≤ 4611686018427387904) : Ctr P n_Qbu [.one x, .one (I me), .one (I last)] (fun M => IntsR M x acks) (fun _ _ _ v => v = .one (I (commF acks me last))) := Ctr.of H.mx H.Qbu (fun _ => acks.length + last.toNat + 2) fun fz mu n k hfr s1 hk => by
 obtain ⟨xl,xs,xk,xm⟩:=s1.len
 obtain ⟨f,hf⟩ : ∃ f,(acks.length - 1) / 2 = f:=⟨_,rfl⟩
 have hw1 : IntKind.i64.wrap ((acks.length : Int) - 1) = (acks.length : Int) - 1:=wrap64 (by omega) (by omega)
 have hq : ((acks.length : Int) - 1).tdiv 2 = (f : Int):=by
  rcases Nat.eq_zero_or_pos acks.length with h0 | h0
  ·rw [h0] at hf ⊢; subst hf; rfl
  ·rw [Int.tdiv_eq_ediv_of_nonneg (by omega)]; omega
 have hw2 : IntKind.i64.wrap (f : Int) = (f : Int):=wrap64 (by omega) (by omega)
 rw [i_Qbu,dc_at b_Qbu.eq_1]
 simp only [↓E1,E2,zA,zB,zC,zD,zE,zF,zG,zH,zI,zJ,zK,zL,zM,zN,reduceIte,zO,zP, *]
 refine loopI (x:=0) (L:=last.toNat) (p:=λi=>decide (manyL me acks (last - (i : Nat)) < f)) (λi e mu' n'=>Gr n fz mu mu' n n' ∧ (∀ j : Nat,j < i → manyL me acks (last - j) < f) ∧ e 0 0 = .one x ∧ e 0 1 = .one (I me) ∧ e 0 7 = .one (.int .i64 (f : Nat)) ∧ e 0 8 = .one (I (last - (i : Nat)))) (λe mu' n'=>∃ i : Nat,Gr n fz mu mu' n n' ∧ i < last.toNat ∧ (∀ j : Nat,j < i → manyL me acks (last - j) < f) ∧ f ≤ manyL me acks (last - i) ∧ e 0 6 = .one (I (last - (i : Nat)))) ?_ ?_ _ _ _ _ _ (by omega) ?_ ?_ ?_
 ·rintro i e mu1 n1 K hi ⟨g1, hlo, e0, e1, e7, e8⟩ hy hn
  rw [dc_at l_Qbu_1.eq_1]
  have hgt : (0 < last - (i : Int)) = True:=by simp; omega
  have hsub : IntKind.i64.wrap (last - (i : Int) - 1) = last - ((i + 1 : Nat) : Int):=by rw [wrap64 (by omega) (by omega)]; omega
  simp only [↓E1,E2,zA,zB,zC,zD,zE,zF,zG,zH,zI,zJ,zK,zL,zM,zN,reduceIte,zO,zP, *]
  refine loopI (x:=2) (L:=acks.length) (p:=λ_=>true) (λj e mu' n'=>Gr n fz mu mu' n n' ∧ e 0 0 = .one x ∧ e 0 1 = .one (I me) ∧ e 0 7 = .one (.int .i64 (f : Nat)) ∧ e 0 8 = .one (I (last - (i : Nat))) ∧ e 0 9 = .one (.int .i64 (manyL me (acks.take j) (last - (i : Nat)) : Nat)) ∧ e 0 10 = .one (.int .i64 j)) (λ_ _ _=>False) ?_ ?_ _ _ _ _ _ (by omega) ?_ ?_ ?_
  ·rintro j e mu1 n1 K hj ⟨g2, e0, e1, e7, e8, e9, e10⟩ hy2 hn2
   rw [dc_at l_Qbu_0.eq_1]
   have hw:=Qdt hj hl
   have hmt:=Qum me (last - (i : Int)) hj
   have hml:=many_le me (acks.take j) (last - (i : Int))
   have hml2 : (acks.take j).length ≤ acks.length:=by rw [List.length_take]; omega
   have hw9 : IntKind.i64.wrap ((manyL me (acks.take j) (last - (i : Int)) : Int) + 1) = ((manyL me (acks.take j) (last - (i : Int)) + 1 : Nat) : Int):=by rw [wrap64 (by omega) (by omega)]; omega
   obtain ⟨id,off,cap,B,rfl,hB,hmk,hbd,hsub2⟩:=(IntsR.mono (λ_ _ hh=>g2.old hfr hh) s1).elem hj
   simp only [↓E1,E2,zA,zB,zC,zD,zE,zF,zG,zH,zI,zJ,zK,zL,zM,zN,reduceIte,zO,zP, *]
   clear hk hy hn hlo hf hw1 hq hw2
   have hA : True:=trivial
   repeat' (refine Qdv (λhb=>?_) (λhb=>?_) <;> replace hA:=And.intro hA hb <;> simp only [↓E1,E2,zA,zB,zC,zD,zE,zF,zG,zH,zI,zJ,zK,zL,zM,zN,reduceIte,zO,zP,hb, *] <;> clear hb)
   all_goals
    first
     | (have hm : manyL me (acks.take (j + 1)) (last - (i : Int)) = manyL me (acks.take j) (last - (i : Int)) := by
         rw [hmt]; split
         ·rename_i hc; exfalso; obtain ⟨c1,c2⟩:=hc; simp at hA; omega
         ·rfl
        refine hy2 rfl _ _ _ ⟨g2,?_,?_,?_,?_,?_,?_⟩
        all_goals (clear hA hmt; simp [updN,updE, *]; done))
     | (have hm : manyL me (acks.take (j + 1)) (last - (i : Int)) = manyL me (acks.take j) (last - (i : Int)) + 1 := by
         rw [hmt]; split
         ·rfl
         ·rename_i hc; exfalso; apply hc; simp at hA; refine ⟨?_,?_⟩ <;> omega
        refine hy2 rfl _ _ _ ⟨g2,?_,?_,?_,?_,?_,?_⟩
        all_goals (clear hA hmt; simp [updN,updE, *]; done))
  ·rintro e mu1 n1 K ⟨g2,e0,e1,e7,e8,e9,e10⟩ hx
   rw [dc_at l_Qbu_0.eq_1]
   have hlt : (acks.length < acks.length) = False:=by simp
   clear hk hy hn hlo
   simp only [↓E1,E2,zA,zB,zC,zD,zE,zF,zG,zH,zI,zJ,zK,zL,zM,zN,reduceIte,zO,zP, *]
   try (refine hx _ _ _ ⟨g2,?_,?_,?_,?_,?_,?_⟩ <;> simp [updN,updE, *])
  ·refine ⟨g1,?_,?_,?_,?_,?_,?_⟩
   all_goals (clear hk hy hn hlo; simp [updN,updE, *])
   all_goals (unfold manyL; rfl)
  ·rintro - e mu1 n1 ⟨g2,e0,e1,e7,e8,e9,e10⟩
   rw [List.take_length] at e9
   have hlo':=Hide.mk hlo
   clear hlo
   have hY:=Hide.mk hy
   have hN:=Hide.mk hn
   clear hk hn hy
   simp only [↓E1,E2,zA,zB,zC,zD,zE,zF,zG,zH,zI,zJ,zK,zL,zM,zN,reduceIte,zO,zP, *]
   refine Qdv (λhb=>?_) (λhb=>?_)
   ·have hb' : f ≤ manyL me acks (last - (i : Int)):=of_decide_eq_true hb
    simp only [↓E1,E2,zA,zB,zC,zD,zE,zF,zG,zH,zI,zJ,zK,zL,zM,zN,reduceIte,zO,zP, *]
    refine hN.out (decide_eq_false (by omega)) _ _ _ ⟨i,g2,hi,hlo'.out,hb',?_⟩
    simp [updN,updE]
   ·have hb' : ¬ f ≤ manyL me acks (last - (i : Int)):=of_decide_eq_false hb
    simp only [↓E1,E2,zA,zB,zC,zD,zE,zF,zG,zH,zI,zJ,zK,zL,zM,zN,reduceIte,zO,zP, *]
    refine hY.out (decide_eq_true (by omega)) _ _ _ ⟨g2,λj hj=>?_,?_,?_,?_,?_⟩
    ·rcases Nat.lt_or_ge j i with h | h
     ·exact hlo'.out j h
     ·have : j = i:=by omega
      subst this; omega
    all_goals simp [updN,updE, *]
  ·rintro ⟨_,_,_,h⟩; cases h
 ·rintro e mu1 n1 K ⟨g1,hlo,e0,e1,e7,e8⟩ hx
  rw [dc_at l_Qbu_1.eq_1]
  have hgt : (0 < last - ((last.toNat : Nat) : Int)) = False:=by simp; omega
  clear hk
  have hlo':=Hide.mk hlo
  clear hlo
  simp only [↓E1,E2,zA,zB,zC,zD,zE,zF,zG,zH,zI,zJ,zK,zL,zM,zN,reduceIte,zO,zP, *]
  refine hx _ _ _ ⟨g1,hlo'.out,?_,?_,?_,?_⟩
  all_goals simp [updN,updE, *]
 ·refine ⟨Gr.refl hfr,λj hj=>by omega,?_,?_,?_,?_⟩
  all_goals (clear hk; simp [updN,updE,envI, *])
 ·rintro hall e mu1 n1 ⟨g1,hlo,e0,e1,e7,e8⟩
  have hc:=Qtw (acks:=acks) (me:=me) (last:=last) λu h1 h2=>by
   have:=hlo (last - u).toNat (by omega)
   rw [show last - (((last - u).toNat : Nat) : Int) = u by omega] at this
   rw [hf]; exact this
  clear hall hlo
  simp only [↓E1,E2,zA,zB,zC,zD,zE,zF,zG,zH,zI,zJ,zK,zL,zM,zN,reduceIte,zO,zP]
  exact hk _ _ _ g1 (by rw [hc])
 ·rintro - e mu1 n1 ⟨i,g1,hi,hlo,hge,e6⟩
  have hc:=comm_at (acks:=acks) (me:=me) (last:=last) (t:=last - (i : Nat)) (by omega) (by omega) (λu h1 h2=>by
   have:=hlo (last - u).toNat (by omega)
   rw [show last - (((last - u).toNat : Nat) : Int) = u by omega] at this
   rw [hf]; exact this) (by rw [hf]; exact hge)
  clear hlo
  simp only [↓E1,E2,zA,zB,zC,zD,zE,zF,zG,zH,zI,zJ,zK,zL,zM,zN,reduceIte,zO,zP,e6]
  exact hk _ _ _ g1 (by rw [hc])
end Go.Proofs.YtnnjlnkoomeadaaGreat.Pv
namespace Go.Proofs.YtnnjlnkoomeadaaGreat.Pv
open Go.Ev Go.Ev.Rp
set_option maxRecDepth 100000
set_option maxHeartbeats 4000000
def KE (a b : SV) : Prop:=a = b ∨ ∃ x y,a = .int .i64 x ∧ b = .int .i64 y
theorem KE.trans {a b c : SV} (h : KE a b) (k : KE b c) : KE a c:=by
 rcases h with rfl | ⟨x,y,rfl,rfl⟩
 ·exact k
 ·rcases k with rfl | ⟨x',y',e,rfl⟩
  ·exact .inr ⟨x,y,rfl,rfl⟩
  ·exact .inr ⟨x,y',rfl,rfl⟩
theorem KE.known {a b : SV} (h : KE a b) : b.known = a.known ∧ b.isMk = a.isMk:=by
 rcases h with rfl | ⟨x,y,rfl,rfl⟩ <;> exact ⟨rfl,rfl⟩
theorem Qjd : ∀ l : List SV,All2 KE l l
 | []=>trivial
 | a :: l=>⟨.inl rfl,Qjd l⟩
theorem Qqz : ∀ {a b c : List SV},All2 KE a b → All2 KE b c → All2 KE a c
 | [],[],[],_,_=>trivial
 | _ :: _,_ :: _,_ :: _,h,k=>⟨h.1.trans k.1,Qqz h.2 k.2⟩
 | [],[],_ :: _,_,k=>k.elim
 | [],_ :: _,_,h,_=>h.elim
 | _ :: _,[],_,h,_=>h.elim
 | _ :: _,_ :: _,[],_,k=>k.elim
theorem ke_mkd : ∀ {a b : List SV},All2 KE a b → mkd b = mkd a
 | [],[],_=>rfl
 | a :: l,b :: l',h=>h.1.known.2
 | [],_ :: _,h=>h.elim
 | _ :: _,[],h=>h.elim
theorem Qt0 : ∀ {a b : List SV} (k : Nat),All2 KE a b → All2 KE (a.drop k) (b.drop k)
 | [],[],_,_=>by simp [All2]
 | _ :: _,_ :: _,0,h=>h
 | _ :: _,_ :: _,k + 1,h=>by simpa using Qt0 k h.2
 | [],_ :: _,_,h=>h.elim
 | _ :: _,[],_,h=>h.elim
theorem Qs2 : ∀ {a b : List SV} (k : Nat),All2 KE a b → All2 KE (a.take k) (b.take k)
 | [],[],_,_=>by simp [All2]
 | _ :: _,_ :: _,0,_=>trivial
 | _ :: _,_ :: _,k + 1,h=>⟨h.1,Qs2 k h.2⟩
 | [],_ :: _,_,h=>h.elim
 | _ :: _,[],_,h=>h.elim
theorem Qqo : ∀ {a b c : List SV},All2 KE (a ++ b) c → ∃ c1 c2,c = c1 ++ c2 ∧ All2 KE a c1 ∧ All2 KE b c2
 | [],b,c,h=>⟨[],c,rfl,trivial,h⟩
 | a :: l,b,[],h=>h.elim
 | a :: l,b,c :: cs,h=>by
  obtain ⟨c1,c2,e,h1,h2⟩:=Qqo (a:=l) h.2
  exact ⟨c :: c1,c2,by rw [e]; rfl,⟨h.1,h1⟩,h2⟩
theorem Qqr : ∀ {a b : List SV},All2 KE a b → Qdo b = Qdo a
 | [],[],_=>rfl
 | a :: l,b :: l',h=>by rw [Qe8,Qe8,h.1.known.1,Qqr h.2]
 | [],_ :: _,h=>h.elim
 | _ :: _,[],h=>h.elim
theorem Qu0 : ∀ {es : List (List SV)} {c : List SV},All2 KE es.flatten c → ∃ es' : List (List SV),c = es'.flatten ∧ All2 (All2 KE) es es'
 | [],[],_=>⟨[],rfl,trivial⟩
 | [],_ :: _,h=>h.elim
 | e :: es,c,h=>by
  rw [List.flatten_cons] at h
  obtain ⟨c1,c2,rfl,h1,h2⟩:=Qqo h
  obtain ⟨es',rfl,h3⟩:=Qu0 h2
  exact ⟨c1 :: es',rfl,⟨h1,h3⟩⟩
theorem ke_over {B : List SV} {i : Nat} {x y : Int} (h : (B.drop i).take 1 = [.int .i64 x]) : All2 KE B (over B i [.int .i64 y]):=by
 have hi : i < B.length:=by
  rcases Nat.lt_or_ge i B.length with h1 | h1
  ·exact h1
  ·rw [List.drop_eq_nil_of_le h1] at h; simp at h
 rw [List.drop_eq_getElem_cons hi] at h
 simp only [List.take_succ_cons,List.take_zero,List.cons.injEq,and_true] at h
 have hsplit : B = B.take i ++ (B[i] :: B.drop (i + 1)):=by rw [← List.drop_eq_getElem_cons hi,List.take_append_drop]
 have key : All2 KE (B.take i ++ (B[i] :: B.drop (i + 1))) (B.take i ++ (.int .i64 y :: B.drop (i + 1))):=All2.append (Qjd _) ⟨.inr ⟨x,y,h,rfl⟩,Qjd _⟩
 rw [← hsplit] at key
 exact key
def Sim (M M' : Fz) : Prop:=∀ j B,M j = some B → ∃ B',M' j = some B' ∧ All2 KE B B'
theorem Qnj {M M' : Fz} (hs : Sim M M') {s : Nat} {x : SV} {es : List (List SV)} (h : Sl M s x es) : ∃ es', Sl M' s x es' ∧ All2 (All2 KE) es es' := by
 rcases h with ⟨h,rfl⟩ | ⟨id,off,cap,B,rfl,h2,h3,h4,h5,h6,h7⟩
 ·exact ⟨[],.inl ⟨h,rfl⟩,trivial⟩
 ·obtain ⟨B', h8, h9⟩ := hs id B h3
  have h10:=Qs2 (es.length * s) (Qt0 off h9)
  rw [h6] at h10
  obtain ⟨es',h11,h12⟩:=Qu0 h10
  have hl:=h12.length
  have hm : ∀ {es es' : List (List SV)}, All2 (All2 KE) es es' → (∀ e ∈ es, e.length = s ∧ Qdo e = true) → ∀ e ∈ es', e.length = s ∧ Qdo e = true := by
   intro es
   induction es with
   | nil=>intro es' h _ e he; cases es' with
    | nil=>cases he
    | cons _ _=>exact h.elim
   | cons a l ih =>
    intro es' h hall e he
    cases es' with
    | nil=>exact h.elim
    | cons b l' =>
     rcases List.mem_cons.1 he with rfl | he
     ·have:=hall a List.mem_cons_self
      exact ⟨by rw [← h.1.length]; exact this.1,by rw [Qqr h.1]; exact this.2⟩
     ·exact ih h.2 (λe he=>hall e (List.mem_cons_of_mem _ he)) e he
  refine ⟨es',.inr ⟨id,off,cap,B',by rw [hl],by rw [← hl]; exact h2,h8,by rw [ke_mkd h9]; exact h4,by rw [← hl,← h9.length]; exact h5,by rw [← hl]; exact h11,hm h12 h7⟩,h12⟩
theorem ptC_sim {p : Pt} {c : List SV} (h : All2 KE (ptC p) c) : ∃ p' : Pt,c = ptC p':=by
 match c,h with
 | [a,b,d],⟨h1,h2,h3,_⟩ =>
  rcases h1 with rfl | ⟨x,y,e,_⟩
  ·obtain ⟨y2,rfl⟩ : ∃ y,b = I y:=by rcases h2 with rfl | ⟨x,y,_,rfl⟩; exact ⟨_,rfl⟩; exact ⟨_,rfl⟩
   obtain ⟨y3,rfl⟩ : ∃ y,d = I y:=by rcases h3 with rfl | ⟨x,y,_,rfl⟩; exact ⟨_,rfl⟩; exact ⟨_,rfl⟩
   exact ⟨⟨p.series,y2,y3⟩,rfl⟩
  ·cases e
theorem Qq2 : ∀ {l : List Pt} {es : List (List SV)},All2 (All2 KE) (l.map ptC) es → ∃ l' : List Pt,l'.length = l.length ∧ es = l'.map ptC
 | [],[],_=>⟨[],rfl,rfl⟩
 | [],_ :: _,h=>h.elim
 | _ :: _,[],h=>h.elim
 | p :: l,e :: es,h=>by
  obtain ⟨p',rfl⟩:=ptC_sim h.1
  obtain ⟨l',h1,rfl⟩:=Qq2 h.2
  exact ⟨p' :: l',by simp [h1],rfl⟩
theorem Qp6 {M M' : Fz} (hs : Sim M M') {x : SV} {l : List Pt} (h : PtsR M x l) : ∃ l',l'.length = l.length ∧ PtsR M' x l':=by
 obtain ⟨es,h1,h2⟩:=Qnj hs h
 obtain ⟨l',h3,rfl⟩:=Qq2 h2
 exact ⟨l',h3,h1⟩
theorem Qn7 : ∀ {l : List Int} {es : List (List SV)},All2 (All2 KE) (l.map intC) es → ∃ l' : List Int,l'.length = l.length ∧ es = l'.map intC
 | [],[],_=>⟨[],rfl,rfl⟩
 | [],_ :: _,h=>h.elim
 | _ :: _,[],h=>h.elim
 | p :: l, e :: es, h => by
  obtain ⟨l',h1,rfl⟩:=Qn7 h.2
  match e,h.1 with
  | [a],⟨h2,_⟩ =>
   obtain ⟨y,rfl⟩ : ∃ y,a = I y:=by rcases h2 with rfl | ⟨x,y,_,rfl⟩; exact ⟨_,rfl⟩; exact ⟨_,rfl⟩
   exact ⟨y :: l',by simp [h1],rfl⟩
theorem Qm0 {M M' : Fz} (hs : Sim M M') {x : SV} {l : List Int} (h : IntsR M x l) : ∃ l',l'.length = l.length ∧ IntsR M' x l':=by
 obtain ⟨es,h1,h2⟩:=Qnj hs h
 obtain ⟨l',h3,rfl⟩:=Qn7 h2
 exact ⟨l',h3,h1⟩
theorem Quv {M : Fz} {s : Nat} {x y : SV} {es : List (List SV)} (h : Sl M s x es) (k : KE x y) : y = x:=by
 rcases k with rfl | ⟨a,b,rfl,rfl⟩
 ·rfl
 ·rcases h with ⟨h | h | h,_⟩ | ⟨_,_,_,_,e,_⟩
  ·cases h
  ·cases h
  ·cases h
  ·cases e
def EntsK (M : Fz) (x : SV) (L b : Nat) : Prop:=∃ l : List Ent,l.length = L ∧ (∀ e ∈ l,e.batch.length ≤ b) ∧ EntsR M x l
theorem Qd9 {a : SV} {l z : List SV} (h : All2 KE (a :: l) z) : ∃ b l',z = b :: l' ∧ KE a b ∧ All2 KE l l':=by
 cases z with
 | nil=>exact h.elim
 | cons b l'=>exact ⟨b,l',rfl,h.1,h.2⟩
theorem Qtl {z : List SV} (h : All2 KE [] z) : z = []:=by
 cases z with
 | nil=>rfl
 | cons b l'=>exact h.elim
theorem Qe0 {v : Int} {a : SV} (h : KE (I v) a) : ∃ y,a = I y:=by
 rcases h with rfl | ⟨x,y,_,rfl⟩
 ·exact ⟨_,rfl⟩
 ·exact ⟨_,rfl⟩
theorem ent_sim {M M' : Fz} (hs : Sim M M') {e : Ent} {c d : List SV} (h : EntR M c e) (k : All2 KE c d) : ∃ e' : Ent,e'.batch.length = e.batch.length ∧ EntR M' d e':=by
 obtain ⟨b,rfl,h4⟩:=h
 obtain ⟨p',h5,h6⟩:=Qp6 hs h4
 unfold entC at k
 obtain ⟨a1,d1,rfl,k1,k⟩:=Qd9 k
 obtain ⟨a2,d2,rfl,k2,k⟩:=Qd9 k
 obtain ⟨a3,d3,rfl,k3,k⟩:=Qd9 k
 obtain ⟨a4,d4,rfl,k4,k⟩:=Qd9 k
 obtain ⟨a5,d5,rfl,k5,k⟩:=Qd9 k
 obtain rfl:=Qtl k
 obtain ⟨v1,rfl⟩:=Qe0 k1
 obtain ⟨v2,rfl⟩:=Qe0 k2
 obtain ⟨v3,rfl⟩:=Qe0 k3
 obtain ⟨v4,rfl⟩:=Qe0 k4
 have e5 : a5 = b:=Quv h4 k5
 subst e5
 exact ⟨⟨v1,v2,v3,v4,p'⟩,h5,a5,rfl,h6⟩
theorem Qt1 {M M' : Fz} (hs : Sim M M') {bd : Nat} (l : List Ent) : ∀ (cs es : List (List SV)), All2 (EntR M) cs l → (∀ e ∈ l, e.batch.length ≤ bd) → All2 (All2 KE) cs es → ∃ l' : List Ent, l'.length = l.length ∧ (∀ e ∈ l', e.batch.length ≤ bd) ∧ All2 (EntR M') es l' := by
 induction l with
 | nil =>
  intro cs es h hb k
  cases cs with
  | cons _ _=>exact h.elim
  | nil =>
   cases es with
   | cons _ _=>exact k.elim
   | nil=>exact ⟨[],rfl,λe he=>(List.not_mem_nil he).elim,trivial⟩
 | cons e l ih =>
  intro cs es h hb k
  cases cs with
  | nil=>exact h.elim
  | cons c cs =>
   cases es with
   | nil=>exact k.elim
   | cons d es =>
    obtain ⟨l',h1,h2,h3⟩:=ih cs es h.2 (λe he=>hb e (List.mem_cons_of_mem _ he)) k.2
    obtain ⟨e',h4,h5⟩:=ent_sim hs h.1 k.1
    refine ⟨e' :: l',by simp [h1],λx hx=>?_,⟨h5,h3⟩⟩
    rcases List.mem_cons.1 hx with rfl | hx
    ·rw [h4]; exact hb e List.mem_cons_self
    ·exact h2 x hx
theorem EntsK.sim {M M' : Fz} (hs : Sim M M') {x : SV} {L b : Nat} (h : EntsK M x L b) : EntsK M' x L b:=by
 obtain ⟨l,h1,h2,cs,h3,h4⟩:=h
 obtain ⟨es,h5,h6⟩:=Qnj hs h3
 obtain ⟨l',h7,h8,h9⟩:=Qt1 hs l _ _ h4 h2 h6
 exact ⟨l',by rw [h7,h1],h8,es,h5,h9⟩
end Go.Proofs.YtnnjlnkoomeadaaGreat.Pv
namespace Go.Proofs.YtnnjlnkoomeadaaGreat.Pv
open Go.Ev Go.Ev.Rp
set_option maxRecDepth 100000
set_option maxHeartbeats 4000000
def xor90 (a : Int) : Int:=IntKind.i64.wrap ((BitVec.ofInt IntKind.i64.bits a ^^^ BitVec.ofInt IntKind.i64.bits 90).toNat)
theorem b_xor90 {a : Int} {k : SV → Prop} : binI .xor .i64 a 90 False k = k (.int .i64 (xor90 a)):=b_xor
def Rg (lo hi : Nat) (M : Fz) : Fz:=λj=>if lo ≤ j ∧ j < hi then M j else none
theorem Rg.el {lo hi j : Nat} {M : Fz} {B : List SV} (h : Rg lo hi M j = some B) : lo ≤ j ∧ j < hi ∧ M j = some B:=by
 unfold Rg at h
 split at h
 ·rename_i e; exact ⟨e.1,e.2,h⟩
 ·cases h
theorem Rg.at {lo hi j : Nat} {M : Fz} {B : List SV} (h1 : lo ≤ j) (h2 : j < hi) (h : M j = some B) : Rg lo hi M j = some B:=by unfold Rg; rw [if_pos ⟨h1,h2⟩]; exact h
theorem Rg.sub {lo hi : Nat} {M : Fz} : Sub (Rg lo hi M) M:=λ_ _ h=>(Rg.el h).2.2
structure SpR (lo hi : Nat) (fz : Fz) (mu mu' : St) (n n' : Nat) : Prop where
 le : n ≤ n'
 free : Free fz mu' n'
 out : ∀ j,j < n → ¬ (lo ≤ j ∧ j < hi) → Ev.look mu' j = Ev.look mu j
 ins : ∀ j B,lo ≤ j → j < hi → Ev.look mu j = some B → ∃ B',Ev.look mu' j = some B' ∧ All2 KE B B'
section
variable {lo hi : Nat} {fz : Fz} {mu mu' mu2 : St} {n n' n2 : Nat}
theorem SpR.refl (h : Free fz mu n) : SpR lo hi fz mu mu n n:=⟨Nat.le_refl _,h,λ_ _ _=>rfl,λj B _ _ hB=>⟨B,hB,Qjd _⟩⟩
theorem SpR.trans (h : SpR lo hi fz mu mu' n n') (k : SpR lo hi fz mu' mu2 n' n2) : SpR lo hi fz mu mu2 n n2 :=
 ⟨Nat.le_trans h.le k.le,k.free,λj hj ho=>(k.out j (Nat.lt_of_lt_of_le hj h.le) ho).trans (h.out j hj ho),λj B h1 h2 h3=>by
  obtain ⟨B',h4,h5⟩:=h.ins j B h1 h2 h3
  obtain ⟨B2,h6,h7⟩:=k.ins j B' h1 h2 h4
  exact ⟨B2,h6,Qqz h5 h7⟩⟩
theorem SpR.sim (h : SpR lo hi fz mu mu' n n') (hfz : ∀ j,lo ≤ j → fz j = none) : Sim (Rg lo hi (with' mu fz)) (Rg lo hi (with' mu' fz)):=λj B hj=>by
 obtain ⟨h1,h2,h3⟩:=Rg.el hj
 rw [Qe1 (hfz j h1)] at h3
 obtain ⟨B',h4,h5⟩:=h.ins j B h1 h2 h3
 exact ⟨B',Rg.at h1 h2 (Qdl h4),h5⟩
theorem SpR.put (hf : Free fz mu n) {id i : Nat} {B : List SV} {x y : Int} (h1 : lo ≤ id) (h2 : id < hi) (h : Ev.look mu id = some B) (hx : (B.drop i).take 1 = [.int .i64 x]) : SpR lo hi fz mu (putS mu id (over B i [.int .i64 y])) n n:=by
 refine ⟨Nat.le_refl _,λj=>?_,λj hj ho=>by rw [Qdm,if_neg (λe : id = j=>ho ⟨by omega,by omega⟩)],λj B2 h3 h4 h5=>?_⟩
 ·have:=hf.lt (Qdl (fz:=fz) h)
  rw [Qds h,if_neg (by omega)]; exact hf j
 ·by_cases e : id = j
  ·subst e
   rw [h] at h5
   injection h5 with h5
   subst h5
   exact ⟨_,by rw [Qdm,if_pos rfl,h]; rfl,ke_over hx⟩
  ·exact ⟨B2,by rw [Qdm,if_neg e]; exact h5,Qjd _⟩
theorem SpR.gr (g : Gr n fz mu mu' n n') (hh : hi ≤ n) : SpR lo hi fz mu mu' n n':=⟨g.le,g.free,λj hj _=>g.own j hj,λj B h1 h2 h3=>⟨B,(g.own j (by omega)).trans h3,Qjd _⟩⟩
theorem Qis {B : List SV} {k i m : Nat} {cs : List SV} (h : (B.drop k).take m = cs) (hi : i < cs.length) (hm : i < m) : (B.drop (k + i)).take 1 = [cs[i]]:=by
 subst h
 have h1 : i < (B.drop k).length:=by rw [List.length_take] at hi; omega
 rw [← List.drop_drop,List.drop_eq_getElem_cons h1]
 simp [List.getElem_take]
end
variable {P : Program} (H : Fs P)
include H
theorem Qj0 {lo hi : Nat} {fz : Fz} (hfz : ∀ j,lo ≤ j → fz j = none) {x : SV} {l : List Pt} (hl : l.length ≤ 1152921504606846976) {mu : St} {n : Nat} (hf : Free fz mu n) (hx : PtsR (Rg lo hi (with' mu fz)) x l) {k : KT Prop} {w : WK k}
 (hk : ∀ mu',SpR lo hi fz mu mu' n n → k noVal mu' n) : CPh P n_Qbe [.one x] fz mu n k w:=by
 refine CP_of H.Qbe H.mx (l.length + 1) ?_
 obtain ⟨xl,xs,xk,xm⟩:=hx.len
 rw [i_Qbe,dc_at b_Qbe.eq_1]
 have hkH:=Hide.mk hk
 clear hk
 simp only [↓E1,E2,zA,zB,zC,zD,zE,zF,zG,zH,zI,zJ,zK,zL,zM,zN,reduceIte,zO,zP]
 refine loopI (x:=0) (L:=l.length) (p:=λ_=>true) (λi e mu1 n1=>n1 = n ∧ SpR lo hi fz mu mu1 n n ∧ e 0 0 = .one x ∧ e 0 2 = .one (.int .i64 i)) (λ_ _ _=>False) ?_ ?_ _ _ _ _ _ (by omega) ⟨rfl,SpR.refl hf,by simp [updN,updE,envI],by simp [updN,updE]⟩ ?_ (by rintro ⟨_,_,_,h⟩; cases h)
 ·rintro i e mu1 n1 K hi' ⟨rfl,hS,e0,e2⟩ hy hn
  have hY:=Hide.mk hy
  clear hy hn
  obtain ⟨l',hl',hx'⟩:=Qp6 (hS.sim hfz) hx
  have hi2 : i < l'.length:=by omega
  obtain ⟨id,off,cap,B,rfl,p1,p2,p3,p4⟩:=hx'.elem hi2
  obtain ⟨q1,q2,q3⟩:=Rg.el p1
  have q4:=q3
  rw [Qe1 (hfz id q1)] at q4
  have hw:=Qdt hi' (by omega)
  have hld : (B.drop (off + i * 3 + 2)).take 1 = [I l'[i].value]:=Qis p4 (i:=2) (by simp [ptC]) (by omega)
  have hbd : off + i * 3 + 2 + 1 ≤ B.length:=by omega
  have hil : (i < l'.length) = True:=by simp; omega
  have hS2:=hS.trans (SpR.put (fz:=fz) (lo:=lo) (hi:=hi) hS.free q1 q2 q4 hld (y:=xor90 l'[i].value))
  clear hx hx' p1 p4
  rw [hl'] at e0
  rw [dc_at l_Qbe_0.eq_1]
  simp only [↓E1,E2,zA,zB,zC,zD,zE,zF,zG,zH,zI,zJ,zK,zL,zM,zN,reduceIte,zO,zP,↓b_xor90, *]
  refine hY.out rfl _ _ _ ⟨rfl,hS2,?_,?_⟩
  all_goals simp [updN,updE, *]
 ·rintro e mu1 n1 K ⟨rfl,hS,e0,e2⟩ hY
  have hY':=Hide.mk hY
  clear hY
  rw [dc_at l_Qbe_0.eq_1]
  have hlt : ((l.length : Int) < l.length) = False:=by simp
  have hlt2 : (l.length < l.length) = False:=by simp
  simp only [↓E1,E2,zA,zB,zC,zD,zE,zF,zG,zH,zI,zJ,zK,zL,zM,zN,reduceIte,zO,zP, *]
  refine hY'.out _ _ _ ⟨rfl,hS,?_,?_⟩
  all_goals simp [updN,updE, *]
 ·rintro - e mu1 n1 ⟨rfl,hS,e0,e2⟩
  simp only [↓E1,E2,zA,zB,zC,zD,zE,zF,zG,zH,zI,zJ,zK,zL,zM,zN,reduceIte,zO,zP]
  exact hkH.out _ hS
theorem Qmg {lo hi : Nat} {fz : Fz} (hfz : ∀ j,lo ≤ j → fz j = none) {x : SV} {l : List Int} (hl : l.length ≤ 1152921504606846976) {mu : St} {n : Nat} (hf : Free fz mu n) (hx : IntsR (Rg lo hi (with' mu fz)) x l) {k : KT Prop} {w : WK k}
 (hk : ∀ mu',SpR lo hi fz mu mu' n n → k noVal mu' n) : CPh P n_Qby [.one x] fz mu n k w:=by
 refine CP_of H.Qby H.mx (l.length + 1) ?_
 obtain ⟨xl,xs,xk,xm⟩:=hx.len
 rw [i_Qby,dc_at b_Qby.eq_1]
 have hkH:=Hide.mk hk
 clear hk
 simp only [↓E1,E2,zA,zB,zC,zD,zE,zF,zG,zH,zI,zJ,zK,zL,zM,zN,reduceIte,zO,zP]
 refine loopI (x:=0) (L:=l.length) (p:=λ_=>true) (λi e mu1 n1=>n1 = n ∧ SpR lo hi fz mu mu1 n n ∧ e 0 0 = .one x ∧ e 0 2 = .one (.int .i64 i)) (λ_ _ _=>False) ?_ ?_ _ _ _ _ _ (by omega) ⟨rfl,SpR.refl hf,by simp [updN,updE,envI],by simp [updN,updE]⟩ ?_ (by rintro ⟨_,_,_,h⟩; cases h)
 ·rintro i e mu1 n1 K hi' ⟨rfl,hS,e0,e2⟩ hy hn
  have hY:=Hide.mk hy
  clear hy hn
  obtain ⟨l',hl',hx'⟩:=Qm0 (hS.sim hfz) hx
  have hi2 : i < l'.length:=by omega
  obtain ⟨id,off,cap,B,rfl,p1,p2,p3,p4⟩:=hx'.elem hi2
  obtain ⟨q1,q2,q3⟩:=Rg.el p1
  have q4:=q3
  rw [Qe1 (hfz id q1)] at q4
  have hw:=Qdt hi' (by omega)
  have hil : (i < l'.length) = True:=by simp; omega
  have hS2:=hS.trans (SpR.put (fz:=fz) (lo:=lo) (hi:=hi) hS.free q1 q2 q4 p4 (y:=IntKind.i64.wrap (-9 - l'[i])))
  clear hx hx' p1
  rw [hl'] at e0
  rw [dc_at l_Qby_0.eq_1]
  simp only [↓E1,E2,zA,zB,zC,zD,zE,zF,zG,zH,zI,zJ,zK,zL,zM,zN,reduceIte,zO,zP, *]
  refine hY.out rfl _ _ _ ⟨rfl,hS2,?_,?_⟩
  all_goals simp [updN,updE, *]
 ·rintro e mu1 n1 K ⟨rfl,hS,e0,e2⟩ hY
  have hY':=Hide.mk hY
  clear hY
  rw [dc_at l_Qby_0.eq_1]
  have hlt : ((l.length : Int) < l.length) = False:=by simp
  have hlt2 : (l.length < l.length) = False:=by simp
  simp only [↓E1,E2,zA,zB,zC,zD,zE,zF,zG,zH,zI,zJ,zK,zL,zM,zN,reduceIte,zO,zP, *]
  refine hY'.out _ _ _ ⟨rfl,hS,?_,?_⟩
  all_goals simp [updN,updE, *]
 ·rintro - e mu1 n1 ⟨rfl,hS,e0,e2⟩
  simp only [↓E1,E2,zA,zB,zC,zD,zE,zF,zG,zH,zI,zJ,zK,zL,zM,zN,reduceIte,zO,zP]
  exact hkH.out _ hS
theorem Qlc {lo hi : Nat} {fz : Fz} (hfz : ∀ j,lo ≤ j → fz j = none) (lb : Int) (ls : Tx) {x : SV} {L bd : Nat} (hL : L ≤ 1152921504606846976) (hbd : bd ≤ 1152921504606846976) {mu : St} {n : Nat} (hf : Free fz mu n) (hh : hi ≤ n) (hx : EntsK (Rg lo hi (with' mu fz)) x L bd) {k : KT Prop} {w : WK k}
 (hk : ∀ mu' n',SpR lo hi fz mu mu' n n' → k noVal mu' n') : CPh P n_Qb7 [.ag [I lb,ls.sv,x]] fz mu n k w:=by
 refine CP_of H.Qb7 H.mx (L + 1) ?_
 have hx0:=hx
 obtain ⟨l0,hl0,-,hx1⟩:=hx0
 obtain ⟨xl,xs,xk,xm⟩:=hx1.len
 have gA:=(Gr.refl (lo:=n) hf).cons (Nat.le_refl _) [I lb,ls.sv,x]
 have hA : SpR lo hi fz mu ((n,[I lb,ls.sv,x]) :: mu) n (n + 1):=SpR.gr gA hh
 have b1 : Ev.look ((n,[I lb,ls.sv,x]) :: mu) n = some [I lb,ls.sv,x]:=by rw [Qdw,if_pos rfl]
 rw [i_Qb7,dc_at b_Qb7.eq_1]
 have hkH:=Hide.mk hk
 clear hk
 simp only [↓E1,E2,zA,zB,zC,zD,zE,zF,zG,zH,zI,zJ,zK,zL,zM,zN,reduceIte,zO,zP, *]
 obtain ⟨m1,hm1⟩ : ∃ m,((n,[I lb,ls.sv,x]) :: mu) = m:=⟨_,rfl⟩
 rw [hm1] at hA b1
 try rw [hm1]
 refine loopI (x:=0) (L:=L) (p:=λ_=>true) (λi e mu1 n1=>SpR lo hi fz mu mu1 n n1 ∧ n + 1 ≤ n1 ∧ Ev.look mu1 n = some [I lb,ls.sv,x] ∧ e 0 1 = .one (.optr n 0) ∧ e 0 2 = .one (.int .i64 i)) (λ_ _ _=>False) ?_ ?_ _ _ _ _ _ (by omega) ⟨hA,by omega,b1,by simp [updN,updE,envI],by simp [updN,updE]⟩ ?_ (by rintro ⟨_,_,_,h⟩; cases h)
 ·rintro i e mu1 n1 K hi' ⟨hS,hn1,c1,e1,e2⟩ hy hn
  have hY:=Hide.mk hy
  clear hy hn
  obtain ⟨l',hl',hb',hx'⟩:=hx.sim (hS.sim hfz)
  have hi2 : i < l'.length:=by omega
  have hx'':=hx'
  obtain ⟨id,off,cap,B,b,rfl,p1,p2,p3,p4,p5⟩:=hx'.elem hi2
  obtain ⟨q1,q2,q3⟩:=Rg.el p1
  have q4:=q3
  rw [Qe1 (hfz id q1)] at q4
  have hw:=Qdt hi' (by omega)
  have hld : (B.drop (off + i * 5 + 0)).take 1 = [I l'[i].view]:=Qis p4 (i:=0) (by simp [entC]) (by omega)
  have hbd0 : off + i * 5 + 0 + 1 ≤ B.length:=by omega
  have hil : (i < l'.length) = True:=by simp; omega
  have hS2:=SpR.put (fz:=fz) (lo:=lo) (hi:=hi) hS.free q1 q2 q4 hld (y:=xor90 l'[i].view)
  have hne : (id = n) = False:=by simp; omega
  have c2:=(show ∀ B' : List SV,Ev.look (putS mu1 id B') n = Ev.look mu1 n from λ_=>by rw [Qdm,if_neg (by omega)]) (over B (off + i * 5 + 0) [I (xor90 l'[i].view)]) |>.trans c1
  have wc:=Qdl (fz:=fz) c1
  have wc2:=Qdl (fz:=fz) c2
  have hSS:=hS.trans hS2
  obtain ⟨l2,hl2,hb2,hx2⟩:=hx.sim (hSS.sim hfz)
  have hi3 : i < l2.length:=by omega
  obtain ⟨id2,off2,cap2,B2,bb,hq,r1,r2,r3,r4,r5⟩:=hx2.elem hi3
  have hbl:=hb2 _ (List.getElem_mem hi3)
  injection hq with hq1 hq2 hq3 hq4
  subst hq1 hq2
  obtain ⟨-,-,s3⟩:=Rg.el r1
  have hbd4 : off + i * 5 + 4 + 1 ≤ B2.length:=by omega
  have hld4 : (B2.drop (off + i * 5 + 4)).take 1 = [bb]:=Qis r4 (i:=4) (by simp [entC]) (by omega)
  clear p1 r1
  rw [dc_at l_Qb7_0.eq_1]
  simp only [↓E1,E2,zA,zB,zC,zD,zE,zF,zG,zH,zI,zJ,zK,zL,zM,zN,reduceIte,zO,zP,↓b_xor90, *]
  refine Qj0 H hfz (by omega) hSS.free r5 ?_
  intro mu' hS3
  have hS4:=hSS.trans hS3
  have c3:=(hS3.out n (by omega) (by omega)).trans c2
  simp only [↓E1,E2,zA,zB,zC,zD,zE,zF,zG,zH,zI,zJ,zK,zL,zM,zN,reduceIte,zO,zP, *]
  refine hY.out rfl _ _ _ ⟨hS4,hn1,c3,?_,?_⟩
  all_goals simp [updN,updE, *]
 ·rintro e mu1 n1 K ⟨hS,hn1,c1,e1,e2⟩ hY
  have hY':=Hide.mk hY
  clear hY
  have wc:=Qdl (fz:=fz) c1
  rw [dc_at l_Qb7_0.eq_1]
  have hlt : ((L : Int) < L) = False:=by simp
  have hlt2 : (L < L) = False:=by simp
  simp only [↓E1,E2,zA,zB,zC,zD,zE,zF,zG,zH,zI,zJ,zK,zL,zM,zN,reduceIte,zO,zP, *]
  refine hY'.out _ _ _ ⟨hS,hn1,c1,?_,?_⟩
  all_goals simp [updN,updE, *]
 ·rintro - e mu1 n1 ⟨hS,hn1,c1,e1,e2⟩
  simp only [↓E1,E2,zA,zB,zC,zD,zE,zF,zG,zH,zI,zJ,zK,zL,zM,zN,reduceIte,zO,zP]
  exact hkH.out _ _ hS
end Go.Proofs.YtnnjlnkoomeadaaGreat.Pv
namespace Go.Proofs.YtnnjlnkoomeadaaGreat.Pv
open Go.Ev Go.Ev.Rp
set_option maxRecDepth 100000
set_option maxHeartbeats 4000000
theorem ke_tx {t : Tx} {a : SV} (h : KE t.sv a) : a = t.sv:=by
 rcases h with h | ⟨x,y,h,_⟩
 ·exact h.symm
 ·simp [Tx.sv] at h
def Qig (bd : Nat) (l : List Ent) : Prop:=l.length ≤ bd ∧ ∀ e ∈ l,e.batch.length ≤ bd
def MsgsK (M : Fz) (x : SV) (L bd : Nat) : Prop:=∃ l : List Msg,l.length = L ∧ (∀ m ∈ l,m.batch.length ≤ bd ∧ Qig bd m.log.ents) ∧ MsgsR M x l
def DvsK (M : Fz) (x : SV) (L bd : Nat) : Prop:=∃ l : List Dv,l.length = L ∧ (∀ m ∈ l,Qig bd m.log.ents) ∧ DvsR M x l
theorem Qqh {M M' : Fz} (hs : Sim M M') {bd : Nat} {x : SV} {l : List Ent} (ho : Qig bd l) (h : EntsR M x l) : ∃ l',l'.length = l.length ∧ Qig bd l' ∧ EntsR M' x l':=by
 obtain ⟨l',h1,h2,h3⟩:=EntsK.sim hs (x:=x) (L:=l.length) (b:=bd) ⟨l,rfl,ho.2,h⟩
 exact ⟨l',h1,⟨by rw [h1]; exact ho.1,h2⟩,h3⟩
theorem Qtm {M : Fz} {x a : SV} {l : List Ent} (h : EntsR M x l) (k : KE x a) : a = x:=by
 obtain ⟨cs,h1,-⟩:=h
 exact Quv h1 k
theorem dv_sim {M M' : Fz} (hs : Sim M M') {bd : Nat} {e : Dv} {c d : List SV} (ho : Qig bd e.log.ents) (h : DvR M c e) (k : All2 KE c d) : ∃ e' : Dv,Qig bd e'.log.ents ∧ DvR M' d e':=by
 obtain ⟨b,rfl,h4⟩:=h
 obtain ⟨p',h5,h5',h6⟩:=Qqh hs ho h4
 unfold dvC at k
 obtain ⟨a1,d1,rfl,k1,k⟩:=Qd9 k
 obtain ⟨a2,d2,rfl,k2,k⟩:=Qd9 k
 obtain ⟨a3,d3,rfl,k3,k⟩:=Qd9 k
 obtain ⟨a4,d4,rfl,k4,k⟩:=Qd9 k
 obtain ⟨a5,d5,rfl,k5,k⟩:=Qd9 k
 obtain ⟨a6,d6,rfl,k6,k⟩:=Qd9 k
 obtain rfl:=Qtl k
 obtain ⟨v1,rfl⟩:=Qe0 k1
 obtain ⟨v2,rfl⟩:=Qe0 k2
 obtain ⟨v3,rfl⟩:=Qe0 k3
 obtain ⟨v4,rfl⟩:=Qe0 k4
 obtain rfl:=ke_tx k5
 obtain rfl:=Qtm h4 k6
 exact ⟨⟨v1,v2,v3,⟨v4,e.log.snap,p'⟩⟩,h5',_,rfl,h6⟩
theorem msg_sim {M M' : Fz} (hs : Sim M M') {bd : Nat} {e : Msg} {c d : List SV} (hb : e.batch.length ≤ bd) (ho : Qig bd e.log.ents) (h : MsgR M c e) (k : All2 KE c d) : ∃ e' : Msg,(e'.batch.length ≤ bd ∧ Qig bd e'.log.ents) ∧ MsgR M' d e':=by
 obtain ⟨xb,xe,rfl,h3,h4⟩:=h
 obtain ⟨p',h5,h5',h6⟩:=Qqh hs ho h4
 obtain ⟨q',h7,h8⟩:=Qp6 hs h3
 unfold msgC at k
 obtain ⟨a1,d1,rfl,k1,k⟩:=Qd9 k
 obtain ⟨a2,d2,rfl,k2,k⟩:=Qd9 k
 obtain ⟨a3,d3,rfl,k3,k⟩:=Qd9 k
 obtain ⟨a4,d4,rfl,k4,k⟩:=Qd9 k
 obtain ⟨a5,d5,rfl,k5,k⟩:=Qd9 k
 obtain ⟨a6,d6,rfl,k6,k⟩:=Qd9 k
 obtain ⟨a7,d7,rfl,k7,k⟩:=Qd9 k
 obtain ⟨a8,d8,rfl,k8,k⟩:=Qd9 k
 obtain ⟨a9,d9,rfl,k9,k⟩:=Qd9 k
 obtain ⟨a10,d10,rfl,k10,k⟩:=Qd9 k
 obtain ⟨a11,d11,rfl,k11,k⟩:=Qd9 k
 obtain ⟨a12,d12,rfl,k12,k⟩:=Qd9 k
 obtain ⟨a13,d13,rfl,k13,k⟩:=Qd9 k
 obtain ⟨a14,d14,rfl,k14,k⟩:=Qd9 k
 obtain ⟨a15,d15,rfl,k15,k⟩:=Qd9 k
 obtain ⟨a16,d16,rfl,k16,k⟩:=Qd9 k
 obtain ⟨a17,d17,rfl,k17,k⟩:=Qd9 k
 obtain ⟨a18,d18,rfl,k18,k⟩:=Qd9 k
 obtain ⟨a19,d19,rfl,k19,k⟩:=Qd9 k
 obtain ⟨a20,d20,rfl,k20,k⟩:=Qd9 k
 obtain rfl:=Qtl k
 obtain ⟨v1,rfl⟩:=Qe0 k1
 obtain ⟨v2,rfl⟩:=Qe0 k2
 obtain ⟨v3,rfl⟩:=Qe0 k3
 obtain ⟨v4,rfl⟩:=Qe0 k4
 obtain ⟨v5,rfl⟩:=Qe0 k5
 obtain ⟨v6,rfl⟩:=Qe0 k6
 obtain ⟨v7,rfl⟩:=Qe0 k7
 obtain ⟨v8,rfl⟩:=Qe0 k8
 obtain ⟨v9,rfl⟩:=Qe0 k9
 obtain ⟨v10,rfl⟩:=Qe0 k10
 obtain ⟨v11,rfl⟩:=Qe0 k11
 obtain ⟨v12,rfl⟩:=Qe0 k12
 obtain ⟨v13,rfl⟩:=Qe0 k13
 obtain ⟨v14,rfl⟩:=Qe0 k14
 obtain rfl:=ke_tx k15
 obtain rfl : a16 = _:=Quv h3 k16
 obtain ⟨v17,rfl⟩:=Qe0 k17
 obtain rfl:=ke_tx k18
 obtain rfl:=Qtm h4 k19
 obtain rfl:=ke_tx k20
 exact ⟨⟨v1,v2,v3,v4,v5,v6,v7,v8,v9,v10,v11,v12,v13,v14,e.series,q',⟨v17,e.log.snap,p'⟩,e.text⟩,⟨by rw [h7]; exact hb,h5'⟩,_,_,rfl,h8,h6⟩
theorem Qql {A : Type} {R R' : List SV → A → Prop} {Q : A → Prop} (hr : ∀ e c d, Q e → R c e → All2 KE c d → ∃ e', Q e' ∧ R' d e') (l : List A) : ∀ (cs es : List (List SV)), All2 R cs l → (∀ e ∈ l, Q e) → All2 (All2 KE) cs es → ∃ l' : List A, l'.length = l.length ∧ (∀ e ∈ l', Q e) ∧ All2 R' es l' := by
 induction l with
 | nil =>
  intro cs es h hb k
  cases cs with
  | cons _ _=>exact h.elim
  | nil =>
   cases es with
   | cons _ _=>exact k.elim
   | nil=>exact ⟨[],rfl,λe he=>(List.not_mem_nil he).elim,trivial⟩
 | cons e l ih =>
  intro cs es h hb k
  cases cs with
  | nil=>exact h.elim
  | cons c cs =>
   cases es with
   | nil=>exact k.elim
   | cons d es =>
    obtain ⟨l',h1,h2,h3⟩:=ih cs es h.2 (λe he=>hb e (List.mem_cons_of_mem _ he)) k.2
    obtain ⟨e',h4,h5⟩:=hr e c d (hb e List.mem_cons_self) h.1 k.1
    refine ⟨e' :: l',by simp [h1],λx hx=>?_,⟨h5,h3⟩⟩
    rcases List.mem_cons.1 hx with rfl | hx
    ·exact h4
    ·exact h2 x hx
theorem DvsK.sim {M M' : Fz} (hs : Sim M M') {x : SV} {L b : Nat} (h : DvsK M x L b) : DvsK M' x L b:=by
 obtain ⟨l,h1,h2,cs,h3,h4⟩:=h
 obtain ⟨es,h5,h6⟩:=Qnj hs h3
 obtain ⟨l',h7,h8,h9⟩:=Qql (R':=DvR M') (Q:=λe : Dv=>Qig b e.log.ents) (λe c d q r k=>dv_sim hs q r k) l _ _ h4 h2 h6
 exact ⟨l',by rw [h7,h1],h8,es,h5,h9⟩
theorem MsgsK.sim {M M' : Fz} (hs : Sim M M') {x : SV} {L b : Nat} (h : MsgsK M x L b) : MsgsK M' x L b:=by
 obtain ⟨l,h1,h2,cs,h3,h4⟩:=h
 obtain ⟨es,h5,h6⟩:=Qnj hs h3
 obtain ⟨l',h7,h8,h9⟩:=Qql (R':=MsgR M') (Q:=λe : Msg=>e.batch.length ≤ b ∧ Qig b e.log.ents) (λe c d q r k=>msg_sim hs q.1 q.2 r k) l _ _ h4 h2 h6
 exact ⟨l',by rw [h7,h1],h8,es,h5,h9⟩
end Go.Proofs.YtnnjlnkoomeadaaGreat.Pv
namespace Go.Proofs.YtnnjlnkoomeadaaGreat.Pv
open Go.Ev Go.Ev.Rp
set_option maxRecDepth 100000
set_option maxHeartbeats 4000000
theorem Qho {M : Fz} {x : SV} {l : List Msg} (h : MsgsR M x l) {i : Nat} (hi : i < l.length) : ∃ id off cap B xb xe,x = .osl id off l.length cap 20 ∧ M id = some B ∧ mkd B = false ∧ off + i * 20 + 20 ≤ B.length ∧ (B.drop (off + i * 20)).take 20 = msgC l[i] xb xe ∧ PtsR M xb l[i].batch ∧ EntsR M xe l[i].log.ents:=by
 obtain ⟨cs,h1,h2⟩:=h
 have hl:=h2.length
 obtain ⟨id,off,cap,B,g1,g2,g3,g4,g5⟩:=h1.elem (i:=i) (by omega)
 obtain ⟨xb,xe,e1,e2,e3⟩:=h2.at (i:=i) (by omega) hi
 exact ⟨id,off,cap,B,xb,xe,by rw [← hl]; exact g1,g2,g3,g4,by rw [g5,e1],e2,e3⟩
theorem Qhh {M : Fz} {x : SV} {l : List Msg} (h : MsgsR M x l) : (∀ k,onLen x k = k l.length) ∧ x.isStr = false ∧ x.known = true ∧ x.isMk = false:=by
 obtain ⟨cs,h1,h2⟩:=h
 exact ⟨λk=>by have:=(Sl.len h1 (k:=k)).1; rw [h2.length] at this; exact this,(Sl.len h1 (k:=λ_=>True)).2,(Sl.known h1).1,(Sl.known h1).2⟩
theorem Qom {B : List SV} {k i w m : Nat} {cs : List SV} (h : (B.drop k).take m = cs) (hm : i + w ≤ m) : (B.drop (k + i)).take w = (cs.drop i).take w:=by
 subst h
 rw [List.drop_take,List.drop_drop,List.take_take]
 congr 1
 omega
variable {P : Program} (H : Fs P)
include H
theorem Qie {lo hi : Nat} {fz : Fz} (hfz : ∀ j,lo ≤ j → fz j = none) {x : SV} {L bd : Nat} (hL : L ≤ 1152921504606846976) (hbd : bd ≤ 1152921504606846976) {mu : St} {n : Nat} (hf : Free fz mu n) (hh : hi ≤ n) (hx : MsgsK (Rg lo hi (with' mu fz)) x L bd) {k : KT Prop} {w : WK k}
 (hk : ∀ mu' n',SpR lo hi fz mu mu' n n' → k noVal mu' n') : CPh P n_Qau [.one x] fz mu n k w:=by
 refine CP_of H.Qau H.mx (L + 1) ?_
 have hx0:=hx
 obtain ⟨l0,hl0,-,hx1⟩:=hx0
 obtain ⟨xl,xs,xk,xm⟩:=Qhh hx1
 rw [i_Qau,dc_at b_Qau.eq_1]
 have hkH:=Hide.mk hk
 clear hk
 simp only [↓E1,E2,zA,zB,zC,zD,zE,zF,zG,zH,zI,zJ,zK,zL,zM,zN,reduceIte,zO,zP, *]
 refine loopI (x:=0) (L:=L) (p:=λ_=>true) (λi e mu1 n1=>SpR lo hi fz mu mu1 n n1 ∧ e 0 0 = .one x ∧ e 0 2 = .one (.int .i64 i)) (λ_ _ _=>False) ?_ ?_ _ _ _ _ _ (by omega) ⟨SpR.refl hf,by simp [updN,updE,envI],by simp [updN,updE]⟩ ?_ (by rintro ⟨_,_,_,h⟩; cases h)
 ·rintro i e mu1 n1 K hi' ⟨hS,e1,e2⟩ hy hn
  have hY:=Hide.mk hy
  clear hy hn
  have hle:=hS.le
  obtain ⟨l',hl',hb',hx'⟩:=hx.sim (hS.sim hfz)
  have hi2 : i < l'.length:=by omega
  obtain ⟨id,off,cap,B,xb,xe,rfl,p1,p2,p3,p4,p5,p6⟩:=Qho hx' hi2
  obtain ⟨q1,q2,q3⟩:=Rg.el p1
  have hw:=Qdt hi' (by omega)
  have hld : (B.drop (off + i * 20 + 15)).take 1 = [xb]:=Qis p4 (i:=15) (by simp [msgC]) (by omega)
  have hbd0 : off + i * 20 + 15 + 1 ≤ B.length:=by omega
  have hil : (i < l'.length) = True:=by simp; omega
  have hbl:=(hb' _ (List.getElem_mem hi2)).1
  clear p1
  rw [dc_at l_Qau_0.eq_1]
  simp only [↓E1,E2,zA,zB,zC,zD,zE,zF,zG,zH,zI,zJ,zK,zL,zM,zN,reduceIte,zO,zP, *]
  refine Qj0 H hfz (by omega) hS.free p5 ?_
  intro mu2 hS2
  have hS3:=hS.trans hS2
  obtain ⟨l2,hl2,hb2,hx2⟩:=hx.sim (hS3.sim hfz)
  have hi3 : i < l2.length:=by omega
  obtain ⟨id2,off2,cap2,B2,xb2,xe2,hq,r1,r2,r3,r4,r5,r6⟩:=Qho hx2 hi3
  obtain ⟨hb3,hb4,hb5⟩:=hb2 _ (List.getElem_mem hi3)
  injection hq with hq1 hq2 hq3 hq4
  subst hq1 hq2
  obtain ⟨-,-,s3⟩:=Rg.el r1
  have hbd1 : off + i * 20 + 16 + 3 ≤ B2.length:=by omega
  have hld1 : (B2.drop (off + i * 20 + 16)).take 3 = [I l2[i].log.base,l2[i].log.snap.sv,xe2]:=Qom r4 (i:=16) (w:=3) (by omega)
  clear r1
  simp only [↓E1,E2,zA,zB,zC,zD,zE,zF,zG,zH,zI,zJ,zK,zL,zM,zN,reduceIte,zO,zP, *]
  refine Qlc H hfz _ _ (L:=l2[i].log.ents.length) (bd:=bd) (by omega) hbd hS3.free (by omega) ⟨_,rfl,hb5,r6⟩ ?_
  intro mu3 n3 hS4
  have hS5:=hS3.trans hS4
  obtain ⟨l3,hl3,hb3',hx3⟩:=hx.sim (hS5.sim hfz)
  have hi4 : i < l3.length:=by omega
  obtain ⟨id3,off3,cap3,B3,xb3,xe3,hq',t1,t2,t3,t4,t5,t6⟩:=Qho hx3 hi4
  injection hq' with hq1 hq2 hq3' hq4'
  subst hq1 hq2
  obtain ⟨-,-,u3⟩:=Rg.el t1
  have u4:=u3
  rw [Qe1 (hfz id q1)] at u4
  have hbd2 : off + i * 20 + 3 + 1 ≤ B3.length:=by omega
  have hld2 : (B3.drop (off + i * 20 + 3)).take 1 = [I l3[i].view]:=Qis t4 (i:=3) (by simp [msgC]) (by omega)
  have hS6:=hS5.trans (SpR.put (fz:=fz) (lo:=lo) (hi:=hi) hS5.free q1 q2 u4 hld2 (y:=xor90 l3[i].view))
  clear t1
  simp only [↓E1,E2,zA,zB,zC,zD,zE,zF,zG,zH,zI,zJ,zK,zL,zM,zN,reduceIte,zO,zP,↓b_xor90, *]
  refine hY.out rfl _ _ _ ⟨hS6,?_,?_⟩
  all_goals simp [updN,updE, *]
 ·rintro e mu1 n1 K ⟨hS,e1,e2⟩ hY
  have hY':=Hide.mk hY
  clear hY
  rw [dc_at l_Qau_0.eq_1]
  have hlt : ((L : Int) < L) = False:=by simp
  have hlt2 : (L < L) = False:=by simp
  simp only [↓E1,E2,zA,zB,zC,zD,zE,zF,zG,zH,zI,zJ,zK,zL,zM,zN,reduceIte,zO,zP, *]
  refine hY'.out _ _ _ ⟨hS,?_,?_⟩
  all_goals simp [updN,updE, *]
 ·rintro - e mu1 n1 ⟨hS,e1,e2⟩
  simp only [↓E1,E2,zA,zB,zC,zD,zE,zF,zG,zH,zI,zJ,zK,zL,zM,zN,reduceIte,zO,zP]
  exact hkH.out _ _ hS
end Go.Proofs.YtnnjlnkoomeadaaGreat.Pv
namespace Go.Proofs.YtnnjlnkoomeadaaGreat.Pv
open Go.Ev Go.Ev.Rp
set_option maxRecDepth 100000
set_option maxHeartbeats 4000000
variable {P : Program} (H : Fs P)
include H
theorem Qhc {lo hi : Nat} {fz : Fz} (hfz : ∀ j,lo ≤ j → fz j = none) (r : Rep) {xe xa xs xd : SV} {Le Ld bd : Nat} {la ls : List Int} (hLe : Le ≤ 1152921504606846976) (hla : la.length ≤ 1152921504606846976) (hls : ls.length ≤ 1152921504606846976) (hLd : Ld ≤ 1152921504606846976) (hbd : bd ≤ 1152921504606846976) {mu : St} {n : Nat} (hf : Free fz mu n) (hh : hi ≤ n) (he : EntsK (Rg lo hi (with' mu fz)) xe Le bd) (ha : IntsR (Rg lo hi (with' mu fz)) xa la) (hs : IntsR (Rg lo hi (with' mu fz)) xs ls) (hd : DvsK (Rg lo hi (with' mu fz)) xd Ld bd) {k : KT Prop} {w : WK k}
 (hk : ∀ mu' n',SpR lo hi fz mu mu' n n' → k noVal mu' n') : CPh P n_Qa0 [.ag (repC r xe xa xs xd)] fz mu n k w:=by
 refine CP_of H.Qa0 H.mx (Ld + 1) ?_
 have hd0:=hd
 obtain ⟨l0,hl0,-,hx1⟩:=hd0
 obtain ⟨dl,ds,dk,dm⟩:=hx1.len
 obtain ⟨al,asq',ak,am⟩:=ha.len
 obtain ⟨sl,ss,sk,sm⟩:=hs.len
 have he0:=he
 obtain ⟨l1,hl1,-,hx2⟩:=he0
 obtain ⟨el,es,ek,em⟩:=hx2.len
 have gA:=(Gr.refl (lo:=n) hf).cons (Nat.le_refl _) (repC r xe xa xs xd)
 have hA : SpR lo hi fz mu ((n,repC r xe xa xs xd) :: mu) n (n + 1):=SpR.gr gA hh
 have b1 : Ev.look ((n,repC r xe xa xs xd) :: mu) n = some (repC r xe xa xs xd):=by rw [Qdw,if_pos rfl]
 unfold repC at hA b1
 rw [i_Qa0,dc_at b_Qa0.eq_1]
 have hkH:=Hide.mk hk
 clear hk
 unfold repC
 simp only [↓E1,E2,zA,zB,zC,zD,zE,zF,zG,zH,zI,zJ,zK,zL,zM,zN,reduceIte,zO,zP, *]
 generalize hm1 : ((n,_) :: mu : St) = m1 at hA b1 ⊢
 have wb1:=Qdl (fz:=fz) b1
 refine Qlc H hfz _ _ (L:=Le) (bd:=bd) hLe hbd hA.free (by omega) (he.sim (hA.sim hfz)) ?_
 intro mu2 n2 hS2
 have hS3:=hA.trans hS2
 have b2:=(hS2.out n (by omega) (by omega)).trans b1
 have wb2:=Qdl (fz:=fz) b2
 obtain ⟨la',hla',ha'⟩:=Qm0 (hS3.sim hfz) ha
 simp only [↓E1,E2,zA,zB,zC,zD,zE,zF,zG,zH,zI,zJ,zK,zL,zM,zN,reduceIte,zO,zP, *]
 refine Qmg H hfz (l:=la') (by omega) hS3.free ha' ?_
 intro mu3 hS4
 have hS5:=hS3.trans hS4
 have h2:=hS2.le
 have b3:=(hS4.out n (by omega) (by omega)).trans b2
 have wb3:=Qdl (fz:=fz) b3
 obtain ⟨ls',hls',hs'⟩:=Qm0 (hS5.sim hfz) hs
 simp only [↓E1,E2,zA,zB,zC,zD,zE,zF,zG,zH,zI,zJ,zK,zL,zM,zN,reduceIte,zO,zP, *]
 refine Qmg H hfz (l:=ls') (by omega) hS5.free hs' ?_
 intro mu4 hS6
 have hS7:=hS5.trans hS6
 have b4:=(hS6.out n (by omega) (by omega)).trans b3
 simp only [↓E1,E2,zA,zB,zC,zD,zE,zF,zG,zH,zI,zJ,zK,zL,zM,zN,reduceIte,zO,zP, *]
 refine loopI (x:=0) (L:=Ld) (p:=λ_=>true) (λi e mu1 n1=>SpR lo hi fz mu mu1 n n1 ∧ n + 1 ≤ n1 ∧ Ev.look mu1 n = some [I r.me,I r.nodes,I r.view,I r.normal,I r.status,I r.commit,.bool r.sent,I r.log.base,r.log.snap.sv,xe,xa,xs,xd] ∧ e 0 1 = .one (.optr n 0) ∧ e 0 2 = .one (.int .i64 i)) (λ_ _ _=>False) ?_ ?_ _ _ _ _ _ (by omega) ⟨hS7,by omega,b4,by simp [updN,updE,envI],by simp [updN,updE]⟩ ?_ (by rintro ⟨_,_,_,h⟩; cases h)
 ·rintro i e mu1 n1 K hi' ⟨hS,hn1,c1,e1,e2⟩ hy hn
  have hY:=Hide.mk hy
  clear hy hn
  obtain ⟨l',hl',hb',hx'⟩:=hd.sim (hS.sim hfz)
  have hi2 : i < l'.length:=by omega
  obtain ⟨id,off,cap,B,b,rfl,p1,p2,p3,p4,p5⟩:=hx'.elem hi2
  obtain ⟨q1,q2,q3⟩:=Rg.el p1
  obtain ⟨hb1,hb2⟩:=hb' _ (List.getElem_mem hi2)
  have hw:=Qdt hi' (by omega)
  have hld : (B.drop (off + i * 6 + 3)).take 3 = [I l'[i].log.base,l'[i].log.snap.sv,b]:=Qom p4 (i:=3) (w:=3) (by omega)
  have hbd0 : off + i * 6 + 3 + 3 ≤ B.length:=by omega
  have hil : (i < l'.length) = True:=by simp; omega
  have wc:=Qdl (fz:=fz) c1
  clear p1
  rw [dc_at l_Qa0_0.eq_1]
  simp only [↓E1,E2,zA,zB,zC,zD,zE,zF,zG,zH,zI,zJ,zK,zL,zM,zN,reduceIte,zO,zP, *]
  refine Qlc H hfz _ _ (L:=l'[i].log.ents.length) (bd:=bd) (by omega) hbd hS.free (by omega) ⟨_,rfl,hb2,p5⟩ ?_
  intro mu5 n5 hS8
  have hS9:=hS.trans hS8
  have h8:=hS8.le
  have c2:=(hS8.out n (by omega) (by omega)).trans c1
  simp only [↓E1,E2,zA,zB,zC,zD,zE,zF,zG,zH,zI,zJ,zK,zL,zM,zN,reduceIte,zO,zP, *]
  refine hY.out rfl _ _ _ ⟨hS9,by omega,c2,?_,?_⟩
  all_goals simp [updN,updE, *]
 ·rintro e mu1 n1 K ⟨hS,hn1,c1,e1,e2⟩ hY
  have hY':=Hide.mk hY
  clear hY
  have wc:=Qdl (fz:=fz) c1
  rw [dc_at l_Qa0_0.eq_1]
  have hlt : ((Ld : Int) < Ld) = False:=by simp
  have hlt2 : (Ld < Ld) = False:=by simp
  simp only [↓E1,E2,zA,zB,zC,zD,zE,zF,zG,zH,zI,zJ,zK,zL,zM,zN,reduceIte,zO,zP, *]
  refine hY'.out _ _ _ ⟨hS,hn1,c1,?_,?_⟩
  all_goals simp [updN,updE, *]
 ·rintro - e mu1 n1 ⟨hS,hn1,c1,e1,e2⟩
  simp only [↓E1,E2,zA,zB,zC,zD,zE,zF,zG,zH,zI,zJ,zK,zL,zM,zN,reduceIte,zO,zP]
  exact hkH.out _ _ hS
end Go.Proofs.YtnnjlnkoomeadaaGreat.Pv
namespace Go.Proofs.YtnnjlnkoomeadaaGreat.Pv
open Go.Ev Go.Ev.Rp
set_option maxRecDepth 100000
set_option maxHeartbeats 4000000
variable {P : Program} (H : Fs P)
include H
theorem ref16_Same (r : Rep) (xe xa xs xd ye ya ys yd : SV) (hz : RepSz r) : BoolC P n_Qc4 [.ag (repC r xe xa xs xd),.ag (repC r ye ya ys yd)] (λM=>RepS M r xe xa xs xd ∧ RepS M r ye ya ys yd) true:=boolC H.mx H.Qc4 (r.acks.length + r.starts.length + r.dos.length + 1) λfz mu n k hfr g0 hx h=>by
 obtain ⟨⟨s1,s2,s3,s4⟩,t1,t2,t3,t4⟩:=hx
 obtain ⟨-,-,xek,xem⟩:=s1.len
 obtain ⟨xal,xas,xak,xam⟩:=s2.len
 obtain ⟨xsl,xss,xsk,xsm⟩:=s3.len
 obtain ⟨xdl,xds,xdk,xdm⟩:=s4.len
 obtain ⟨-,-,yek,yem⟩:=t1.len
 obtain ⟨yal,yas,yak,yam⟩:=t2.len
 obtain ⟨ysl,yss,ysk,ysm⟩:=t3.len
 obtain ⟨ydl,yds,ydk,ydm⟩:=t4.len
 have hsn : (true != (r.sent == r.sent)) = false:=by simp
 have hz1:=hz.acks
 have hz2:=hz.starts
 have hz3:=hz.dos
 have hL:=ref4_SameLog H r.log xe ye hz.log
 unfold lgC at hL
 rw [i_Qc4,dc_at b_Qc4.eq_1]
 unfold repC
 have gB : Gr n fz mu ((n + 1,repC r ye ya ys yd) :: (n,repC r xe xa xs xd) :: mu) n (n + 1 + 1):=gr2 hfr
 have b1 : Ev.look ((n + 1,repC r ye ya ys yd) :: (n,repC r xe xa xs xd) :: mu) n = some (repC r xe xa xs xd):=by rw [Qdw,if_neg (by omega),Qdw,if_pos rfl]
 have b2 : Ev.look ((n + 1,repC r ye ya ys yd) :: (n,repC r xe xa xs xd) :: mu) (n + 1) = some (repC r ye ya ys yd):=by rw [Qdw,if_pos rfl]
 obtain ⟨m0,hm0⟩ : ∃ m0 : St,((n + 1,repC r ye ya ys yd) :: (n,repC r xe xa xs xd) :: mu) = m0:=⟨_,rfl⟩
 rw [hm0] at gB b1 b2
 unfold repC at hm0 b1 b2
 have w1:=Qdl (fz:=fz) b1
 have w2:=Qdl (fz:=fz) b2
 simp only [↓E1,E2,zA,zB,zC,zD,zE,zF,zG,zH,zI,zJ,zK,zL,zM,zN,reduceIte,zO,zP, *]
 try rw [hm0]
 clear hm0
 try simp only [↓E1,E2,zA,zB,zC,zD,zE,zF,zG,zH,zI,zJ,zK,zL,zM,zN,reduceIte,zO,zP, *]
 refine hL.c1 gB.free ⟨EntsR.mono (gB.sub hfr (Nat.le_refl _)) s1,EntsR.mono (gB.sub hfr (Nat.le_refl _)) t1⟩ ?_
 rintro v m1 n1 g1 rfl
 have gg:=gB.trans (g1.weaken (by omega))
 have l1:=g1.le
 have c1:=(g1.own n (by omega)).trans b1
 have c2:=(g1.own (n + 1) (by omega)).trans b2
 clear w1 w2 b1 b2 g1 gB hL
 have w1:=Qdl (fz:=fz) c1
 have w2:=Qdl (fz:=fz) c2
 simp only [↓E1,E2,zA,zB,zC,zD,zE,zF,zG,zH,zI,zJ,zK,zL,zM,zN,reduceIte,zO,zP, *]
 have h':=Hide.mk h
 clear h
 refine loopI (x:=0) (L:=r.acks.length) (p:=λ_=>true) (λi e mu' n'=>Gr n fz mu mu' n n' ∧ n + 1 + 1 ≤ n' ∧ Ev.look mu' n = some [I r.me,I r.nodes,I r.view,I r.normal,I r.status,I r.commit,.bool r.sent,I r.log.base,r.log.snap.sv,xe,xa,xs,xd] ∧ Ev.look mu' (n + 1) = some [I r.me,I r.nodes,I r.view,I r.normal,I r.status,I r.commit,.bool r.sent,I r.log.base,r.log.snap.sv,ye,ya,ys,yd] ∧ e 0 2 = .one (.optr n 0) ∧ e 0 3 = .one (.optr (n + 1) 0) ∧ e 0 5 = .one (.int .i64 i)) (λ_ _ _=>False) ?_ ?_ _ _ _ _ _ (by omega) ⟨gg,by omega,c1,c2,by simp [updN,updE,envI],by simp [updN,updE,envI],by simp [updN,updE,envI]⟩ ?_ (by rintro ⟨_,_,_,h⟩; cases h)
 ·rintro i e mu4 n4 K hi ⟨g4,a0,a1,a2,e2,e3,e5⟩ hY hn
  have u4:=g4.sub hfr (Nat.le_refl _)
  have hw:=Qdt hi (by omega)
  obtain ⟨id,off,cap,B,rfl,p1,p2,p3,p4⟩:=(IntsR.mono u4 s2).elem hi
  obtain ⟨id2,off2,cap2,B3,rfl,q1,q2,q3,q4⟩:=(IntsR.mono u4 t2).elem hi
  clear w1 w2 c1 c2
  have w1:=Qdl (fz:=fz) a1
  have w2:=Qdl (fz:=fz) a2
  rw [dc_at l_Qc4_0.eq_1]
  simp only [↓E1,E2,zA,zB,zC,zD,zE,zF,zG,zH,zI,zJ,zK,zL,zM,zN,reduceIte,zO,zP, *]
  try exact hY rfl _ _ _ ⟨g4,a0,a1,a2,by simp [updN,updE, *],by simp [updN,updE, *],by simp [updN,updE, *]⟩
 ·rintro e mu4 n4 K ⟨g4,a0,a1,a2,e2,e3,e5⟩ hY
  clear w1 w2 c1 c2
  have hlt : (r.acks.length < r.acks.length) = False:=by simp
  have w1:=Qdl (fz:=fz) a1
  rw [dc_at l_Qc4_0.eq_1]
  simp only [↓E1,E2,zA,zB,zC,zD,zE,zF,zG,zH,zI,zJ,zK,zL,zM,zN,reduceIte,zO,zP, *]
  try exact hY _ _ _ ⟨g4,a0,a1,a2,by simp [updN,updE, *],by simp [updN,updE, *],by simp [updN,updE, *]⟩
 rintro - e mu1 n1 ⟨gg,l1,c1,c2,e2,e3,e5⟩
 clear w1 w2
 simp only [↓E1,E2,zA,zB,zC,zD,zE,zF,zG,zH,zI,zJ,zK,zL,zM,zN,reduceIte,zO,zP, *]
 refine loopI (x:=2) (L:=r.starts.length) (p:=λ_=>true) (λi e mu' n'=>Gr n fz mu mu' n n' ∧ n + 1 + 1 ≤ n' ∧ Ev.look mu' n = some [I r.me,I r.nodes,I r.view,I r.normal,I r.status,I r.commit,.bool r.sent,I r.log.base,r.log.snap.sv,xe,xa,xs,xd] ∧ Ev.look mu' (n + 1) = some [I r.me,I r.nodes,I r.view,I r.normal,I r.status,I r.commit,.bool r.sent,I r.log.base,r.log.snap.sv,ye,ya,ys,yd] ∧ e 0 2 = .one (.optr n 0) ∧ e 0 3 = .one (.optr (n + 1) 0) ∧ e 0 6 = .one (.int .i64 i)) (λ_ _ _=>False) ?_ ?_ _ _ _ _ _ (by omega) ⟨gg,by omega,c1,c2,by simp [updN,updE, *],by simp [updN,updE, *],by simp [updN,updE, *]⟩ ?_ (by rintro ⟨_,_,_,h⟩; cases h)
 ·rintro i e mu4 n4 K hi ⟨g4,a0,a1,a2,e2,e3,e5⟩ hY hn
  have u4:=g4.sub hfr (Nat.le_refl _)
  have hw:=Qdt hi (by omega)
  obtain ⟨id,off,cap,B,rfl,p1,p2,p3,p4⟩:=(IntsR.mono u4 s3).elem hi
  obtain ⟨id2,off2,cap2,B3,rfl,q1,q2,q3,q4⟩:=(IntsR.mono u4 t3).elem hi
  clear c1 c2
  have w1:=Qdl (fz:=fz) a1
  have w2:=Qdl (fz:=fz) a2
  rw [dc_at l_Qc4_1.eq_1]
  simp only [↓E1,E2,zA,zB,zC,zD,zE,zF,zG,zH,zI,zJ,zK,zL,zM,zN,reduceIte,zO,zP, *]
  try exact hY rfl _ _ _ ⟨g4,a0,a1,a2,by simp [updN,updE, *],by simp [updN,updE, *],by simp [updN,updE, *]⟩
 ·rintro e mu4 n4 K ⟨g4,a0,a1,a2,e2,e3,e5⟩ hY
  clear c1 c2
  have hlt : (r.starts.length < r.starts.length) = False:=by simp
  have w1:=Qdl (fz:=fz) a1
  rw [dc_at l_Qc4_1.eq_1]
  simp only [↓E1,E2,zA,zB,zC,zD,zE,zF,zG,zH,zI,zJ,zK,zL,zM,zN,reduceIte,zO,zP, *]
  try exact hY _ _ _ ⟨g4,a0,a1,a2,by simp [updN,updE, *],by simp [updN,updE, *],by simp [updN,updE, *]⟩
 clear gg l1 c1 c2 e2 e3 e5
 rintro - e mu1 n1 ⟨gg,l1,c1,c2,e2,e3,e5⟩
 simp only [↓E1,E2,zA,zB,zC,zD,zE,zF,zG,zH,zI,zJ,zK,zL,zM,zN,reduceIte,zO,zP, *]
 refine loopI (x:=4) (L:=r.dos.length) (p:=λ_=>true) (λi e mu' n'=>Gr n fz mu mu' n n' ∧ n + 1 + 1 ≤ n' ∧ Ev.look mu' n = some [I r.me,I r.nodes,I r.view,I r.normal,I r.status,I r.commit,.bool r.sent,I r.log.base,r.log.snap.sv,xe,xa,xs,xd] ∧ Ev.look mu' (n + 1) = some [I r.me,I r.nodes,I r.view,I r.normal,I r.status,I r.commit,.bool r.sent,I r.log.base,r.log.snap.sv,ye,ya,ys,yd] ∧ e 0 2 = .one (.optr n 0) ∧ e 0 3 = .one (.optr (n + 1) 0) ∧ e 0 7 = .one (.int .i64 i)) (λ_ _ _=>False) ?_ ?_ _ _ _ _ _ (by omega) ⟨gg,by omega,c1,c2,by simp [updN,updE, *],by simp [updN,updE, *],by simp [updN,updE, *]⟩ ?_ (by rintro ⟨_,_,_,h⟩; cases h)
 ·rintro i e mu4 n4 K hi ⟨g4,a0,a1,a2,e2,e3,e5⟩ hY hn
  have u4:=g4.sub hfr (Nat.le_refl _)
  have hw:=Qdt hi (by omega)
  obtain ⟨id,off,cap,B,b,rfl,p1,p2,p3,p4,p5⟩:=(DvsR.mono u4 s4).elem hi
  obtain ⟨id2,off2,cap2,B3,b',rfl,q1,q2,q3,q4,q5⟩:=(DvsR.mono u4 t4).elem hi
  obtain ⟨zl,zs,zk,zm⟩:=p5.len
  obtain ⟨zl',zs',zk',zm'⟩:=q5.len
  unfold dvC at p4 q4
  clear c1 c2
  have w1:=Qdl (fz:=fz) a1
  have w2:=Qdl (fz:=fz) a2
  have hLd:=ref4_SameLog H r.dos[i].log b b' (hz.dlog _ (List.getElem_mem hi))
  unfold lgC at hLd
  rw [dc_at l_Qc4_2.eq_1]
  have hne : (n4 = n) = False:=by simp; omega
  have hne1 : (n4 + 1 = n) = False:=by simp; omega
  have hne2 : (n4 + 1 = n + 1) = False:=by simp; omega
  have hne3 : (n4 = n + 1) = False:=by simp; omega
  simp only [↓E1,E2,zA,zB,zC,zD,zE,zF,zG,zH,zI,zJ,zK,zL,zM,zN,reduceIte,zO,zP, *]
  have gA : Gr n4 fz mu4 ((n4,[I r.dos[i].frm,I r.dos[i].normal,I r.dos[i].commit,I r.dos[i].log.base,r.dos[i].log.snap.sv,b]) :: (n4 + 1,[I r.dos[i].frm,I r.dos[i].normal,I r.dos[i].commit,I r.dos[i].log.base,r.dos[i].log.snap.sv,b']) :: mu4) n4 (n4 + 1 + 1):=Gr.two (Gr.refl g4.free) (Nat.le_refl _) _ _
  have uA:=gA.sub g4.free (Nat.le_refl _)
  refine hLd.c1 gA.free ⟨EntsR.mono uA p5,EntsR.mono uA q5⟩ ?_
  rintro v mu5 n5 g5 rfl
  have l5:=g5.le
  have gC:=gA.trans (g5.weaken (by omega))
  have b1:=(gC.own n (by omega)).trans a1
  have b2:=(gC.own (n + 1) (by omega)).trans a2
  clear hLd gA uA w1 w2 p1 q1
  simp only [↓E1,E2,zA,zB,zC,zD,zE,zF,zG,zH,zI,zJ,zK,zL,zM,zN,reduceIte,zO,zP, *]
  try exact hY rfl _ _ _ ⟨g4.trans (gC.weaken (by omega)),by omega,b1,b2,by simp [updN,updE, *],by simp [updN,updE, *],by simp [updN,updE, *]⟩
 ·rintro e mu4 n4 K ⟨g4,a0,a1,a2,e2,e3,e5⟩ hY
  clear c1 c2
  have hlt : (r.dos.length < r.dos.length) = False:=by simp
  have w1:=Qdl (fz:=fz) a1
  rw [dc_at l_Qc4_2.eq_1]
  simp only [↓E1,E2,zA,zB,zC,zD,zE,zF,zG,zH,zI,zJ,zK,zL,zM,zN,reduceIte,zO,zP, *]
  try exact hY _ _ _ ⟨g4,a0,a1,a2,by simp [updN,updE, *],by simp [updN,updE, *],by simp [updN,updE, *]⟩
 clear gg l1 c1 c2 e2 e3 e5
 rintro - e mu1 n1 ⟨gg,l1,c1,c2,e2,e3,e5⟩
 simp only [↓E1,E2,zA,zB,zC,zD,zE,zF,zG,zH,zI,zJ,zK,zL,zM,zN,reduceIte,zO,zP, *]
 exact h'.out _ _ gg
end Go.Proofs.YtnnjlnkoomeadaaGreat.Pv
namespace Go.Proofs.YtnnjlnkoomeadaaGreat.Pv
open Go.Ev Go.Ev.Rp
set_option maxRecDepth 100000
set_option maxHeartbeats 4000000
variable {P : Program} (H : Fs P)
include H
theorem ref4_SameAll (l : List Msg) (x y : SV) (hl : l.length ≤ 1152921504606846976) (hz : ∀ m ∈ l,MsgSz m) : BoolC P n_Qck [.one x,.one y] (λM=>MsgsR M x l ∧ MsgsR M y l) true:=boolC H.mx H.Qck (l.length + 1) λfz mu n k hfr g0 hx h=>by
 obtain ⟨s1,s2⟩:=hx
 obtain ⟨xl,xs,xk,xm⟩:=Qhh s1
 obtain ⟨yl,ys,yk,ym⟩:=Qhh s2
 rw [i_Qck,dc_at b_Qck.eq_1]
 simp only [↓E1,E2,zA,zB,zC,zD,zE,zF,zG,zH,zI,zJ,zK,zL,zM,zN,reduceIte,zO,zP, *]
 refine scan (x:=0) (L:=l.length) (q:=0) (r:=5) (p:=λ_=>true) (λe mu' n'=>Gr n fz mu mu' n n' ∧ e 0 0 = .one x ∧ e 0 1 = .one y) (λe=>True) (λ_ _ _ h=>h.1.free) ?_ ?_ l.length 0 (l.length + 1) _ _ _ _ _ (by omega) (by omega) (by omega) ⟨Gr.refl hfr,?_,?_⟩ ?_ ?_ ?_
 ·rintro i e mu4 n4 K hi ⟨g4,e2,e3⟩ hc hY hn
  have u4:=g4.sub hfr (Nat.le_refl _)
  have hw:=Qdt hi (by omega)
  obtain ⟨id,off,cap,B,a,a',rfl,p1,p2,p3,p4,p5,p6⟩:=Qho (MsgsR.mono u4 s1) hi
  obtain ⟨id2,off2,cap2,B3,b,b',rfl,q1,q2,q3,q4,q5,q6⟩:=Qho (MsgsR.mono u4 s2) hi
  have hs:=hz _ (List.getElem_mem hi)
  have hL:=ref4_Same H l[i] a a' b b' hs.bat hs.log
  unfold msgC at p4 q4 hL
  rw [dc_at l_Qck_0.eq_1]
  simp only [↓E1,E2,zA,zB,zC,zD,zE,zF,zG,zH,zI,zJ,zK,zL,zM,zN,reduceIte,zO,zP, *]
  refine hL.d2 g4.free ⟨p5,p6,q5,q6⟩ ?_
  rintro v new n5 g5 rfl
  simp only [↓E1,E2,zA,zB,zC,zD,zE,zF,zG,zH,zI,zJ,zK,zL,zM,zN,reduceIte,zO,zP, *]
  exact hY rfl _ _ _ g5 ⟨g4.trans (g5.weaken g4.le),by simp [updN,updE, *],by simp [updN,updE, *]⟩ (by simp [updN,updE, *])
 ·rintro e mu4 n4 K ⟨g4,e2,e3⟩ hc hY
  rw [dc_at l_Qck_0.eq_1]
  have hlt : (l.length < l.length) = False:=by simp
  simp only [↓E1,E2,zA,zB,zC,zD,zE,zF,zG,zH,zI,zJ,zK,zL,zM,zN,reduceIte,zO,zP, *]
  exact hY _ _ _ (Gr.refl g4.free) ⟨g4,by simp [updN,updE,e2],by simp [updN,updE,e3]⟩
 ·simp [updN,updE,envI]
 ·simp [updN,updE,envI]
 ·simp [updN,updE,envI]
 ·rintro ha e' mu' n' g ⟨g4,e2,e3⟩
  simp only [↓E1,E2,zA,zB,zC,zD,zE,zF,zG,zH,zI,zJ,zK,zL,zM,zN,reduceIte,zO,zP, *]
  try exact h _ _ g4
 ·rintro ⟨j,j1,j2,j3⟩
  cases j3
end Go.Proofs.YtnnjlnkoomeadaaGreat.Pv
namespace Go.Proofs.YtnnjlnkoomeadaaGreat.Pv
open Go.Ev Go.Ev.Rp
set_option maxRecDepth 100000
set_option maxHeartbeats 4000000
theorem Qk4 {o : Nat → Nat} {n n' t : Nat} {fz : Fz} {mu : St} (ht : t ≠ 0) (ho : ∀ j,j < n → o j = 0) (hf : Free fz mu n') : Sub (Tag o t (with' mu fz)) (Rg n n' (with' mu fz)):=λj B hj=>by
 obtain ⟨h1,h2⟩:=Tag.el hj
 refine Rg.at ?_ (hf.lt h2) h2
 rcases Nat.lt_or_ge j n with h | h
 ·exact absurd (h1.symm.trans (ho j h)) ht
 ·exact h
theorem tag28_rg {o : Nat → Nat} {n n' : Nat} {fz : Fz} {mu : St} (ho : ∀ j,j < n → o j = 0) (hf : Free fz mu n') : Sub (Tag28 o (with' mu fz)) (Rg n n' (with' mu fz)):=λj B hj=>by
 obtain ⟨h1,h2⟩:=Tag28.el hj
 refine Rg.at ?_ (hf.lt h2) h2
 rcases Nat.lt_or_ge j n with h | h
 ·rw [ho j h] at h1; omega
 ·exact h
theorem Qlq {o : Nat → Nat} {n n' : Nat} {fz : Fz} {mu : St} (ho : ∀ j,j < n → o j = 0) (hf : Free fz mu n') {r : Rep} {xe xa xs xd : SV} (h : RepT o (with' mu fz) r xe xa xs xd) : RepS (Rg n n' (with' mu fz)) r xe xa xs xd:=by
 obtain ⟨⟨cs,h1,h2⟩,h3,h4,ds,h5,h6⟩:=h
 exact ⟨⟨cs,(h1.mono (Qk4 (by decide) ho hf)).to,h2.imp λc a g=>(EntX.mono (Qk4 (by decide) ho hf) g).to⟩,(IntsX.mono (Qk4 (by decide) ho hf) h3).to,(IntsX.mono (Qk4 (by decide) ho hf) h4).to,⟨ds,(h5.mono (Qk4 (by decide) ho hf)).to,h6.imp λc a g=>(DvX.mono (Qk4 (by decide) ho hf) g).to⟩⟩
theorem Qqg {o : Nat → Nat} {n n' : Nat} {fz : Fz} {mu : St} (ho : ∀ j,j < n → o j = 0) (hf : Free fz mu n') {x : SV} {l : List Msg} (h : OutT o (with' mu fz) x l) : MsgsR (Rg n n' (with' mu fz)) x l:=by
 obtain ⟨cs,h1,h2⟩:=h
 exact ⟨cs,(h1.mono (Qk4 (by decide) ho hf)).to,h2.imp λc a g=>by
  obtain ⟨xb,xe,e,h3,h4⟩:=MsgX.mono (tag28_rg ho hf) g
  exact ⟨xb,xe,e,h3.to,h4.to⟩⟩
end Go.Proofs.YtnnjlnkoomeadaaGreat.Pv
namespace Go.Proofs.YtnnjlnkoomeadaaGreat.Pv
open Go.Ev Go.Ev.Rp
set_option maxRecDepth 100000
set_option maxHeartbeats 4000000
def ownD (r : Rep) : Dv:=⟨r.me,r.normal,r.commit,r.log⟩
def allD (r : Rep) : List Dv:=r.dos ++ [ownD r]
def Qgm (l : List Dv) : Nat → Int
 | 0=>0
 | i + 1=>max (Qgm l i) (l.getD i dv0).commit
def setM (r : Rep) : Msg:=⟨9,0,0,r.view,0,0,r.commit,0,0,0,0,0,0,0,tx0,[],r.log,tx0⟩
def bestD (r : Rep) : Dv:=(allD r).getD (Qe2 (allD r) (allD r).length) dv0
def Qgt (r1 : Rep) : Rep:={ r1 with commit:=max r1.commit (commF r1.acks r1.me (last r1.log)) }
def Qeg (r : Rep) (N : Nat) : Rep × List Msg × Bool :=
 if r.status = 1 ∧ (N - 1) / 2 ≤ r.dos.length then
  match takeR r (bestD r).log (Qgm (allD r) (allD r).length) N with
  | none=>(r,[],true)
  | some r1=>(Qgt r1,allM (Qgt r1) (setM (Qgt r1)) N,false)
 else (r,[],false)
theorem half {N : Nat} (h1 : 1 ≤ N) (hN7 : N ≤ 7) : IntKind.i64.wrap ((IntKind.i64.wrap ((N : Int) - 1)).tdiv 2) = (((N - 1) / 2 : Nat) : Int):=by
 have e : IntKind.i64.wrap ((N : Int) - 1) = ((N - 1 : Nat) : Int):=by rw [wrap64 (by omega) (by omega)]; omega
 rw [e,Int.tdiv_eq_ediv_of_nonneg (by omega),wrap64 (by omega) (by omega)]; omega
theorem SW.un {lo : Nat} {fz : Fz} {s : Nat} {o : Nat → Nat} {mu : St} {n : Nat} {r : Rep} {out : List Msg} {vd : Bool} {xe xa xs xd xo : SV} (S : SW lo fz s o mu n r out vd xe xa xs xd xo) : EntsR (Un s o (with' mu fz)) xe r.log.ents:=by
 obtain ⟨cs,h1,h2⟩:=S.rt.ents
 have u : ∀ t,t ≠ 7 → t ≠ 9 → Sub (Tag o t (with' mu fz)) (Un s o (with' mu fz)):=λt h7 h9 j B hj=>by
  obtain ⟨p1,p2⟩:=Tag.el hj
  exact Un.at (by omega) (λe=>by rw [e,S.os] at p1; omega) p2
 exact ⟨cs,(h1.mono (u 1 (by omega) (by omega))).to,h2.imp λc a h=>(EntX.mono (u 2 (by omega) (by omega)) h).to⟩
theorem inst_sz {own got g : Lg} (hz : LgSz got) (h : instL own got = some g) : LgSz g:=by
 unfold instL at h
 split at h
 ·split at h
  ·cases h; exact hz
  ·cases h
   exact ⟨by have:=hz.ents; simp only [List.length_drop]; omega,λe he=>hz.bat e (List.mem_of_mem_drop he)⟩
 ·cases h
theorem inst_ok {own got g : Lg} (hz : Ok got) (h : instL own got = some g) : Ok g:=by
 unfold instL at h
 split at h
 ·split at h
  ·cases h; exact hz
  ·cases h
   exact λe he=>hz e (List.mem_of_mem_drop he)
 ·cases h
theorem Qq0 {r r1 : Rep} {l : Lg} {c : Int} {N : Nat} (h : takeR r l c N = some r1) : ∃ g,instL r.log l = some g ∧ r1.log = g ∧ r1.me = r.me ∧ r1.nodes = r.nodes ∧ r1.acks = List.replicate N 0 ∧ r1.view = r.view:=by
 unfold takeR at h
 split at h
 ·cases h
 ·rename_i g hg
  split at h
  ·cases h
  ·cases h; exact ⟨g,hg,rfl,rfl,rfl,rfl,rfl⟩
variable {P : Program} (H : Fs P)
include H
theorem Qpg (s : Nat) (r : Rep) (xe xa xs xd xo : SV) (vd : Bool) {N : Nat} (hN : r.nodes = (N : Int)) (hN7 : N ≤ 7) (h1 : 1 ≤ N) : Ctr P n_Qat [.one (.optr s 0)] (λM=>M s = some (stepC r xe xa xs xd xo vd)) (λ_ _ _ v=>v = .one (I ((N - 1) / 2 : Nat))):=Ctr.of H.mx H.Qat (λ_=>0) λfz mu n k hfr b1 hk=>by
 have hh:=half h1 hN7
 unfold stepC repC at b1
 rw [hN] at b1
 rw [i_Qat,dc_at b_Qat.eq_1]
 clear hN
 simp only [↓E1,E2,zA,zB,zC,zD,zE,zF,zG,zH,zI,zJ,zK,zL,zM,zN,reduceIte,zO,zP, *]
 exact hk _ _ _ (Gr.refl hfr) rfl
theorem play_f (s : Nat) (r : Rep) (xe xa xs xd xo : SV) (vd : Bool) {N : Nat} (hN : r.nodes = (N : Int)) (hN7 : N ≤ 7) (h1 : 1 ≤ N) : Ctr P n_Qcs [.one (.optr s 0)] (λM=>M s = some (stepC r xe xa xs xd xo vd)) (λ_ _ _ v=>v = .one (I ((N - 1) / 2 : Nat))):=Ctr.of H.mx H.Qcs (λ_=>0) λfz mu n k hfr b1 hk=>by
 have hh:=half h1 hN7
 unfold stepC repC at b1
 rw [hN] at b1
 rw [i_Qcs,dc_at b_Qcs.eq_1]
 clear hN
 simp only [↓E1,E2,zA,zB,zC,zD,zE,zF,zG,zH,zI,zJ,zK,zL,zM,zN,reduceIte,zO,zP, *]
 exact hk _ _ _ (Gr.refl hfr) rfl
theorem Qhn (s : Nat) (r : Rep) (xe xa xs xd xo : SV) (vd : Bool) (v : Int) : Ctr P n_Qaz [.one (.optr s 0),.one (I v)] (λM=>M s = some (stepC r xe xa xs xd xo vd)) (λ_ _ _ w=>w = .one (I (prim v r.nodes))):=Ctr.of H.mx H.Qaz (λ_=>0) λfz mu n k hfr b1 hk=>by
 unfold stepC repC at b1
 have hP:=ref16_Primary H v r.nodes
 rw [i_Qaz,dc_at b_Qaz.eq_1]
 simp only [↓E1,E2,zA,zB,zC,zD,zE,zF,zG,zH,zI,zJ,zK,zL,zM,zN,reduceIte,zO,zP, *]
 refine hP.q0 hfr trivial ?_
 rintro w n' hl rfl
 simp only [↓E1,E2,zA,zB,zC,zD,zE,zF,zG,zH,zI,zJ,zK,zL,zM,zN,reduceIte,zO,zP, *]
 exact hk _ _ _ ((Gr.refl hfr).le2 hl) rfl
end Go.Proofs.YtnnjlnkoomeadaaGreat.Pv
namespace Go.Proofs.YtnnjlnkoomeadaaGreat.Pv
open Go.Ev Go.Ev.Rp
set_option maxRecDepth 100000
set_option maxHeartbeats 4000000
def chose (r : Rep) (N : Nat) : Option Rep → Rep × List Msg × Bool
 | none=>(r,[],true)
 | some r1=>(Qgt r1,allM (Qgt r1) (setM (Qgt r1)) N,false)
theorem Qhv (r : Rep) (N : Nat) : (decide (r.status = 1) = false ∧ Qeg r N = (r,[],false)) ∨ (decide (r.status = 1) = true ∧ decide (r.dos.length < (N - 1) / 2) = true ∧ Qeg r N = (r,[],false)) ∨
 (decide (r.status = 1) = true ∧ decide (r.dos.length < (N - 1) / 2) = false ∧ Qeg r N = chose r N (takeR r (bestD r).log (Qgm (allD r) (allD r).length) N)):=by
 unfold Qeg
 by_cases h1 : r.status = 1
 ·by_cases h2 : (N - 1) / 2 ≤ r.dos.length
  ·rw [if_pos ⟨h1,h2⟩]
   refine .inr (.inr ⟨decide_eq_true h1,decide_eq_false (by omega),?_⟩)
   cases h3 : takeR r (bestD r).log (Qgm (allD r) (allD r).length) N <;> rfl
  ·rw [if_neg (λh=>h2 h.2)]
   exact .inr (.inl ⟨decide_eq_true h1,decide_eq_true (by omega),rfl⟩)
 ·rw [if_neg (λh=>h1 h.1)]
  exact .inl ⟨decide_eq_false h1,rfl⟩
theorem Qlg {B c : List SV} {p m a b : Nat} (h : (B.drop p).take m = c) (hab : a + b ≤ m) : (B.drop (p + a)).take b = (c.drop a).take b:=by
 rw [← h,List.drop_take,List.take_take,List.drop_drop,Nat.min_eq_left (by omega)]
theorem Kp.lo {T : Nat → Prop} {s : Nat} {o o' : Nat → Nat} {mu mu' : St} {n n2 n' : Nat} (h : Kp T s o o' mu n2 mu' n') (hn : n ≤ n2) : Kp T s o o' mu n mu' n':=⟨Nat.le_trans hn h.le,λj hj=>h.tags j (by omega),λj hj=>h.keep j (by omega)⟩
theorem sz_set {r : Rep} (h : LgSz r.log) : MsgSz (setM r):=⟨by simp [setM],h⟩
theorem Qpo (r : Rep) : ∃ h : Qe2 (allD r) (allD r).length < (allD r).length,bestD r = (allD r)[Qe2 (allD r) (allD r).length]:=by
 have h : Qe2 (allD r) (allD r).length < (allD r).length:=Qjb (by simp [allD]) (Nat.le_refl _)
 exact ⟨h,by unfold bestD; rw [List.getD_eq_getElem?_getD,List.getElem?_eq_getElem h]; rfl⟩
theorem Qkm {l : List Dv} {i : Nat} (hi : i < l.length) : Qgm l (i + 1) = max (Qgm l i) l[i].commit:=by
 rw [Qgm,List.getD_eq_getElem?_getD,List.getElem?_eq_getElem hi]; rfl
theorem app_dv {fz : Fz} {mu mB : St} {n nB : Nat} (hf : Free fz mu n) (g : Gr n fz mu mB n nB) {xc : SV} {ds : List (List SV)} {l : List Dv} (hx : SlX (From n (with' mB fz)) 6 xc ds) (hl : All2 (DvR (with' mu fz)) ds l) {d : Dv} {y : SV} (hy : EntsR (with' mu fz) y d.log.ents) (hlen : ds.length ≤ 1954687338267) {K : KT Prop}
 (hk : ∀ x m4,Gr n fz mu m4 n (nB + 1) → DvsR (with' m4 fz) x (l ++ [d]) → K (.one x) m4 (nB + 1)) : onApp mB nB 6 72 xc (dvC d y) 1 K:=by
 obtain ⟨-,-,yk,-⟩:=hy.len
 have hkn : Qdo (dvC d y) = true:=by unfold dvC; simp only [↓E1,E2,zA,zB,zC,zD,zE,zF,zG,zH,zI,zJ,zK,zL,zM,zN,reduceIte,zO,zP, *]
 have hfl : onApp mB nB 6 72 xc ([dvC d y] : List (List SV)).flatten ([dvC d y] : List (List SV)).length K:=by
  refine Qg8 (G:=From n (with' mB fz)) hx (λid B h=>Qld hf (From.el h).1 (From.el h).2) (Qef (by simp; omega) (by decide) (by decide)) (by simp) (λe he=>by rw [List.mem_singleton.1 he]; exact ⟨rfl,hkn⟩) λm4 ho hn=>?_
  have hnB:=g.le
  have g4 : Gr n fz mu m4 n (nB + 1):=by
   have h1 : ∀ j,j < n → Ev.look m4 j = Ev.look mB j:=λj hj=>by
    rcases ho j (by omega) with h | ⟨B,p1,-⟩
    ·exact h
    ·have:=(From.el p1).1; omega
   refine ⟨by omega,λj hj=>(Qdq (h1 j hj)).trans (g.ext j hj),λj hj=>(h1 j hj).trans (g.own j hj),λj=>?_⟩
   have h0:=g.free.none (show nB ≤ nB + 1 + j by omega)
   rcases ho (nB + 1 + j) (by omega) with h | ⟨B,p1,-⟩
   ·rw [Qdq h]; exact h0
   ·have:=(From.el p1).2; rw [h0] at this; cases this
  have hall : ∀ e ∈ ds ++ [dvC d y],e.length = 6 ∧ Qdo e = true:=λe he=>by
   rcases List.mem_append.1 he with he | he
   ·rcases hx with ⟨_,rfl⟩ | ⟨id,_,_,_,h4⟩
    ·cases he
    ·exact h4 e he
   ·rw [List.mem_singleton.1 he]; exact ⟨rfl,hkn⟩
  refine hk _ _ g4 ⟨ds ++ [dvC d y],.inr ⟨nB,0,(ds ++ [dvC d y]).length,(ds ++ [dvC d y]).flatten,rfl,Nat.le_refl _,Qdl hn,Qeq (Qd5 hall),?_,?_,hall⟩,All2.append (hl.imp λc a h=>DvR.mono (g4.sub hf (Nat.le_refl _)) h) ⟨⟨y,rfl,EntsR.mono (g4.sub hf (Nat.le_refl _)) hy⟩,trivial⟩⟩
  ·rw [Qen λe he=>(hall e he).1]; omega
  ·rw [List.drop_zero,List.take_of_length_le (by rw [Qen λe he=>(hall e he).1]; omega)]
 simpa only [List.flatten_cons,List.flatten_nil,List.append_nil,List.length_cons,List.length_nil,Nat.zero_add] using hfl
variable {P : Program} (H : Fs P)
include H
theorem Qo8 (hS : SortC P) {lo : Nat} {fz : Fz} {s : Nat} {o : Nat → Nat} {mu : St} {n : Nat} {r : Rep} {out : List Msg} {xe xa xs xd xo : SV} (S : SW lo fz s o mu n r out false xe xa xs xd xo)
 {N : Nat} (hN : r.nodes = (N : Int)) (hN7 : N ≤ 7) (h1N : 1 ≤ N) (hz : RepSz r) (hl : out.length ≤ 900) {k : KT Prop} {w : WK k}
 (hk : ∀ mu' n' o' xe' xa' xs' xd' xo',SW lo fz s o' mu' n' (Qeg r N).1 (out ++ (Qeg r N).2.1) (Qeg r N).2.2 xe' xa' xs' xd' xo' → Kp (· = 7) s o o' mu n mu' n' → k noVal mu' n') : CPh P n_Qar [.one (.optr s 0)] fz mu n k w:=by
 refine CP_of H.Qar H.mx ((allD r).length + 1) ?_
 have hsn : s < n:=S.slt
 have ws:=Qdl (fz:=fz) S.cells
 have hF:=Qpg H s r xe xa xs xd xo false hN hN7 h1N
 obtain ⟨⟨xek,xem⟩,⟨xak,xam⟩,⟨xsk,xsm⟩,⟨xdk,xdm⟩,xok,xom⟩:=S.ks
 obtain ⟨xdl,xds,-,-⟩:=S.rs.2.2.2.len
 have ws':=ws
 unfold stepC repC at ws
 have hkH:=Hide.mk hk
 have hNH:=Hide.mk hN
 clear hk hN
 rw [i_Qar,dc_at b_Qar.eq_1]
 rcases Qhv r N with ⟨h1,hR⟩ | ⟨h1,h2,hR⟩ | ⟨h1,h2,hR⟩
 ·have hk:=hkH.out
  rw [hR] at hk
  simp only [List.append_nil] at hk
  have hk2:=hk _ _ _ _ _ _ _ _ S Kp.refl
  clear hk hR
  simp only [↓E1,E2,zA,zB,zC,zD,zE,zF,zG,zH,zI,zJ,zK,zL,zM,zN,reduceIte,zO,zP, *,E3]
  all_goals exact hk2
 ·have hk:=hkH.out
  rw [hR] at hk
  simp only [List.append_nil] at hk
  have hk2:=λn' hn=>hk _ n' _ _ _ _ _ _ (S.le hn) (Kp.refl.le2 hn)
  clear hk hR
  simp only [↓E1,E2,zA,zB,zC,zD,zE,zF,zG,zH,zI,zJ,zK,zL,zM,zN,reduceIte,zO,zP, *,E3]
  refine hF.q1 S.free ws' ?_
  rintro v n2 l2 rfl
  simp only [↓E1,E2,zA,zB,zC,zD,zE,zF,zG,zH,zI,zJ,zK,zL,zM,zN,reduceIte,zO,zP, *,E3]
  all_goals exact hk2 _ l2
 ·have hC:=λcs hcs=>Qhl H xd cs hcs
  simp only [↓E1,E2,zA,zB,zC,zD,zE,zF,zG,zH,zI,zJ,zK,zL,zM,zN,reduceIte,zO,zP, *,E3]
  refine hF.q1 S.free ws' ?_
  rintro v n2 l2 rfl
  simp only [↓E1,E2,zA,zB,zC,zD,zE,zF,zG,zH,zI,zJ,zK,zL,zM,zN,reduceIte,zO,zP, *,E3]
  obtain ⟨ds,q1,q2⟩:=S.rs.2.2.2
  have hcl:=q2.length
  have hzd:=hz.dos
  have S1:=S.trim.le l2
  refine (hC ds (by omega)).d2 S1.free q1 ?_
  rintro v new n3 g3 ⟨xc,rfl,hxc⟩
  have l3:=g3.le
  obtain ⟨-,-,zck,zcm⟩:=hxc.len
  have hX : ∀ j,Ev.look (new ++ [(n3,[I r.me,I r.normal,I r.commit,I r.log.base,r.log.snap.sv,xe])] ++ mu) j = Ev.look ((n3,[I r.me,I r.normal,I r.commit,I r.log.base,r.log.snap.sv,xe]) :: (new ++ mu)) j:=λj=>by
   rw [List.append_assoc]
   refine Qi1 (b:=[(n3,[I r.me,I r.normal,I r.commit,I r.log.base,r.log.snap.sv,xe])]) λh=>?_
   rw [Qdw]
   split
   ·rename_i e
    subst e
    exfalso
    apply h
    have h4:=g3.free.none (Nat.le_refl n3)
    rw [Qd6,Qd2] at h4
    cases e : Ev.look new n3 with
    | none=>rfl
    | some c=>rw [e] at h4; cases h4
   ·rfl
  have gB : Gr n2 fz mu (new ++ [(n3,[I r.me,I r.normal,I r.commit,I r.log.base,r.log.snap.sv,xe])] ++ mu) n2 (n3 + 1):=(g3.cons (by omega) _).congr hX
  have bB : Ev.look (new ++ [(n3,[I r.me,I r.normal,I r.commit,I r.log.base,r.log.snap.sv,xe])] ++ mu) n3 = some [I r.me,I r.normal,I r.commit,I r.log.base,r.log.snap.sv,xe]:=by rw [hX,Qdw,if_pos rfl]
  have hxB : SlX (From n2 (with' (new ++ [(n3,[I r.me,I r.normal,I r.commit,I r.log.base,r.log.snap.sv,xe])] ++ mu) fz)) 6 xc ds:=by
   rw [Qhy (fz:=fz) hX]
   exact hxc.mono (From.mono (((Gr.refl (lo:=n3) g3.free).cons (Nat.le_refl _) _).sub g3.free (Nat.le_refl _)))
  have wB:=Qdl (fz:=fz) bB
  simp only [↓E1,E2,zA,zB,zC,zD,zE,zF,zG,zH,zI,zJ,zK,zL,zM,zN,reduceIte,zO,zP, *,E3]
  refine app_dv (d:=ownD r) (y:=xe) S1.free gB hxB q2 S.rs.1 (by omega) λx0 m4 g4 hD=>?_
  obtain ⟨n4,hn4⟩ : ∃ n4,n3 + 1 + 1 = n4:=⟨_,rfl⟩
  rw [hn4] at g4 ⊢
  have hD : DvsR (with' m4 fz) x0 (allD r):=hD
  have S4:=S1.gr g4
  obtain ⟨x0l,x0s,x0k,x0m⟩:=hD.len
  have hlD : (allD r).length = r.dos.length + 1:=by simp [allD]
  have hBest:=choose_Best H x0 (allD r) (by omega) (by omega)
  have K4 : Kp (λ_=>False) s (trim o n) (trim o n) mu n2 m4 n4:=Gr.kp g4
  clear hX gB bB hxB wB hxc q1 q2 g3 hC
  simp only [↓E1,E2,zA,zB,zC,zD,zE,zF,zG,zH,zI,zJ,zK,zL,zM,zN,reduceIte,zO,zP, *,E3]
  refine hBest.q0 S4.free hD ?_
  rintro v n5 l5 rfl
  have g5:=g4.le2 l5
  obtain ⟨D,hDe⟩ : ∃ D,allD r = D:=⟨_,rfl⟩
  obtain ⟨bi,hbi⟩ : ∃ bi,Qe2 D D.length = bi:=⟨_,rfl⟩
  have hbl : bi < D.length:=by rw [← hbi,← hDe]; exact (Qpo r).1
  have hbdH : Hide (bestD r = D.getD bi dv0):=⟨by rw [← hbi,← hDe]; rfl⟩
  have hRH:=Hide.mk hR
  have hzD : ∀ d ∈ D,LgSz d.log:=λd hd=>by
   rw [← hDe] at hd
   rcases List.mem_append.1 hd with h | h
   ·exact hz.dlog _ h
   ·rw [List.mem_singleton.1 h]; exact hz.log
  rw [hDe] at hD hlD x0l
  clear hR hBest h1 h2
  have hDeH:=Hide.mk hDe
  have hlDH:=Hide.mk hlD
  clear hlD
  simp only [↓E1,E2,zA,zB,zC,zD,zE,zF,zG,zH,zI,zJ,zK,zL,zM,zN,reduceIte,zO,zP, *,E3]
  clear hbi hDe
  refine loopI (x:=0) (L:=D.length) (p:=λ_=>true) (λi e mu' n'=>Gr n5 fz m4 mu' n5 n' ∧ e 0 0 = .one (.optr s 0) ∧ e 0 2 = .one x0 ∧ e 0 3 = .one (I (bi : Nat)) ∧ e 0 5 = .one (I (Qgm D i)) ∧ e 3 11 = .one x0 ∧ e 3 12 = .one (I (D.length : Nat)) ∧ e 3 13 = .one (I (i : Nat))) (λ_ _ _=>False) ?_ ?_ _ _ _ _ _ (by have:=hlDH.out; omega) ?_ ?_ (by rintro ⟨_,_,_,h⟩; cases h)
  ·rintro i e mu1 n1 K hi ⟨g1,e0,e2,e3,e5,e11,e12,e13⟩ hy hn
   have hY:=Hide.mk hy
   clear hy hn
   have hw:=Qdt hi (by have:=hlDH.out; omega)
   have hcs:=Qkm hi
   obtain ⟨id,off,cap,B,y,rfl,p1,p2,p3,p4,p5⟩:=(DvsR.mono (g1.sub (S4.free.le l5) (Nat.le_refl _)) hD).elem hi
   obtain ⟨-,-,yk,ym⟩:=p5.len
   unfold dvC at p4
   rw [dc_at l_Qar_0.eq_1]
   simp only [↓E1,E2,zA,zB,zC,zD,zE,zF,zG,zH,zI,zJ,zK,zL,zM,zN,reduceIte,zO,zP,Qd4,Qd8, *,E3]
   refine hY.out rfl _ _ _ ⟨g1.cons (by have:=g1.le; omega) _,?_,?_,?_,?_,?_,?_,?_⟩
   all_goals simp [updN,updE, *]
  ·rintro e mu1 n1 K ⟨g1,e0,e2,e3,e5,e11,e12,e13⟩ hx
   have hX:=Hide.mk hx
   clear hx
   have hlt : ((D.length : Int) < D.length) = False:=by simp
   have hlt2 : (D.length < D.length) = False:=by simp
   rw [dc_at l_Qar_0.eq_1]
   simp only [↓E1,E2,zA,zB,zC,zD,zE,zF,zG,zH,zI,zJ,zK,zL,zM,zN,reduceIte,zO,zP, *]
   refine hX.out _ _ _ ⟨g1,?_,?_,?_,?_,?_,?_,?_⟩
   all_goals simp [updN,updE, *]
  ·refine ⟨Gr.refl (S4.free.le l5),?_,?_,?_,?_,?_,?_,?_⟩
   all_goals clear hlDH
   all_goals simp [updN,updE,envI,Qgm, *]
  ·rintro - e mu1 n1 ⟨g1,e0,e2,e3,e5,e11,e12,e13⟩
   have S6:=(S4.le l5).gr g1
   have K6 : Kp (λ_=>False) s (trim o n) (trim o n) mu n2 mu1 n1:=(K4.le2 l5).trans (Gr.kp g1)
   obtain ⟨id,off,cap,B,y,rfl,p1,p2,p3,p4,p5⟩:=(DvsR.mono (g1.sub (S4.free.le l5) (Nat.le_refl _)) hD).elem hbl
   obtain ⟨-,-,yk,ym⟩:=p5.len
   have hsub : (B.drop (off + bi * 6 + 3)).take 3 = lgC D[bi].log y:=by rw [Qlg p4 (by omega)]; rfl
   have hbd3 : off + bi * 6 + 3 + 3 ≤ B.length:=by omega
   unfold lgC at hsub
   have hc1 : (bi : Int) < (D.length : Int):=by omega
   clear ws
   simp only [↓E1,E2,zA,zB,zC,zD,zE,zF,zG,zH,zI,zJ,zK,zL,zM,zN,reduceIte,zO,zP, *,E3]
   refine step_take H S6 D[bi].log y (Qgm D D.length) p5 (hzD _ (List.getElem_mem hbl)) hNH.out hN7 (λr1 hT m7 n7 o7 xe7 xa7 S7 K7=>?_) (λhT m7 n7 o7 S7 K7=>?_)
   ·have hch : Qeg r N = chose r N (some r1):=by rw [hRH.out,hbdH.out,hDeH.out,List.getD_eq_getElem?_getD,List.getElem?_eq_getElem hbl,Option.getD_some,hT]
    obtain ⟨g,hg1,hg2,hg3,hg4,hg5,hg6⟩:=Qq0 hT
    have hLz : LgSz r1.log:=by rw [hg2]; exact inst_sz (hzD _ (List.getElem_mem hbl)) hg1
    have hNr:=Hide.mk (show r1.nodes = (N : Int) by rw [hg4]; exact hNH.out)
    have hal : r1.acks.length ≤ 17592186044415:=by rw [hg5,List.length_replicate]; omega
    have hk:=hkH.out
    rw [hch] at hk
    have hkH2:=Hide.mk hk
    have K67:=((K6.trans K7).lo l2).trim
    clear hk hch hkH hRH hbdH hDeH hT hg1 hg2 hg3 hg4 hg5 hg6 hzD K6 K7 K4 g1 g4 g5 p1 p2 p3 p4 p5 hsub S6 S4 hD
    have hs7:=S7.cells
    have ws7:=Qdl (fz:=fz) hs7
    unfold stepC repC at ws7 hs7
    obtain ⟨⟨zek,zem⟩,⟨zak,zam⟩,-,-,-,-⟩:=S7.ks
    have hLa:=replica_step_last H s r1 xe7 xa7 .nsl .nsl xo false
    have hCm:=replica_Committed H hS xa7 r1.acks r1.me (last r1.log) hal
    simp only [↓E1,E2,zA,zB,zC,zD,zE,zF,zG,zH,zI,zJ,zK,zL,zM,zN,reduceIte,zO,zP,Qd4,Qd8, *,E3]
    refine hLa.q1 S7.free ⟨Qdl S7.cells,S7.rs.1⟩ ?_
    rintro v n8 l8 rfl
    simp only [↓E1,E2,zA,zB,zC,zD,zE,zF,zG,zH,zI,zJ,zK,zL,zM,zN,reduceIte,zO,zP,Qd4,Qd8, *,E3]
    refine hCm.q1 (S7.free.le l8) S7.rs.2.1 ?_
    rintro v n9 l9 rfl
    have S8:=(S7.le (Nat.le_trans l8 l9)).put (r':=Qgt r1) (vd':=false) rfl rfl rfl rfl
    have K8:=(K67.trans (S7.kput (c:=stepC (Qgt r1) xe7 xa7 .nsl .nsl xo false))).le2 (Nat.le_trans l8 l9)
    have hcell : stepC (Qgt r1) xe7 xa7 .nsl .nsl xo false = [I r1.me,I r1.nodes,I r1.view,I r1.normal,I r1.status,I (max r1.commit (commF r1.acks r1.me (last r1.log))),.bool r1.sent,I r1.log.base,r1.log.snap.sv,xe7,xa7,.nsl,.nsl,xo,.bool false]:=rfl
    have w8:=Qdl (fz:=fz) S8.cells
    rw [hcell] at S8 K8 w8
    clear hcell hLa hCm K67
    simp only [↓E1,E2,zA,zB,zC,zD,zE,zF,zG,zH,zI,zJ,zK,zL,zM,zN,reduceIte,zO,zP,Qd4,Qd8, *,E3]
    have hAll:=λ(k : KT Prop) (w : WK k)=>Qh7 H S8 (setM (Qgt r1)) .nsl xe7 ⟨nilP _,S8.un⟩ (sz_set hLz) hl (N:=N) hNr.out hN7 (k:=k) (w:=w)
    refine hAll _ _ λm10 n10 o10 xo10 S10 K10=>?_
    simp only [↓E1,E2,zA,zB,zC,zD,zE,zF,zG,zH,zI,zJ,zK,zL,zM,zN,reduceIte,zO,zP,Qd4,Qd8, *,E3]
    exact hkH2.out _ _ _ _ _ _ _ _ S10 ((K8.weaken (λt h=>h.elim)).trans K10)
   ·have hch : Qeg r N = chose r N none:=by rw [hRH.out,hbdH.out,hDeH.out,List.getD_eq_getElem?_getD,List.getElem?_eq_getElem hbl,Option.getD_some,hT]
    have hk:=hkH.out
    rw [hch] at hk
    simp only [chose,List.append_nil] at hk
    have hk2:=hk _ _ _ _ _ _ _ _ S7 (((K6.trans K7).lo l2).trim.weaken (λt h=>h.elim))
    clear hk hch
    simp only [↓E1,E2,zA,zB,zC,zD,zE,zF,zG,zH,zI,zJ,zK,zL,zM,zN,reduceIte,zO,zP, *,E3]
    all_goals exact hk2
end Go.Proofs.YtnnjlnkoomeadaaGreat.Pv
namespace Go.Proofs.YtnnjlnkoomeadaaGreat.Pv
open Go.Ev Go.Ev.Rp
set_option maxRecDepth 100000
set_option maxHeartbeats 4000000
theorem inst_last {own got g : Lg} (h : instL own got = some g) : last g ≤ 4611686018427387904:=by
 rcases inst_cases own got with ⟨h1,hI⟩ | ⟨h1,h2,hI⟩ | ⟨h1,h2,h3,hI⟩ | ⟨h1,h2,h3,h4,hI⟩ | ⟨h1,h2,h3,h4,j,hj,hw,hj0,hjl,hI⟩
 ·rw [hI] at h; cases h
 ·rw [hI] at h; cases h
 ·rw [hI] at h; cases h
 ·rw [hI] at h; cases h
  rw [Qs7 h2]
  have:=Qjq h2
  omega
 ·rw [hI] at h; cases h
  obtain ⟨a1,a2,a3⟩:=Qjq h1
  obtain ⟨b1,b2,b3⟩:=Qjq h2
  unfold last
  simp only [List.length_drop]
  rw [wrap64 (by omega) (by omega)]; omega
variable {P : Program} (H : Fs P)
include H
theorem Qpb {lo : Nat} {fz : Fz} {s : Nat} {o : Nat → Nat} {mu : St} {n : Nat} {r : Rep} {out : List Msg} {xe xa xs xd xo : SV} (S : SW lo fz s o mu n r out false xe xa xs xd xo)
 {N : Nat} (hN : r.nodes = (N : Int)) (hN7 : N ≤ 7) (h1N : 1 ≤ N) (hz : RepSz r) (hok1 : Ok r.log) (hok2 : ∀ d ∈ r.dos,Ok d.log) (hl : out.length ≤ 900) {k : KT Prop} {w : WK k}
 (hk : ∀ mu' n' o' xe' xa' xs' xd' xo',SW lo fz s o' mu' n' (Qeg r N).1 (out ++ (Qeg r N).2.1) (Qeg r N).2.2 xe' xa' xs' xd' xo' → Kp (· = 7) s o o' mu n mu' n' → k noVal mu' n') : CPh P n_Qa3 [.one (.optr s 0)] fz mu n k w:=by
 refine CP_of H.Qa3 H.mx ((allD r).length + 1) ?_
 have hsn : s < n:=S.slt
 have ws:=Qdl (fz:=fz) S.cells
 have hF:=play_f H s r xe xa xs xd xo false hN hN7 h1N
 obtain ⟨⟨xek,xem⟩,⟨xak,xam⟩,⟨xsk,xsm⟩,⟨xdk,xdm⟩,xok,xom⟩:=S.ks
 obtain ⟨xdl,xds,-,-⟩:=S.rs.2.2.2.len
 have ws':=ws
 unfold stepC repC at ws
 have hkH:=Hide.mk hk
 have hNH:=Hide.mk hN
 clear hk hN
 rw [i_Qa3,dc_at b_Qa3.eq_1]
 rcases Qhv r N with ⟨h1,hR⟩ | ⟨h1,h2,hR⟩ | ⟨h1,h2,hR⟩
 ·have hk:=hkH.out
  rw [hR] at hk
  simp only [List.append_nil] at hk
  have hk2:=hk _ _ _ _ _ _ _ _ S Kp.refl
  clear hk hR
  simp only [↓E1,E2,zA,zB,zC,zD,zE,zF,zG,zH,zI,zJ,zK,zL,zM,zN,reduceIte,zO,zP, *,E3]
  all_goals exact hk2
 ·have hk:=hkH.out
  rw [hR] at hk
  simp only [List.append_nil] at hk
  have hk2:=λn' hn=>hk _ n' _ _ _ _ _ _ (S.le hn) (Kp.refl.le2 hn)
  clear hk hR
  simp only [↓E1,E2,zA,zB,zC,zD,zE,zF,zG,zH,zI,zJ,zK,zL,zM,zN,reduceIte,zO,zP, *,E3]
  refine hF.q1 S.free ws' ?_
  rintro v n2 l2 rfl
  simp only [↓E1,E2,zA,zB,zC,zD,zE,zF,zG,zH,zI,zJ,zK,zL,zM,zN,reduceIte,zO,zP, *,E3]
  all_goals exact hk2 _ l2
 ·have hne : ∀ j,n ≤ j → (j = s) = False:=λj hj=>by simp; omega
  simp only [↓E1,E2,zA,zB,zC,zD,zE,zF,zG,zH,zI,zJ,zK,zL,zM,zN,reduceIte,zO,zP, *,E3]
  refine hF.q1 S.free ws' ?_
  rintro v n2 l2 rfl
  have hne2:=hne n2 l2
  simp only [↓E1,E2,zA,zB,zC,zD,zE,zF,zG,zH,zI,zJ,zK,zL,zM,zN,reduceIte,zO,zP, *,E3]
  obtain ⟨ds,q1,q2⟩:=S.rs.2.2.2
  have hcl:=q2.length
  have hzd:=hz.dos
  have S1:=S.trim.le l2
  have hcs : ∀ e ∈ ds,e.length = 6 ∧ Qdo e = true:=by
   rcases q1 with ⟨_,rfl⟩ | ⟨_,_,_,_,_,_,_,_,_,_,h⟩
   ·intro e he; cases he
   ·exact h
  obtain ⟨e1,e2⟩:=Qf4 (Sl.mono q1 (sub1 S1.free (c:=[])))
  rw [e1]; clear e1
  refine ⟨e2,Qf9 S1.free (Qef (by omega) (by decide) (by decide)) hcs (λxc mA nA gA hxc=>?_)⟩
  have lA:=gA.le
  obtain ⟨-,-,zck,zcm⟩:=SlX.len hxc
  have SA:=S1.gr gA
  have wsA:=Qdl (fz:=fz) SA.cells
  have hneA:=hne nA (by omega)
  unfold stepC repC at wsA
  simp only [↓E1,E2,zA,zB,zC,zD,zE,zF,zG,zH,zI,zJ,zK,zL,zM,zN,reduceIte,zO,zP, *,E3]
  have hxB : SlX (From n2 (with' ((nA,[I r.me,I r.normal,I r.commit,I r.log.base,r.log.snap.sv,xe]) :: mA) fz)) 6 xc ds:=hxc.mono (From.mono (((Gr.refl (lo:=nA) gA.free).cons (Nat.le_refl _) _).sub gA.free (Nat.le_refl _)))
  refine app_dv (d:=ownD r) (y:=xe) S1.free (gA.cons (by omega) _) hxB q2 S.rs.1 (by omega) λx0 m4 g4 hD=>?_
  obtain ⟨n4,hn4⟩ : ∃ n4,nA + 1 + 1 = n4:=⟨_,rfl⟩
  rw [hn4] at g4 ⊢
  have hD : DvsR (with' m4 fz) x0 (allD r):=hD
  have S4:=S1.gr g4
  obtain ⟨x0l,x0s,x0k,x0m⟩:=hD.len
  have hlD : (allD r).length = r.dos.length + 1:=by simp [allD]
  have hBest:=ref16_Best H x0 (allD r) (by omega) (by omega)
  have K4 : Kp (λ_=>False) s (trim o n) (trim o n) mu n2 m4 n4:=Gr.kp g4
  clear hxc q1 q2 gA e2 hcs hxB
  have S4c:=S4.cells
  have ws4:=Qdl (fz:=fz) S4c
  unfold stepC repC at ws4
  simp only [↓E1,E2,zA,zB,zC,zD,zE,zF,zG,zH,zI,zJ,zK,zL,zM,zN,reduceIte,zO,zP, *,E3]
  refine hBest.q0 S4.free hD ?_
  rintro v n5 l5 rfl
  have g5:=g4.le2 l5
  obtain ⟨D,hDe⟩ : ∃ D,allD r = D:=⟨_,rfl⟩
  obtain ⟨bi,hbi⟩ : ∃ bi,Qe2 D D.length = bi:=⟨_,rfl⟩
  have hbl : bi < D.length:=by rw [← hbi,← hDe]; exact (Qpo r).1
  have hbdH : Hide (bestD r = D.getD bi dv0):=⟨by rw [← hbi,← hDe]; rfl⟩
  have hRH:=Hide.mk hR
  have hzD : ∀ d ∈ D,LgSz d.log:=λd hd=>by
   rw [← hDe] at hd
   rcases List.mem_append.1 hd with h | h
   ·exact hz.dlog _ h
   ·rw [List.mem_singleton.1 h]; exact hz.log
  have hoD : ∀ d ∈ D,Ok d.log:=λd hd=>by
   rw [← hDe] at hd
   rcases List.mem_append.1 hd with h | h
   ·exact hok2 _ h
   ·rw [List.mem_singleton.1 h]; exact hok1
  rw [hDe] at hD hlD x0l
  clear hR hBest h1 h2
  have hDeH:=Hide.mk hDe
  have hlDH:=Hide.mk hlD
  clear hlD
  simp only [↓E1,E2,zA,zB,zC,zD,zE,zF,zG,zH,zI,zJ,zK,zL,zM,zN,reduceIte,zO,zP, *,E3]
  clear hbi hDe
  refine loopI (x:=0) (L:=D.length) (p:=λ_=>true) (λi e mu' n'=>mu' = m4 ∧ n5 ≤ n' ∧ e 0 0 = .one (.optr s 0) ∧ e 0 2 = .one x0 ∧ e 0 3 = .one (I (bi : Nat)) ∧ e 0 5 = .one (I (Qgm D i)) ∧ e 0 6 = .one (I (i : Nat))) (λ_ _ _=>False) ?_ ?_ _ _ _ _ _ (by have:=hlDH.out; omega) ?_ ?_ (by rintro ⟨_,_,_,h⟩; cases h)
  ·rintro i e mu1 n1 K hi ⟨rfl,ln1,e0,e2,e3,e5,e6⟩ hy hn
   have hY:=Hide.mk hy
   clear hy hn
   have hw:=Qdt hi (by have:=hlDH.out; omega)
   have hcs:=Qkm hi
   obtain ⟨id,off,cap,B,y,rfl,p1,p2,p3,p4,p5⟩:=hD.elem hi
   have hsub : (B.drop (off + i * 6 + 2)).take 1 = [I D[i].commit]:=by rw [Qlg p4 (by omega)]; rfl
   have hbd3 : off + i * 6 + 2 + 1 ≤ B.length:=by omega
   have hc0 : (i : Int) < (D.length : Int):=by omega
   rw [dc_at l_Qa3_0.eq_1]
   simp only [↓E1,E2,zA,zB,zC,zD,zE,zF,zG,zH,zI,zJ,zK,zL,zM,zN,reduceIte,zO,zP,Qd4,Qd8, *,E3]
   refine hY.out rfl _ _ _ ⟨rfl,ln1,?_,?_,?_,?_,?_⟩
   all_goals simp [updN,updE, *]
  ·rintro e mu1 n1 K ⟨rfl,ln1,e0,e2,e3,e5,e6⟩ hx
   have hX:=Hide.mk hx
   clear hx
   have hlt : ((D.length : Int) < D.length) = False:=by simp
   have hlt2 : (D.length < D.length) = False:=by simp
   rw [dc_at l_Qa3_0.eq_1]
   simp only [↓E1,E2,zA,zB,zC,zD,zE,zF,zG,zH,zI,zJ,zK,zL,zM,zN,reduceIte,zO,zP, *]
   refine hX.out _ _ _ ⟨rfl,ln1,?_,?_,?_,?_,?_⟩
   all_goals simp [updN,updE, *]
  ·refine ⟨rfl,Nat.le_refl _,?_,?_,?_,?_,?_⟩
   all_goals clear hlDH
   all_goals simp [updN,updE,envI,Qgm, *]
  ·rintro - e mu1 n1 ⟨rfl,ln1,e0,e2,e3,e5,e6⟩
   have S6:=S4.le (Nat.le_trans l5 ln1)
   have K6 : Kp (λ_=>False) s (trim o n) (trim o n) mu n2 mu1 n1:=(K4.le2 l5).le2 ln1
   obtain ⟨id,off,cap,B,y,rfl,p1,p2,p3,p4,p5⟩:=hD.elem hbl
   obtain ⟨-,-,yk,ym⟩:=p5.len
   have hsub : (B.drop (off + bi * 6 + 3)).take 3 = lgC D[bi].log y:=by rw [Qlg p4 (by omega)]; rfl
   have hbd3 : off + bi * 6 + 3 + 3 ≤ B.length:=by omega
   unfold lgC at hsub
   have hc1 : (bi : Int) < (D.length : Int):=by omega
   clear ws
   simp only [↓E1,E2,zA,zB,zC,zD,zE,zF,zG,zH,zI,zJ,zK,zL,zM,zN,reduceIte,zO,zP, *,E3]
   refine Qta H S6 D[bi].log y (Qgm D D.length) p5 (hzD _ (List.getElem_mem hbl)) hok1 (hoD _ (List.getElem_mem hbl)) hNH.out hN7 (λr1 hT m7 n7 o7 xe7 xa7 S7 K7=>?_) (λhT m7 n7 o7 S7 K7=>?_)
   ·have hch : Qeg r N = chose r N (some r1):=by rw [hRH.out,hbdH.out,hDeH.out,List.getD_eq_getElem?_getD,List.getElem?_eq_getElem hbl,Option.getD_some,hT]
    obtain ⟨g,hg1,hg2,hg3,hg4,hg5,hg6⟩:=Qq0 hT
    have hLz : LgSz r1.log:=by rw [hg2]; exact inst_sz (hzD _ (List.getElem_mem hbl)) hg1
    have hNr:=Hide.mk (show r1.nodes = (N : Int) by rw [hg4]; exact hNH.out)
    have hokg : Ok r1.log:=by rw [hg2]; exact inst_ok (hoD _ (List.getElem_mem hbl)) hg1
    have hlst : last r1.log ≤ 4611686018427387904:=by rw [hg2]; exact inst_last hg1
    have hal : r1.acks.length ≤ 17592186044415:=by rw [hg5,List.length_replicate]; omega
    have hk:=hkH.out
    rw [hch] at hk
    have hkH2:=Hide.mk hk
    have K67:=((K6.trans K7).lo l2).trim
    clear hk hch hkH hRH hbdH hDeH hT hg1 hg2 hg3 hg4 hg5 hg6 hzD K6 K7 K4 g4 g5 p1 p2 p3 p4 p5 hsub S6 S4 hD hoD
    have hs7:=S7.cells
    have ws7:=Qdl (fz:=fz) hs7
    unfold stepC repC at ws7 hs7
    obtain ⟨⟨zek,zem⟩,⟨zak,zam⟩,-,-,-,-⟩:=S7.ks
    have hLa:=ref16_Last H r1.log xe7
    unfold lgC at hLa
    have hCm:=ref16_Committed H xa7 r1.acks r1.me (last r1.log) (by omega) hlst
    simp only [↓E1,E2,zA,zB,zC,zD,zE,zF,zG,zH,zI,zJ,zK,zL,zM,zN,reduceIte,zO,zP,Qd4,Qd8, *,E3]
    refine hLa.q1 S7.free S7.rs.1 ?_
    rintro v n8 l8 rfl
    simp only [↓E1,E2,zA,zB,zC,zD,zE,zF,zG,zH,zI,zJ,zK,zL,zM,zN,reduceIte,zO,zP,Qd4,Qd8, *,E3]
    refine hCm.q1 (S7.free.le l8) S7.rs.2.1 ?_
    rintro v n9 l9 rfl
    have S8:=(S7.le (Nat.le_trans l8 l9)).put (r':=Qgt r1) (vd':=false) rfl rfl rfl rfl
    have K8:=(K67.trans (S7.kput (c:=stepC (Qgt r1) xe7 xa7 .nsl .nsl xo false))).le2 (Nat.le_trans l8 l9)
    have hcell : stepC (Qgt r1) xe7 xa7 .nsl .nsl xo false = [I r1.me,I r1.nodes,I r1.view,I r1.normal,I r1.status,I (max r1.commit (commF r1.acks r1.me (last r1.log))),.bool r1.sent,I r1.log.base,r1.log.snap.sv,xe7,xa7,.nsl,.nsl,xo,.bool false]:=rfl
    have w8:=Qdl (fz:=fz) S8.cells
    rw [hcell] at S8 K8 w8
    clear hcell hLa hCm K67
    simp only [↓E1,E2,zA,zB,zC,zD,zE,zF,zG,zH,zI,zJ,zK,zL,zM,zN,reduceIte,zO,zP,Qd4,Qd8, *,E3]
    have hAll:=λ(k : KT Prop) (w : WK k)=>Qh8 H S8 (setM (Qgt r1)) .nsl xe7 (.inl ⟨.inl rfl,rfl⟩) S8.un hLz hl (N:=N) hNr.out hN7 (k:=k) (w:=w)
    refine hAll _ _ λm10 n10 o10 xo10 S10 K10=>?_
    simp only [↓E1,E2,zA,zB,zC,zD,zE,zF,zG,zH,zI,zJ,zK,zL,zM,zN,reduceIte,zO,zP,Qd4,Qd8, *,E3]
    exact hkH2.out _ _ _ _ _ _ _ _ S10 ((K8.weaken (λt h=>h.elim)).trans K10)
   ·have hch : Qeg r N = chose r N none:=by rw [hRH.out,hbdH.out,hDeH.out,List.getD_eq_getElem?_getD,List.getElem?_eq_getElem hbl,Option.getD_some,hT]
    have hk:=hkH.out
    rw [hch] at hk
    simp only [chose,List.append_nil] at hk
    have hk2:=hk _ _ _ _ _ _ _ _ S7 (((K6.trans K7).lo l2).trim.weaken (λt h=>h.elim))
    clear hk hch
    have ws7:=Qdl (fz:=fz) S7.cells
    unfold stepC repC at ws7
    simp only [↓E1,E2,zA,zB,zC,zD,zE,zF,zG,zH,zI,zJ,zK,zL,zM,zN,reduceIte,zO,zP, *,E3]
    all_goals exact hk2
end Go.Proofs.YtnnjlnkoomeadaaGreat.Pv
namespace Go.Proofs.YtnnjlnkoomeadaaGreat.Pv
open Go.Ev Go.Ev.Rp
set_option maxRecDepth 100000
set_option maxHeartbeats 4000000
def askG (r : Rep) : Msg:=⟨10,0,0,r.view,0,last r.log,0,0,0,0,0,0,0,0,tx0,[],⟨0,tx0,[]⟩,tx0⟩
def voteG (r : Rep) : Msg:=⟨8,0,0,r.view,r.normal,0,r.commit,0,0,0,0,0,0,0,tx0,[],r.log,tx0⟩
theorem Qq6 (r : Rep) : MsgSz (askG r):=⟨by simp [askG],⟨by simp [askG],by simp [askG]⟩⟩
theorem Qqc {r : Rep} (h : LgSz r.log) : MsgSz (voteG r):=⟨by simp [voteG],h⟩
def StepP (res : Rep × List Msg) (n : Nat) (M : Fz) (v : AV) : Prop:=∃ xe xa xs xd xo o,v = .tp [.ag (repC res.1 xe xa xs xd),.one xo] ∧ (∀ j,j < n → o j = 0) ∧ RepT o M res.1 xe xa xs xd ∧ OutT o M xo res.2
variable {P : Program} (H : Fs P)
include H
theorem step_ask {s : Nat} {r : Rep} {xe xa xs xd xo : SV} {vd : Bool} : Ctr P n_Qbh [.one (.optr s 0)] (λM=>M s = some (stepC r xe xa xs xd xo vd) ∧ EntsR M xe r.log.ents) (λ_ _ _ v=>v = .ag (msgC (askG r) .nsl .nsl)):=Ctr.of H.mx H.Qbh (λ_=>0) λfz mu n k hfr b hk=>by
 obtain ⟨b1,s1⟩:=b
 have hs:=hfr.lt b1
 have hne : (n = s) = False:=by simp; omega
 have hL:=replica_step_last H s r xe xa xs xd xo vd
 have b1':=b1
 have hkH:=Hide.mk hk
 clear hk
 unfold stepC repC at b1
 have g0:=(Gr.refl (lo:=n) hfr).cons (Nat.le_refl _) [I 0,I 0,I 0,I 0,I 0,I 0,I 0,I 0,I 0,I 0,I 0,I 0,I 0,I 0,.str 0 0,.nsl,I 0,.str 0 0,.nsl,.str 0 0]
 have hb1 : with' ((n,[I 0,I 0,I 0,I 0,I 0,I 0,I 0,I 0,I 0,I 0,I 0,I 0,I 0,I 0,.str 0 0,.nsl,I 0,.str 0 0,.nsl,.str 0 0]) :: mu) fz s = some (stepC r xe xa xs xd xo vd):=(g0.sub hfr (Nat.le_refl _)) _ _ b1'
 have hb1H:=Hide.mk hb1
 clear hb1 b1'
 rw [i_Qbh,dc_at b_Qbh.eq_1]
 simp only [↓E1,E2,zA,zB,zC,zD,zE,zF,zG,zH,zI,zJ,zK,zL,zM,zN,reduceIte,zO,zP, *,E3]
 refine hL.q1 g0.free ⟨hb1H.out,EntsR.mono (g0.sub hfr (Nat.le_refl _)) s1⟩ ?_
 rintro v n2 l2 rfl
 simp only [↓E1,E2,zA,zB,zC,zD,zE,zF,zG,zH,zI,zJ,zK,zL,zM,zN,reduceIte,zO,zP, *,E3]
 exact hkH.out _ _ _ (((Gr.refl (lo:=n) hfr).cons (Nat.le_refl _) (msgC (askG r) .nsl .nsl)).le2 l2) rfl
theorem Quz {s : Nat} {r : Rep} {xe xa xs xd xo : SV} {vd : Bool} : Ctr P n_Qa5 [.one (.optr s 0)] (λM=>M s = some (stepC r xe xa xs xd xo vd) ∧ EntsR M xe r.log.ents) (λ_ _ _ v=>v = .ag (msgC (voteG r) .nsl xe)):=Ctr.of H.mx H.Qa5 (λ_=>0) λfz mu n k hfr b hk=>by
 obtain ⟨b1,s1⟩:=b
 obtain ⟨-,-,xek,xem⟩:=s1.len
 have hs:=hfr.lt b1
 have hne : (n = s) = False:=by simp; omega
 have hkH:=Hide.mk hk
 clear hk
 unfold stepC repC at b1
 rw [i_Qa5,dc_at b_Qa5.eq_1]
 simp only [↓E1,E2,zA,zB,zC,zD,zE,zF,zG,zH,zI,zJ,zK,zL,zM,zN,reduceIte,zO,zP, *,E3]
 exact hkH.out _ _ _ ((Gr.refl (lo:=n) hfr).cons (Nat.le_refl _) (msgC (voteG r) .nsl xe)) rfl
theorem Qsw {lo : Nat} {fz : Fz} {s : Nat} {o : Nat → Nat} {mu : St} {n : Nat} {r : Rep} {out : List Msg} {vd : Bool} {xe xa xs xd xo : SV} (S : SW lo fz s o mu n r out vd xe xa xs xd xo)
 (hz : LgSz r.log) (hl : out.length ≤ 1000) {k : KT Prop} {w : WK k}
 (hk : ∀ mu' n' o' xo',SW lo fz s o' mu' n' r (out ++ [{ voteG r with frm:=r.me,to:=prim r.view r.nodes }]) vd xe xa xs xd xo' → Kp (· = 7) s o o' mu n mu' n' → k noVal mu' n') : CPh P n_Qbo [.one (.optr s 0)] fz mu n k w:=by
 refine CP_of H.Qbo H.mx 0 ?_
 obtain ⟨⟨xek,xem⟩,⟨xak,xam⟩,⟨xsk,xsm⟩,⟨xdk,xdm⟩,xok,xom⟩:=S.ks
 have ws:=Qdl (fz:=fz) S.cells
 have hP:=Qhn H s r xe xa xs xd xo vd r.view
 have hkH:=Hide.mk hk
 clear hk
 unfold stepC repC at ws
 rw [i_Qbo,dc_at b_Qbo.eq_1]
 simp only [↓E1,E2,zA,zB,zC,zD,zE,zF,zG,zH,zI,zJ,zK,zL,zM,zN,reduceIte,zO,zP, *,E3]
 refine hP.q1 S.free (Qdl S.cells) ?_
 rintro v n2 l2 rfl
 have hS:=λ(k : KT Prop) (w : WK k)=>Qk6 H (S.le l2) (prim r.view r.nodes) (voteG r) .nsl xe (.inl ⟨.inl rfl,rfl⟩) S.rs.1 hz hl (k:=k) (w:=w)
 simp only [↓E1,E2,zA,zB,zC,zD,zE,zF,zG,zH,zI,zJ,zK,zL,zM,zN,reduceIte,zO,zP, *,E3]
 refine hS _ _ λm3 n3 o3 xo3 S3 K3=>?_
 simp only [↓E1,E2,zA,zB,zC,zD,zE,zF,zG,zH,zI,zJ,zK,zL,zM,zN,reduceIte,zO,zP, *,E3]
 exact hkH.out _ _ _ _ S3 (K3.lo l2)
theorem Qm2 (s : Nat) (r r0 : Rep) (xe xa xs xd xo ye ya ys yd : SV) (hz : RepSz r0) : Ctr P n_Qbf [.one (.optr s 0),.ag (repC r0 ye ya ys yd)] (λM=>M s = some (stepC r xe xa xs xd xo true) ∧ RepS M r0 ye ya ys yd) (λn _ M v=>StepP (r0,[]) n M v):=Ctr.of H.mx H.Qbf (λ_=>0) λfz mu n k hfr h hk=>by
 obtain ⟨b1,s1⟩:=h
 obtain ⟨-,-,yek,yem⟩:=s1.1.len
 obtain ⟨-,-,yak,yam⟩:=s1.2.1.len
 obtain ⟨-,-,ysk,ysm⟩:=s1.2.2.1.len
 obtain ⟨-,-,ydk,ydm⟩:=s1.2.2.2.len
 have hs : s < n:=hfr.lt b1
 have hne : (n = s) = False:=by simp; omega
 have hne2 : (n + 1 = s) = False:=by simp; omega
 have hC:=replica_Clone H r0 ye ya ys yd hz
 have hkH:=Hide.mk hk
 clear hk
 unfold stepC repC at b1
 unfold repC at hC ⊢
 have g0:=((Gr.refl (lo:=n) hfr).cons (Nat.le_refl _) [I r0.me,I r0.nodes,I r0.view,I r0.normal,I r0.status,I r0.commit,.bool r0.sent,I r0.log.base,r0.log.snap.sv,ye,ya,ys,yd]).cons (by omega) [I 0,I 0,I 0,I 0,I 0,I 0,.bool false,I 0,.str 0 0,.nsl,.nsl,.nsl,.nsl]
 have b2 : Ev.look ((n + 1,[I 0,I 0,I 0,I 0,I 0,I 0,.bool false,I 0,.str 0 0,.nsl,.nsl,.nsl,.nsl]) :: (n,[I r0.me,I r0.nodes,I r0.view,I r0.normal,I r0.status,I r0.commit,.bool r0.sent,I r0.log.base,r0.log.snap.sv,ye,ya,ys,yd]) :: mu) (n + 1) = some [I 0,I 0,I 0,I 0,I 0,I 0,.bool false,I 0,.str 0 0,.nsl,.nsl,.nsl,.nsl]:=by rw [Qdw,if_pos rfl]
 rw [i_Qbf,dc_at b_Qbf.eq_1]
 simp only [↓E1,E2,zA,zB,zC,zD,zE,zF,zG,zH,zI,zJ,zK,zL,zM,zN,reduceIte,zO,zP, *,E3]
 refine hC.c1 g0.free (RepS.mono (g0.sub hfr (Nat.le_refl _)) s1) ?_
 rintro v m2 n2 g2 ⟨xe',xa',xs',xd',o,rfl,ho,hT⟩
 have l2:=g2.le
 have c2:=(g2.own (n + 1) (by omega)).trans b2
 have gz:=(g0.trans (g2.weaken (by omega))).put (id:=n + 1) (by omega) c2 (c:=[I r0.me,I r0.nodes,I r0.view,I r0.normal,I r0.status,I r0.commit,.bool r0.sent,I r0.log.base,r0.log.snap.sv,xe',xa',xs',xd'])
 have hT2:=hT.keep (M':=with' (putS m2 (n + 1) [I r0.me,I r0.nodes,I r0.view,I r0.normal,I r0.status,I r0.commit,.bool r0.sent,I r0.log.base,r0.log.snap.sv,xe',xa',xs',xd']) fz) (o':=o) λt h6 h7=>Tag.put (lookI c2) (by rw [ho _ (by omega)]; omega)
 obtain ⟨⟨es,t1,t2⟩,t3,t4,ds,t5,t6⟩:=hT
 obtain ⟨-,-,zek,zem⟩:=t1.len
 obtain ⟨-,-,zak,zam⟩:=SlX.len t3
 obtain ⟨-,-,zsk,zsm⟩:=SlX.len t4
 obtain ⟨-,-,zdk,zdm⟩:=SlX.len t5
 have w2:=Qdl (fz:=fz) c2
 clear t1 t2 t3 t4 t5 t6 hC b2
 simp only [↓E1,E2,zA,zB,zC,zD,zE,zF,zG,zH,zI,zJ,zK,zL,zM,zN,reduceIte,zO,zP, *,E3]
 exact hkH.out _ _ _ gz ⟨xe',xa',xs',xd',.nsl,o,rfl,λj hj=>ho j (by omega),hT2,⟨[],.inl ⟨.inl rfl,rfl⟩,trivial⟩⟩
end Go.Proofs.YtnnjlnkoomeadaaGreat.Pv
namespace Go.Proofs.YtnnjlnkoomeadaaGreat.Pv
open Go.Ev Go.Ev.Rp
set_option maxRecDepth 100000
set_option maxHeartbeats 4000000
theorem Qlm {r : Rep} (h : repB r = true) : Qid r.nodes = true ∧ countB r.view = true:=by
 unfold repB at h
 simp only [Bool.and_eq_true] at h
 exact ⟨h.1.1.1.1.1.1.1.1.1.1.1.1.1.1.1.1.1.1,h.1.1.1.1.1.1.1.1.1.1.1.1.1.2⟩
theorem rep_N {r : Rep} (h : repB r = true) : ∃ N : Nat,r.nodes = (N : Int) ∧ r.nodes.toNat = N ∧ 1 ≤ N ∧ N ≤ 7:=by
 have h1:=(Qlm h).1
 unfold Qid at h1
 simp only [Bool.or_eq_true,decide_eq_true_eq] at h1
 exact ⟨r.nodes.toNat,by omega,rfl,by omega,by omega⟩
def tickB (r : Rep) : Bool:=repB r && !leadB r && !decide (2147483647 ≤ r.view)
def tickS (r : Rep) : Rep × List Msg :=
 if tickB r then
  (if r.nodes = 1 then (if (Qeg (Qf5 r (r.view + 1) r.nodes.toNat) r.nodes.toNat).2.2 then (r,[]) else ((Qeg (Qf5 r (r.view + 1) r.nodes.toNat) r.nodes.toNat).1,allM r (Qek (r.view + 1)) r.nodes.toNat ++ (Qeg (Qf5 r (r.view + 1) r.nodes.toNat) r.nodes.toNat).2.1))
  else (Qf5 r (r.view + 1) r.nodes.toNat,allM r (Qek (r.view + 1)) r.nodes.toNat))
 else (r,[])
theorem Qjp (r : Rep) : (tickS r = (r, []) ∧ (repB r = false ∨ (repB r = true ∧ leadB r = true) ∨ (repB r = true ∧ leadB r = false ∧ decide (2147483647 ≤ r.view) = true))) ∨
 (repB r = true ∧ leadB r = false ∧ decide (2147483647 ≤ r.view) = false ∧ IntKind.i64.wrap (r.view + 1) = r.view + 1 ∧ ∃ N : Nat,r.nodes = (N : Int) ∧ 1 ≤ N ∧ N ≤ 7 ∧
  tickS r = (if r.nodes = 1 then (if (Qeg (Qf5 r (r.view + 1) N) N).2.2 then (r,[]) else ((Qeg (Qf5 r (r.view + 1) N) N).1,allM r (Qek (r.view + 1)) N ++ (Qeg (Qf5 r (r.view + 1) N) N).2.1)) else (Qf5 r (r.view + 1) N,allM r (Qek (r.view + 1)) N))):=by
 unfold tickS tickB
 cases h1 : repB r with
 | false=>exact .inl ⟨by simp,.inl rfl⟩
 | true =>
  cases h2 : leadB r with
  | true=>exact .inl ⟨by simp,.inr (.inl ⟨rfl,rfl⟩)⟩
  | false =>
   cases h3 : decide (2147483647 ≤ r.view) with
   | true=>exact .inl ⟨by simp,.inr (.inr ⟨rfl,rfl,rfl⟩)⟩
   | false =>
    obtain ⟨N,n1,n2,n3,n4⟩:=rep_N h1
    have h4:=(Qlm h1).2
    unfold countB at h4
    simp only [Bool.and_eq_true,decide_eq_true_eq] at h4
    have h5:=of_decide_eq_false h3
    refine .inr ⟨rfl,rfl,rfl,wrap64 (by omega) (by omega),N,n1,n3,n4,?_⟩
    rw [if_pos (by rfl),n2]
theorem Qki {r : Rep} (hz : RepSz r) (v : Int) {N : Nat} (hN : N ≤ 7) : RepSz (Qf5 r v N):=⟨hz.log,by simp [Qf5,anewR]; omega,by simp [Qf5,anewR],by simp [Qf5,anewR],λd hd=>by simp [Qf5,anewR] at hd⟩
variable {P : Program} (H : Fs P)
include H
theorem replica_Tick (hS : SortC P) (r : Rep) (xe xa xs xd : SV) (hz : RepSz r) : Ctr P n_Qcl [.ag (repC r xe xa xs xd)] (fun M => RepS M r xe xa xs xd) (fun n _ M v => StepP (tickS r) n M v) := Ctr.of H.mx H.Qcl (fun _ => 0) fun fz mu n k hfr s1 hk => by
 obtain ⟨-,-,xek,xem⟩:=s1.1.len
 obtain ⟨-,-,xak,xam⟩:=s1.2.1.len
 obtain ⟨-,-,xsk,xsm⟩:=s1.2.2.1.len
 obtain ⟨-,-,xdk,xdm⟩:=s1.2.2.2.len
 have hB:=replica_begin H r xe xa xs xd hz
 have hM:=replica_May H r xe xa xs xd (RepSz.s r hz).1 (RepSz.s r hz).2.1 (RepSz.s r hz).2.2
 have hkH:=Hide.mk hk
 clear hk
 unfold repC at hB hM ⊢
 rw [i_Qcl,dc_at b_Qcl.eq_1]
 simp only [↓E1,E2,zA,zB,zC,zD,zE,zF,zG,zH,zI,zJ,zK,zL,zM,zN,reduceIte,zO,zP, *]
 refine CPr.abs2 hfr λm1 n1 g1 l1 b1 b2=>?_
 have u1:=g1.sub hfr (Nat.le_refl _)
 refine hB.c1 g1.free (RepS.mono u1 s1) ?_
 rintro v m2 n2 g2 ⟨s,o,xe',xa',xs',xd',hP⟩
 have S2:=hP.sw g1.free g2
 obtain rfl:=hP.val
 have l2:=g2.le
 have hle:=hP.le
 have u2:=u1.trans (g2.sub g1.free (Nat.le_refl _))
 have gg:=g1.trans (g2.weaken (by omega))
 have c1:=(g2.own n (by omega)).trans b1
 have c2:=(g2.own (n + 1) (by omega)).trans b2
 have w1:=Qdl (fz:=fz) c1
 have w2:=Qdl (fz:=fz) c2
 have ws:=Qdl (fz:=fz) S2.cells
 have hNo:=replica_step_normal H s r xe' xa' xs' xd' .nsl false
 obtain ⟨⟨yek,yem⟩,⟨yak,yam⟩,⟨ysk,ysm⟩,⟨ydk,ydm⟩,yok,yom⟩:=S2.ks
 have hz1 : ∀ j,j < n1 → o j = 0:=hP.zero
 have hne : (n + 1 = s) = False:=by simp; omega
 unfold stepC repC at ws
 clear b1 b2 hB
 rcases Qjp r with ⟨hT,hrej⟩ | ⟨h1,h2,h3,hw,N,hN,h1N,hN7,hT⟩
 ·have hfin : ∀ n',n2 ≤ n' → k (.tp [.ag [I r.me,I r.nodes,I r.view,I r.normal,I r.status,I r.commit,.bool r.sent,I r.log.base,r.log.snap.sv,xe',xa',xs',xd'],.one .nsl]) (putS m2 (n + 1) [I r.me,I r.nodes,I r.view,I r.normal,I r.status,I r.commit,.bool r.sent,I r.log.base,r.log.snap.sv,xe',xa',xs',xd']) n':=λn' hn=>by
   have S3:=(S2.le hn).put0 (c:=[I r.me,I r.nodes,I r.view,I r.normal,I r.status,I r.commit,.bool r.sent,I r.log.base,r.log.snap.sv,xe',xa',xs',xd']) c2 (hz1 _ (by omega))
   refine hkH.out _ _ _ ((gg.le2 hn).put (id:=n + 1) (by omega) c2 (c:=[I r.me,I r.nodes,I r.view,I r.normal,I r.status,I r.commit,.bool r.sent,I r.log.base,r.log.snap.sv,xe',xa',xs',xd'])) ⟨xe',xa',xs',xd',.nsl,o,by rw [hT] <;> rfl,λj hj=>hz1 j (by omega),by rw [hT]; exact S3.rt,by rw [hT]; exact ⟨[],.inl ⟨.inl rfl,rfl⟩,trivial⟩⟩
  have hfinH:=Hide.mk hfin
  clear hfin hT
  rcases hrej with h1 | ⟨h1,h2⟩ | ⟨h1,h2,h3⟩
  ·simp only [↓E1,E2,zA,zB,zC,zD,zE,zF,zG,zH,zI,zJ,zK,zL,zM,zN,reduceIte,zO,zP, *,E3]
   refine hM.q0 S2.free (RepS.mono u2 s1) ?_
   rintro v n3 l3 rfl
   simp only [↓E1,E2,zA,zB,zC,zD,zE,zF,zG,zH,zI,zJ,zK,zL,zM,zN,reduceIte,zO,zP, *,E3]
   exact hfinH.out _ l3
  ·simp only [↓E1,E2,zA,zB,zC,zD,zE,zF,zG,zH,zI,zJ,zK,zL,zM,zN,reduceIte,zO,zP, *,E3]
   refine hM.q0 S2.free (RepS.mono u2 s1) ?_
   rintro v n3 l3 rfl
   simp only [↓E1,E2,zA,zB,zC,zD,zE,zF,zG,zH,zI,zJ,zK,zL,zM,zN,reduceIte,zO,zP, *,E3]
   refine hNo.q0 (S2.free.le l3) (Qdl S2.cells) ?_
   rintro v n4 l4 rfl
   simp only [↓E1,E2,zA,zB,zC,zD,zE,zF,zG,zH,zI,zJ,zK,zL,zM,zN,reduceIte,zO,zP, *,E3]
   exact hfinH.out _ (by omega)
  ·simp only [↓E1,E2,zA,zB,zC,zD,zE,zF,zG,zH,zI,zJ,zK,zL,zM,zN,reduceIte,zO,zP, *,E3]
   refine hM.q0 S2.free (RepS.mono u2 s1) ?_
   rintro v n3 l3 rfl
   simp only [↓E1,E2,zA,zB,zC,zD,zE,zF,zG,zH,zI,zJ,zK,zL,zM,zN,reduceIte,zO,zP, *,E3]
   refine hNo.q0 (S2.free.le l3) (Qdl S2.cells) ?_
   rintro v n4 l4 rfl
   simp only [↓E1,E2,zA,zB,zC,zD,zE,zF,zG,zH,zI,zJ,zK,zL,zM,zN,reduceIte,zO,zP, *,E3]
   exact hfinH.out _ (by omega)
 ·have hNH:=Hide.mk hN
  have hTH:=Hide.mk hT
  clear hN hT
  simp only [↓E1,E2,zA,zB,zC,zD,zE,zF,zG,zH,zI,zJ,zK,zL,zM,zN,reduceIte,zO,zP, *,E3]
  refine hM.q0 S2.free (RepS.mono u2 s1) ?_
  rintro v n3 l3 rfl
  simp only [↓E1,E2,zA,zB,zC,zD,zE,zF,zG,zH,zI,zJ,zK,zL,zM,zN,reduceIte,zO,zP, *,E3]
  refine hNo.q0 (S2.free.le l3) (Qdl S2.cells) ?_
  rintro v n4 l4 rfl
  have S4:=S2.le (Nat.le_trans l3 l4)
  simp only [↓E1,E2,zA,zB,zC,zD,zE,zF,zG,zH,zI,zJ,zK,zL,zM,zN,reduceIte,zO,zP, *,E3]
  refine Qsd H S4 (r.view + 1) hNH.out hN7 (by simp) λm5 n5 o5 xa5 xo5 S5 K5=>?_
  have z0 : ∀ j,j < n1 → o5 j = 0:=λj hj=>by rw [K5.tags j (by omega)]; exact hz1 j hj
  have d1:=(K5.keep n (by omega) (by omega) (by rw [hz1 n (by omega)]; omega)).trans c1
  have d2:=(K5.keep (n + 1) (by omega) (by omega) (by rw [hz1 (n + 1) (by omega)]; omega)).trans c2
  have gK5:=K5.gr S5.free S2.los (by omega) S2.zero (by omega)
  have g5:=(gg.le2 (Nat.le_trans l3 l4)).trans (gK5.weaken (show n ≤ n1 by omega))
  have ln5:=K5.le
  obtain ⟨r5,hr5⟩ : ∃ r5,Qf5 r (r.view + 1) N = r5:=⟨_,rfl⟩
  have hz5 : RepSz r5:=by rw [← hr5]; exact Qki hz _ hN7
  have hn5 : r5.nodes = r.nodes:=by rw [← hr5]; rfl
  have hNH5 : Hide (r5.nodes = (N : Int)):=⟨hn5.trans hNH.out⟩
  have hT:=hTH.out
  rw [hr5,← hn5] at hT
  rw [hr5,List.nil_append] at S5
  have hTH2:=Hide.mk hT
  have u5:=g5.sub hfr (Nat.le_refl _)
  clear hT hTH hr5 hn5 hz1 S4 S2 hP K5 gK5 c1 c2 w1 w2 ws g2 g1 hNo hM gg u1 u2
  have w1:=Qdl (fz:=fz) d1
  have w2:=Qdl (fz:=fz) d2
  have ws5:=Qdl (fz:=fz) S5.cells
  obtain ⟨⟨zek,zem⟩,⟨zak,zam⟩,-,-,zok,zom⟩:=S5.ks
  unfold stepC repC at ws5
  cases h7 : decide (r5.nodes = 1) with
  | false =>
   have hE:=replica_step_end H s r5 r xe' xa5 .nsl .nsl xo5 xe xa xs xd ⟨zek,zak,rfl,rfl,zok⟩
   unfold repC at hE
   simp only [↓E1,E2,zA,zB,zC,zD,zE,zF,zG,zH,zI,zJ,zK,zL,zM,zN,reduceIte,zO,zP, *,E3]
   refine hE.q0 S5.free ⟨Qdl S5.cells,RepS.mono u5 s1⟩ ?_
   rintro v n6 l6 rfl
   have hT:=hTH2.out
   rw [if_neg (of_decide_eq_false h7)] at hT
   have S6:=(S5.le l6).put0 (c:=[I r5.me,I r5.nodes,I r5.view,I r5.normal,I r5.status,I r5.commit,.bool r5.sent,I r5.log.base,r5.log.snap.sv,xe',xa5,.nsl,.nsl]) d2 (z0 _ (by omega))
   have hk:=hkH.out _ _ _ ((g5.le2 l6).put (id:=n + 1) (by omega) d2 (c:=[I r5.me,I r5.nodes,I r5.view,I r5.normal,I r5.status,I r5.commit,.bool r5.sent,I r5.log.base,r5.log.snap.sv,xe',xa5,.nsl,.nsl])) ⟨xe',xa5,.nsl,.nsl,xo5,o5,by rw [hT] <;> rfl,λj hj=>z0 j (by omega),by rw [hT]; exact S6.rt,by rw [hT]; exact S6.ot⟩
   clear hT S6 hE
   simp only [↓E1,E2,zA,zB,zC,zD,zE,zF,zG,zH,zI,zJ,zK,zL,zM,zN,reduceIte,zO,zP, *,E3]
   all_goals exact hk
  | true =>
   simp only [↓E1,E2,zA,zB,zC,zD,zE,zF,zG,zH,zI,zJ,zK,zL,zM,zN,reduceIte,zO,zP, *,E3]
   have hT:=hTH2.out
   rw [if_pos (of_decide_eq_true h7)] at hT
   have hT3:=Hide.mk hT
   clear hT hTH2
   refine Qo8 H hS S5 hNH5.out hN7 h1N hz5 (by have:=Qee r (Qek (r.view + 1)) N; omega) λm6 n6 o6 xe6 xa6 xs6 xd6 xo6 S6 K6=>?_
   have ln6:=K6.le
   have z6 : ∀ j,j < n1 → o6 j = 0:=λj hj=>by rw [K6.tags j (by omega)]; exact z0 j hj
   have e1:=(K6.keep n (by omega) (by omega) (by rw [z0 n (by omega)]; omega)).trans d1
   have e2:=(K6.keep (n + 1) (by omega) (by omega) (by rw [z0 (n + 1) (by omega)]; omega)).trans d2
   have g6:=g5.trans ((K6.gr S6.free S5.los (by omega) S5.zero (by omega)).weaken (show n ≤ n1 by omega))
   have u6:=g6.sub hfr (Nat.le_refl _)
   obtain ⟨⟨tek,tem⟩,⟨tak,tam⟩,⟨tsk,tsm⟩,⟨tdk,tdm⟩,tok,tom⟩:=S6.ks
   obtain ⟨ch,hch⟩ : ∃ ch,Qeg r5 N = ch:=⟨_,rfl⟩
   obtain ⟨r6,out6,vd6⟩:=ch
   have hT:=hT3.out
   rw [hch] at hT S6
   simp only at hT S6
   have hT4:=Hide.mk hT
   clear hT hT3 hch S5 ws5 w1 w2 d1 d2 K6 u5 g5
   have w1:=Qdl (fz:=fz) e1
   have w2:=Qdl (fz:=fz) e2
   cases vd6 with
   | false =>
    have hE:=replica_step_end H s r6 r xe6 xa6 xs6 xd6 xo6 xe xa xs xd ⟨tek,tak,tsk,tdk,tok⟩
    unfold repC at hE
    simp only [↓E1,E2,zA,zB,zC,zD,zE,zF,zG,zH,zI,zJ,zK,zL,zM,zN,reduceIte,zO,zP, *,E3]
    refine hE.q0 S6.free ⟨Qdl S6.cells,RepS.mono u6 s1⟩ ?_
    rintro v n7 l7 rfl
    have hT:=hT4.out
    rw [if_neg (by decide)] at hT
    have S7:=(S6.le l7).put0 (c:=[I r6.me,I r6.nodes,I r6.view,I r6.normal,I r6.status,I r6.commit,.bool r6.sent,I r6.log.base,r6.log.snap.sv,xe6,xa6,xs6,xd6]) e2 (z6 _ (by omega))
    have hk:=hkH.out _ _ _ ((g6.le2 l7).put (id:=n + 1) (by omega) e2 (c:=[I r6.me,I r6.nodes,I r6.view,I r6.normal,I r6.status,I r6.commit,.bool r6.sent,I r6.log.base,r6.log.snap.sv,xe6,xa6,xs6,xd6])) ⟨xe6,xa6,xs6,xd6,xo6,o6,by rw [hT] <;> rfl,λj hj=>z6 j (by omega),by rw [hT]; exact S7.rt,by rw [hT]; exact S7.ot⟩
    clear hT S7 hE
    simp only [↓E1,E2,zA,zB,zC,zD,zE,zF,zG,zH,zI,zJ,zK,zL,zM,zN,reduceIte,zO,zP, *,E3]
    all_goals exact hk
   | true =>
    have hE:=Qm2 H s r6 r xe6 xa6 xs6 xd6 xo6 xe xa xs xd hz
    unfold repC at hE
    simp only [↓E1,E2,zA,zB,zC,zD,zE,zF,zG,zH,zI,zJ,zK,zL,zM,zN,reduceIte,zO,zP, *,E3]
    refine hE.c1 S6.free ⟨Qdl S6.cells,RepS.mono u6 s1⟩ ?_
    rintro v m7 n7 g7 ⟨ye,ya,ys,yd,yo,o7,rfl,ho7,hT7,hO7⟩
    have ln7:=g7.le
    have hT:=hT4.out
    rw [if_pos rfl] at hT
    have f2:=(g7.own (n + 1) (by omega)).trans e2
    have hput : ∀ t,t ≠ 0 → Sub (Tag o7 t (with' m7 fz)) (Tag o7 t (with' (putS m7 (n + 1) [I r.me,I r.nodes,I r.view,I r.normal,I r.status,I r.commit,.bool r.sent,I r.log.base,r.log.snap.sv,ye,ya,ys,yd]) fz)):=λt ht=>Tag.put (lookI f2) (by rw [ho7 _ (by omega)]; omega)
    have hk:=hkH.out _ _ _ ((g6.trans (g7.weaken (by omega))).put (id:=n + 1) (by omega) f2 (c:=[I r.me,I r.nodes,I r.view,I r.normal,I r.status,I r.commit,.bool r.sent,I r.log.base,r.log.snap.sv,ye,ya,ys,yd])) ⟨ye,ya,ys,yd,yo,o7,by rw [hT] <;> rfl,λj hj=>ho7 j (by omega),by rw [hT]; exact hT7.keep λt h6 h7=>hput t (by omega),by rw [hT]; exact hO7.keep (hput 2 (by omega)) (hput 7 (by omega)) (hput 8 (by omega))⟩
    obtain ⟨⟨es,t1,t2⟩,t3,t4,ds,t5,t6⟩:=hT7
    obtain ⟨os,t7,t8⟩:=hO7
    obtain ⟨-,-,vek,vem⟩:=t1.len
    obtain ⟨-,-,vak,vam⟩:=SlX.len t3
    obtain ⟨-,-,vsk,vsm⟩:=SlX.len t4
    obtain ⟨-,-,vdk,vdm⟩:=SlX.len t5
    obtain ⟨-,-,vok,vom⟩:=SlX.len t7
    have w7:=Qdl (fz:=fz) f2
    clear hT hE t1 t2 t3 t4 t5 t6 t7 t8 hput w2 e2
    unfold repC
    simp only [↓E1,E2,zA,zB,zC,zD,zE,zF,zG,zH,zI,zJ,zK,zL,zM,zN,reduceIte,zO,zP, *,E3]
    all_goals exact hk
end Go.Proofs.YtnnjlnkoomeadaaGreat.Pv
namespace Go.Proofs.YtnnjlnkoomeadaaGreat.Pv
open Go.Ev Go.Ev.Rp
set_option maxRecDepth 100000
set_option maxHeartbeats 4000000
theorem SW.ofCopy {lo : Nat} {fz : Fz} {m6 : St} {n6 : Nat} {r : Rep} {o : Nat → Nat} {xe' xa' xs' xd' : SV} (hf : Free fz m6 n6) (hfz : ∀ j,lo ≤ j → fz j = none) (hlo : lo ≤ n6) (ho : ∀ j,j < lo → o j = 0) (hT : RepT o (with' m6 fz) r xe' xa' xs' xd') :
 SW lo fz n6 (λj=>if j = n6 then 9 else if j < n6 then o j else 0) ((n6,stepC r xe' xa' xs' xd' .nsl false) :: m6) (n6 + 1) r [] false xe' xa' xs' xd' .nsl:=by
 have g7:=(Gr.refl (lo:=n6) hf).cons (Nat.le_refl _) (stepC r xe' xa' xs' xd' .nsl false)
 refine ⟨by rw [Qdw,if_pos rfl],hT.keep λt _ _ j B hj=>?_,⟨[],.inl ⟨.inl rfl,rfl⟩,trivial⟩,g7.free,hlo,by simp,λj hj=>by rw [if_neg (by omega),if_pos (by omega)]; exact ho j (by omega),hfz⟩
 obtain ⟨p1,p2⟩:=Tag.el hj
 have p3:=hf.lt p2
 exact Tag.at (by rw [if_neg (by omega),if_pos p3]; exact p1) (by rw [Qed,if_neg (by omega)]; exact p2)
variable {P : Program} (H : Fs P)
include H
theorem ref16_Tick (r : Rep) (xe xa xs xd : SV) (hz : RepSz r) (hok1 : Ok r.log) (hok2 : ∀ d ∈ r.dos, Ok d.log) : Ctr P n_Qc5 [.ag (repC r xe xa xs xd)] (fun M => RepS M r xe xa xs xd) (fun n _ M v => StepP (tickS r) n M v) := Ctr.of H.mx H.Qc5 (fun _ => 0) fun fz mu n k hfr s1 hk => by
 obtain ⟨-,-,xek,xem⟩:=s1.1.len
 obtain ⟨-,-,xak,xam⟩:=s1.2.1.len
 obtain ⟨-,-,xsk,xsm⟩:=s1.2.2.1.len
 obtain ⟨-,-,xdk,xdm⟩:=s1.2.2.2.len
 have hC:=ref16_Copy H r xe xa xs xd hz
 have hM:=ref16_May H r xe xa xs xd (RepSz.s r hz).1 (RepSz.s r hz).2.1 (RepSz.s r hz).2.2 hok1 hok2
 have hLd:=ref16_lead H r xe xa xs xd
 have hkH:=Hide.mk hk
 clear hk
 unfold repC at hC hM hLd ⊢
 rw [i_Qc5,dc_at b_Qc5.eq_1]
 simp only [↓E1,E2,zA,zB,zC,zD,zE,zF,zG,zH,zI,zJ,zK,zL,zM,zN,reduceIte,zO,zP, *]
 refine CPr.abs2 hfr λm1 n1 g1 l1 b1 b2=>?_
 have u1:=g1.sub hfr (Nat.le_refl _)
 refine hC.c1 g1.free (RepS.mono u1 s1) ?_
 rintro v m2 n2 g2 ⟨ye,ya,ys,yd,o,rfl,ho,hT⟩
 have l2:=g2.le
 have c1:=(g2.own n (by omega)).trans b1
 have c2:=(g2.own (n + 1) (by omega)).trans b2
 have w1:=Qdl (fz:=fz) c1
 have w2:=Qdl (fz:=fz) c2
 obtain ⟨⟨es,t1,t2⟩,t3,t4,ds,t5,t6⟩:=hT
 have hT : RepT o (with' m2 fz) r ye ya ys yd:=⟨⟨es,t1,t2⟩,t3,t4,ds,t5,t6⟩
 obtain ⟨-,-,yek,yem⟩:=t1.len
 obtain ⟨-,-,yak,yam⟩:=SlX.len t3
 obtain ⟨-,-,ysk,ysm⟩:=SlX.len t4
 obtain ⟨-,-,ydk,ydm⟩:=SlX.len t5
 have g3:=(g1.trans (g2.weaken (by omega))).cons (by omega) [I r.me,I r.nodes,I r.view,I r.normal,I r.status,I r.commit,.bool r.sent,I r.log.base,r.log.snap.sv,ye,ya,ys,yd]
 have g23:=(Gr.refl (lo:=n2) g2.free).cons (Nat.le_refl _) [I r.me,I r.nodes,I r.view,I r.normal,I r.status,I r.commit,.bool r.sent,I r.log.base,r.log.snap.sv,ye,ya,ys,yd]
 have hT3 : RepT (trim o n2) (with' ((n2,[I r.me,I r.nodes,I r.view,I r.normal,I r.status,I r.commit,.bool r.sent,I r.log.base,r.log.snap.sv,ye,ya,ys,yd]) :: m2) fz) r ye ya ys yd:=hT.keep λt _ _ j B hj=>by
  obtain ⟨p1,p2⟩:=Tag.el hj
  have p3:=g2.free.lt p2
  exact Tag.at (by rw [Qfz p3]; exact p1) (by rw [Qed,if_neg (by omega)]; exact p2)
 have hz3 : ∀ j,j < n1 → trim o n2 j = 0:=λj hj=>by rw [Qfz (by omega)]; exact ho j hj
 have hn1 : (n = n2) = False:=by simp; omega
 have hn2 : (n + 1 = n2) = False:=by simp; omega
 have hn3 : (n2 = n) = False:=by simp; omega
 have hn4 : (n2 = n + 1) = False:=by simp; omega
 have d1 : Ev.look ((n2,[I r.me,I r.nodes,I r.view,I r.normal,I r.status,I r.commit,.bool r.sent,I r.log.base,r.log.snap.sv,ye,ya,ys,yd]) :: m2) n = some [I r.me,I r.nodes,I r.view,I r.normal,I r.status,I r.commit,.bool r.sent,I r.log.base,r.log.snap.sv,xe,xa,xs,xd]:=by rw [Qdw,if_neg (by omega)]; exact c1
 have d2 : Ev.look ((n2,[I r.me,I r.nodes,I r.view,I r.normal,I r.status,I r.commit,.bool r.sent,I r.log.base,r.log.snap.sv,ye,ya,ys,yd]) :: m2) (n + 1) = some [I 0,I 0,I 0,I 0,I 0,I 0,.bool false,I 0,.str 0 0,.nsl,.nsl,.nsl,.nsl]:=by rw [Qdw,if_neg (by omega)]; exact c2
 have d3 : Ev.look ((n2,[I r.me,I r.nodes,I r.view,I r.normal,I r.status,I r.commit,.bool r.sent,I r.log.base,r.log.snap.sv,ye,ya,ys,yd]) :: m2) n2 = some [I r.me,I r.nodes,I r.view,I r.normal,I r.status,I r.commit,.bool r.sent,I r.log.base,r.log.snap.sv,ye,ya,ys,yd]:=by rw [Qdw,if_pos rfl]
 clear t1 t2 t3 t4 t5 t6 hT
 simp only [↓E1,E2,zA,zB,zC,zD,zE,zF,zG,zH,zI,zJ,zK,zL,zM,zN,reduceIte,zO,zP, *,E3]
 obtain ⟨m3,hm3⟩ : ∃ m,((n2,[I r.me,I r.nodes,I r.view,I r.normal,I r.status,I r.commit,.bool r.sent,I r.log.base,r.log.snap.sv,ye,ya,ys,yd]) :: m2) = m:=⟨_,rfl⟩
 rw [hm3] at g3 g23 hT3 d1 d2 d3
 try rw [hm3]
 have u3:=g3.sub hfr (Nat.le_refl _)
 clear hm3 w1 w2 c1 c2 b1 b2 g23
 have w1:=Qdl (fz:=fz) d1
 have w2:=Qdl (fz:=fz) d2
 have w3:=Qdl (fz:=fz) d3
 rcases Qjp r with ⟨hT,hrej⟩ | ⟨h1,h2,h3,hw,N,hN,h1N,hN7,hT⟩
 ·have hfin : ∀ n',n2 + 1 ≤ n' → k (.tp [.ag [I r.me,I r.nodes,I r.view,I r.normal,I r.status,I r.commit,.bool r.sent,I r.log.base,r.log.snap.sv,ye,ya,ys,yd],.one .nsl]) (putS m3 (n + 1) [I r.me,I r.nodes,I r.view,I r.normal,I r.status,I r.commit,.bool r.sent,I r.log.base,r.log.snap.sv,ye,ya,ys,yd]) n':=λn' hn=>by
   have hput : ∀ t,t ≠ 0 → Sub (Tag (trim o n2) t (with' m3 fz)) (Tag (trim o n2) t (with' (putS m3 (n + 1) [I r.me,I r.nodes,I r.view,I r.normal,I r.status,I r.commit,.bool r.sent,I r.log.base,r.log.snap.sv,ye,ya,ys,yd]) fz)):=λt ht=>Tag.put (lookI d2) (by rw [hz3 _ (by omega)]; omega)
   exact hkH.out _ _ _ ((g3.le2 hn).put (id:=n + 1) (by omega) d2 (c:=[I r.me,I r.nodes,I r.view,I r.normal,I r.status,I r.commit,.bool r.sent,I r.log.base,r.log.snap.sv,ye,ya,ys,yd])) ⟨ye,ya,ys,yd,.nsl,trim o n2,by rw [hT] <;> rfl,λj hj=>hz3 j (by omega),by rw [hT]; exact hT3.keep λt h6 h7=>hput t (by omega),by rw [hT]; exact ⟨[],.inl ⟨.inl rfl,rfl⟩,trivial⟩⟩
  have hfinH:=Hide.mk hfin
  clear hfin hT
  rcases hrej with h1 | ⟨h1,h2⟩ | ⟨h1,h2,h3⟩
  ·refine hM.q0 g3.free (RepS.mono u3 s1) ?_
   rintro v n3 l3 rfl
   simp only [↓E1,E2,zA,zB,zC,zD,zE,zF,zG,zH,zI,zJ,zK,zL,zM,zN,reduceIte,zO,zP, *,E3]
   exact hfinH.out _ l3
  ·refine hM.q0 g3.free (RepS.mono u3 s1) ?_
   rintro v n3 l3 rfl
   simp only [↓E1,E2,zA,zB,zC,zD,zE,zF,zG,zH,zI,zJ,zK,zL,zM,zN,reduceIte,zO,zP, *,E3]
   refine hLd.q0 (g3.free.le l3) (RepS.mono u3 s1) ?_
   rintro v n4 l4 rfl
   simp only [↓E1,E2,zA,zB,zC,zD,zE,zF,zG,zH,zI,zJ,zK,zL,zM,zN,reduceIte,zO,zP, *,E3]
   exact hfinH.out _ (by omega)
  ·refine hM.q0 g3.free (RepS.mono u3 s1) ?_
   rintro v n3 l3 rfl
   simp only [↓E1,E2,zA,zB,zC,zD,zE,zF,zG,zH,zI,zJ,zK,zL,zM,zN,reduceIte,zO,zP, *,E3]
   refine hLd.q0 (g3.free.le l3) (RepS.mono u3 s1) ?_
   rintro v n4 l4 rfl
   simp only [↓E1,E2,zA,zB,zC,zD,zE,zF,zG,zH,zI,zJ,zK,zL,zM,zN,reduceIte,zO,zP, *,E3]
   exact hfinH.out _ (by omega)
 ·have hNH:=Hide.mk hN
  have hTH:=Hide.mk hT
  clear hN hT
  refine hM.q0 g3.free (RepS.mono u3 s1) ?_
  rintro v n3 l3 rfl
  simp only [↓E1,E2,zA,zB,zC,zD,zE,zF,zG,zH,zI,zJ,zK,zL,zM,zN,reduceIte,zO,zP, *,E3]
  refine hLd.q0 (g3.free.le l3) (RepS.mono u3 s1) ?_
  rintro v n4 l4 rfl
  simp only [↓E1,E2,zA,zB,zC,zD,zE,zF,zG,zH,zI,zJ,zK,zL,zM,zN,reduceIte,zO,zP, *,E3]
  refine hC.c1 ((g3.free.le l3).le l4) (RepS.mono u3 s1) ?_
  rintro v m6 n6 g6 ⟨ze,za,zs,zd,o6,rfl,ho6,hT6⟩
  have l6:=g6.le
  obtain ⟨⟨es,t1,t2⟩,t3,t4,ds,t5,t6⟩:=hT6
  have hT6 : RepT o6 (with' m6 fz) r ze za zs zd:=⟨⟨es,t1,t2⟩,t3,t4,ds,t5,t6⟩
  obtain ⟨-,-,zek,zem⟩:=t1.len
  obtain ⟨-,-,zak,zam⟩:=SlX.len t3
  obtain ⟨-,-,zsk,zsm⟩:=SlX.len t4
  obtain ⟨-,-,zdk,zdm⟩:=SlX.len t5
  have S7:=SW.ofCopy (lo:=n4) g6.free (λj hj=>hfr.fz j (by omega)) l6 ho6 hT6
  have hfr6:=g6.free
  have g7 : Gr n4 fz m3 ((n6,stepC r ze za zs zd .nsl false) :: m6) n4 (n6 + 1):=g6.cons l6 _
  clear t1 t2 t3 t4 t5 t6 hT6
  have hcellr : stepC r ze za zs zd .nsl false = [I r.me,I r.nodes,I r.view,I r.normal,I r.status,I r.commit,.bool r.sent,I r.log.base,r.log.snap.sv,ze,za,zs,zd,.nsl,.bool false]:=rfl
  rw [hcellr] at S7 g7
  have e1:=(g7.own n (by omega)).trans d1
  have e2:=(g7.own (n + 1) (by omega)).trans d2
  have e3:=(g7.own n2 (by omega)).trans d3
  have e1w:=(g6.own n (by omega)).trans d1
  have v1:=Qdl (fz:=fz) e1w
  have hq1 : (n6 = n) = False:=by simp; omega
  have hq2 : (n6 = n + 1) = False:=by simp; omega
  have hfinS : ∀ (m : St) (n' : Nat) (r' : Rep) (out : List Msg) (oo : Nat → Nat) (pe pa ps pd po : SV),SW n4 fz n6 oo m n' r' out false pe pa ps pd po → Ev.look m (n + 1) = some [I 0,I 0,I 0,I 0,I 0,I 0,.bool false,I 0,.str 0 0,.nsl,.nsl,.nsl,.nsl] → Gr n fz mu m n n' → tickS r = (r',out) →
   k (.tp [.ag [I r'.me,I r'.nodes,I r'.view,I r'.normal,I r'.status,I r'.commit,.bool r'.sent,I r'.log.base,r'.log.snap.sv,pe,pa,ps,pd],.one po]) ((n + 1,[I r'.me,I r'.nodes,I r'.view,I r'.normal,I r'.status,I r'.commit,.bool r'.sent,I r'.log.base,r'.log.snap.sv,pe,pa,ps,pd]) :: killS m (n + 1)) n':=λm n' r' out oo pe pa ps pd po S e2 g hT=>by
   have S':=S.put0 (c:=[I r'.me,I r'.nodes,I r'.view,I r'.normal,I r'.status,I r'.commit,.bool r'.sent,I r'.log.base,r'.log.snap.sv,pe,pa,ps,pd]) e2 (S.zero _ (by omega))
   have g':=g.put (id:=n + 1) (by omega) e2 (c:=[I r'.me,I r'.nodes,I r'.view,I r'.normal,I r'.status,I r'.commit,.bool r'.sent,I r'.log.base,r'.log.snap.sv,pe,pa,ps,pd])
   have hX:=Qpe (c:=[I r'.me,I r'.nodes,I r'.view,I r'.normal,I r'.status,I r'.commit,.bool r'.sent,I r'.log.base,r'.log.snap.sv,pe,pa,ps,pd]) e2
   have hXw:=Qhy (fz:=fz) hX
   exact hkH.out _ _ _ (g'.congr hX) ⟨pe,pa,ps,pd,po,oo,by rw [hT] <;> rfl,λj hj=>S.zero j (by omega),by rw [hT,hXw]; exact S'.rt,by rw [hT,hXw]; exact S'.ot⟩
  have hfinSH:=Hide.mk hfinS
  have hvoid : ∀ (m : St) (n' : Nat),Gr n4 fz m3 m n4 n' → tickS r = (r,[]) → k (.tp [.ag [I r.me,I r.nodes,I r.view,I r.normal,I r.status,I r.commit,.bool r.sent,I r.log.base,r.log.snap.sv,ye,ya,ys,yd],.one .nsl]) (putS m (n + 1) [I r.me,I r.nodes,I r.view,I r.normal,I r.status,I r.commit,.bool r.sent,I r.log.base,r.log.snap.sv,ye,ya,ys,yd]) n':=λm n' g hT=>by
   have d2':=(g.own (n + 1) (by omega)).trans d2
   have hput : ∀ t,t ≠ 0 → Sub (Tag (trim o n2) t (with' m fz)) (Tag (trim o n2) t (with' (putS m (n + 1) [I r.me,I r.nodes,I r.view,I r.normal,I r.status,I r.commit,.bool r.sent,I r.log.base,r.log.snap.sv,ye,ya,ys,yd]) fz)):=λt ht=>Tag.put (lookI d2') (by rw [hz3 _ (by omega)]; omega)
   have hsub:=g.sub (g3.free.le (show n2 + 1 ≤ n4 by omega)) (Nat.le_refl _)
   have hT4 : RepT (trim o n2) (with' m fz) r ye ya ys yd:=hT3.keep λt _ _ j B hj=>by
    obtain ⟨p1,p2⟩:=Tag.el hj
    exact Tag.at p1 (hsub _ _ p2)
   exact hkH.out _ _ _ (((g3.le2 (show n2 + 1 ≤ n4 by omega)).trans (g.weaken (by omega))).put (id:=n + 1) (by omega) d2' (c:=[I r.me,I r.nodes,I r.view,I r.normal,I r.status,I r.commit,.bool r.sent,I r.log.base,r.log.snap.sv,ye,ya,ys,yd])) ⟨ye,ya,ys,yd,.nsl,trim o n2,by rw [hT] <;> rfl,λj hj=>hz3 j (by omega),by rw [hT]; exact hT4.keep λt h6 h7=>hput t (by omega),by rw [hT]; exact ⟨[],.inl ⟨.inl rfl,rfl⟩,trivial⟩⟩
  have hvoidH:=Hide.mk hvoid
  clear hfinS hvoid w1 w2 w3 hcellr hM hLd hC
  simp only [↓E1,E2,zA,zB,zC,zD,zE,zF,zG,zH,zI,zJ,zK,zL,zM,zN,reduceIte,zO,zP, *,E3]
  refine Qr3 H S7 (r.view + 1) hNH.out hN7 (by simp) λm8 n8 o8 xa8 xo8 S8 K8=>?_
  have ln8:=K8.le
  have g8:=K8.gr S8.free S7.los (by omega) S7.zero (by omega)
  have g38:=g7.trans g8
  obtain ⟨r8,hr8⟩ : ∃ r8,Qf5 r (r.view + 1) N = r8:=⟨_,rfl⟩
  have hz8 : RepSz r8:=by rw [← hr8]; exact Qki hz _ hN7
  have hok8 : Ok r8.log:=by rw [← hr8]; exact hok1
  have hod8 : ∀ d ∈ r8.dos,Ok d.log:=by rw [← hr8]; intro d hd; cases hd
  have hNH8 : Hide (r8.nodes = (N : Int)):=⟨by rw [← hr8]; exact hNH.out⟩
  have hT:=hTH.out
  rw [hr8] at hT
  rw [hr8,List.nil_append] at S8
  have hTH2:=Hide.mk hT
  have i1:=(g8.own n (by omega)).trans e1
  have i2:=(g8.own (n + 1) (by omega)).trans e2
  have i3:=(g8.own n2 (by omega)).trans e3
  clear hT hTH hr8 S7 K8 g7 g6 e1 e2 e3 e1w v1 hq1 hq2 g8
  have w1:=Qdl (fz:=fz) i1
  have w2:=Qdl (fz:=fz) i2
  have ws8:=Qdl (fz:=fz) S8.cells
  obtain ⟨-,⟨pak,pam⟩,-,-,pok,pom⟩:=S8.ks
  unfold stepC repC at ws8
  have hns : (n + 1 = n6) = False:=by simp; omega
  cases h7 : decide (r.nodes = 1) with
  | false =>
   have hT:=hTH2.out
   rw [if_neg (of_decide_eq_false h7)] at hT
   have hk:=hfinSH.out _ _ _ _ _ _ _ _ _ _ S8 i2 ((g3.le2 (show n2 + 1 ≤ n4 by omega)).trans (g38.weaken (by omega))) hT
   clear hT
   simp only [↓E1,E2,zA,zB,zC,zD,zE,zF,zG,zH,zI,zJ,zK,zL,zM,zN,reduceIte,zO,zP, *,E3]
   rw [Qej i2 rfl]
   have hw8:=(Qdq (fz:=fz) (show Ev.look (killS m8 (n + 1)) n6 = Ev.look m8 n6 by rw [Qdz,if_neg (by omega)])).trans (Qdl S8.cells)
   unfold stepC repC at hw8
   clear ws8
   simp only [↓E1,E2,zA,zB,zC,zD,zE,zF,zG,zH,zI,zJ,zK,zL,zM,zN,reduceIte,zO,zP, *,E3]
   all_goals exact hk
  | true =>
   have hT:=hTH2.out
   rw [if_pos (of_decide_eq_true h7)] at hT
   have hT3:=Hide.mk hT
   clear hT hTH2
   simp only [↓E1,E2,zA,zB,zC,zD,zE,zF,zG,zH,zI,zJ,zK,zL,zM,zN,reduceIte,zO,zP, *,E3]
   refine Qpb H S8 hNH8.out hN7 h1N hz8 hok8 hod8 (by have:=Qee r (Qek (r.view + 1)) N; omega) λm9 n9 o9 xe9 xa9 xs9 xd9 xo9 S9 K9=>?_
   have ln9:=K9.le
   have g9:=K9.gr S9.free S8.los (by omega) S8.zero (by omega)
   have g39:=g38.trans g9
   have j1:=(g9.own n (by omega)).trans i1
   have j2:=(g9.own (n + 1) (by omega)).trans i2
   have j3:=(g9.own n2 (by omega)).trans i3
   obtain ⟨ch,hch⟩ : ∃ ch,Qeg r8 N = ch:=⟨_,rfl⟩
   obtain ⟨r9,out9,vd9⟩:=ch
   have hT:=hT3.out
   rw [hch] at hT S9
   simp only at hT S9
   have hT4:=Hide.mk hT
   clear hT hT3 hch S8 ws8 w1 w2 i1 i2 i3 K9 g38 g9
   have w1:=Qdl (fz:=fz) j1
   have w3:=Qdl (fz:=fz) j3
   have ws9:=Qdl (fz:=fz) S9.cells
   obtain ⟨⟨tek,tem⟩,⟨tak,tam⟩,⟨tsk,tsm⟩,⟨tdk,tdm⟩,tok,tom⟩:=S9.ks
   unfold stepC repC at ws9
   cases vd9 with
   | false =>
    have hT:=hT4.out
    rw [if_neg (by decide)] at hT
    have hk:=hfinSH.out _ _ _ _ _ _ _ _ _ _ S9 j2 ((g3.le2 (show n2 + 1 ≤ n4 by omega)).trans (g39.weaken (by omega))) hT
    clear hT
    simp only [↓E1,E2,zA,zB,zC,zD,zE,zF,zG,zH,zI,zJ,zK,zL,zM,zN,reduceIte,zO,zP, *,E3]
    rw [Qej j2 rfl]
    have hw9:=(Qdq (fz:=fz) (show Ev.look (killS m9 (n + 1)) n6 = Ev.look m9 n6 by rw [Qdz,if_neg (by omega)])).trans (Qdl S9.cells)
    unfold stepC repC at hw9
    clear ws9
    simp only [↓E1,E2,zA,zB,zC,zD,zE,zF,zG,zH,zI,zJ,zK,zL,zM,zN,reduceIte,zO,zP, *,E3]
    all_goals exact hk
   | true =>
    have hT:=hT4.out
    rw [if_pos rfl] at hT
    have hk:=hvoidH.out _ _ g39 hT
    have w2:=Qdl (fz:=fz) j2
    clear hT
    simp only [↓E1,E2,zA,zB,zC,zD,zE,zF,zG,zH,zI,zJ,zK,zL,zM,zN,reduceIte,zO,zP, *,E3]
    all_goals exact hk
end Go.Proofs.YtnnjlnkoomeadaaGreat.Pv
namespace Go.Proofs.YtnnjlnkoomeadaaGreat.Pv
open Go.Ev Go.Ev.Rp
set_option maxRecDepth 100000
set_option maxHeartbeats 4000000
def beatM (r : Rep) : Msg:=⟨6,0,0,r.view,0,last r.log,r.commit,0,0,0,0,0,0,0,tx0,[],⟨0,tx0,[]⟩,tx0⟩
theorem Qp3 (r : Rep) : MsgSz (beatM r):=⟨by simp [beatM],⟨by simp [beatM],by simp [beatM]⟩⟩
def beatO (r : Rep) (N : Nat) : List Msg :=
 if repB r then
  (if leadB r then allM r (beatM r) N
  else if r.status = 1 then allM r (Qek r.view) N ++ (if r.sent && !Qgs r then [{ voteG r with frm:=r.me,to:=prim r.view r.nodes }] else [])
  else if decide (r.status = 2) && !Qgs r then [{ askG r with frm:=r.me,to:=prim r.view r.nodes }] else [])
 else []
def beatS (r : Rep) : Rep × List Msg:=(r,beatO r r.nodes.toNat)
theorem Qjo (r : Rep) : (repB r = false ∧ beatS r = (r, [])) ∨ (repB r = true ∧ ∃ N : Nat, r.nodes = (N : Int) ∧ 1 ≤ N ∧ N ≤ 7 ∧ (
 (leadB r = true ∧ beatS r = (r,allM r (beatM r) N)) ∨
 (leadB r = false ∧ decide (r.status = 1) = true ∧ r.sent = false ∧ beatS r = (r,allM r (Qek r.view) N)) ∨
 (leadB r = false ∧ decide (r.status = 1) = true ∧ r.sent = true ∧ Qgs r = true ∧ beatS r = (r,allM r (Qek r.view) N)) ∨
 (leadB r = false ∧ decide (r.status = 1) = true ∧ r.sent = true ∧ Qgs r = false ∧ beatS r = (r,allM r (Qek r.view) N ++ [{ voteG r with frm:=r.me,to:=prim r.view r.nodes }])) ∨
 (leadB r = false ∧ decide (r.status = 1) = false ∧ decide (r.status = 2) = false ∧ beatS r = (r,[])) ∨
 (leadB r = false ∧ decide (r.status = 1) = false ∧ decide (r.status = 2) = true ∧ Qgs r = true ∧ beatS r = (r,[])) ∨
 (leadB r = false ∧ decide (r.status = 1) = false ∧ decide (r.status = 2) = true ∧ Qgs r = false ∧ beatS r = (r,[{ askG r with frm:=r.me,to:=prim r.view r.nodes }])))):=by
 unfold beatS beatO
 cases h1 : repB r with
 | false=>exact .inl ⟨rfl,by simp⟩
 | true =>
  obtain ⟨N,n1,n2,n3,n4⟩:=rep_N h1
  refine .inr ⟨rfl,N,n1,n3,n4,?_⟩
  rw [n2,if_pos rfl]
  cases h2 : leadB r with
  | true=>exact .inl ⟨rfl,by simp⟩
  | false =>
   rw [if_neg (by decide)]
   cases h3 : decide (r.status = 1) with
   | true =>
    rw [if_pos (of_decide_eq_true h3)]
    cases h4 : r.sent with
    | false=>exact .inr (.inl ⟨rfl,rfl,rfl,by simp⟩)
    | true =>
     cases h5 : Qgs r with
     | true=>exact .inr (.inr (.inl ⟨rfl,rfl,rfl,rfl,by simp⟩))
     | false=>exact .inr (.inr (.inr (.inl ⟨rfl,rfl,rfl,rfl,by simp⟩)))
   | false =>
    rw [if_neg (of_decide_eq_false h3)]
    cases h4 : decide (r.status = 2) with
    | false=>exact .inr (.inr (.inr (.inr (.inl ⟨rfl,rfl,rfl,by simp⟩))))
    | true =>
     cases h5 : Qgs r with
     | true=>exact .inr (.inr (.inr (.inr (.inr (.inl ⟨rfl,rfl,rfl,rfl,by simp⟩)))))
     | false=>exact .inr (.inr (.inr (.inr (.inr (.inr ⟨rfl,rfl,rfl,rfl,by simp⟩)))))
variable {P : Program} (H : Fs P)
include H
theorem replica_Beat (r : Rep) (xe xa xs xd : SV) (hz : RepSz r) : Ctr P n_Qcm [.ag (repC r xe xa xs xd)] (λM=>RepS M r xe xa xs xd) (λn _ M v=>StepP (beatS r) n M v):=Ctr.of H.mx H.Qcm (λ_=>0) λfz mu n k hfr s1 hk=>by
 obtain ⟨-,-,xek,xem⟩:=s1.1.len
 obtain ⟨-,-,xak,xam⟩:=s1.2.1.len
 obtain ⟨-,-,xsk,xsm⟩:=s1.2.2.1.len
 obtain ⟨-,-,xdk,xdm⟩:=s1.2.2.2.len
 have hB:=replica_begin H r xe xa xs xd hz
 have hM:=replica_May H r xe xa xs xd (RepSz.s r hz).1 (RepSz.s r hz).2.1 (RepSz.s r hz).2.2
 have hkH:=Hide.mk hk
 clear hk
 unfold repC at hB hM ⊢
 rw [i_Qcm,dc_at b_Qcm.eq_1]
 simp only [↓E1,E2,zA,zB,zC,zD,zE,zF,zG,zH,zI,zJ,zK,zL,zM,zN,reduceIte,zO,zP, *]
 refine CPr.abs2 hfr λm1 n1 g1 l1 b1 b2=>?_
 have u1:=g1.sub hfr (Nat.le_refl _)
 refine hB.c1 g1.free (RepS.mono u1 s1) ?_
 rintro v m2 n2 g2 ⟨s,o,xe',xa',xs',xd',hP⟩
 have S2:=hP.sw g1.free g2
 obtain rfl:=hP.val
 have l2:=g2.le
 have hle:=hP.le
 have u2:=u1.trans (g2.sub g1.free (Nat.le_refl _))
 have gg:=g1.trans (g2.weaken (by omega))
 have c1:=(g2.own n (by omega)).trans b1
 have c2:=(g2.own (n + 1) (by omega)).trans b2
 have w1:=Qdl (fz:=fz) c1
 have ws:=Qdl (fz:=fz) S2.cells
 have hNo:=replica_step_normal H s r xe' xa' xs' xd' .nsl false
 have hLs:=replica_step_leads H s r xe' xa' xs' xd' .nsl false
 have hLa:=replica_step_last H s r xe' xa' xs' xd' .nsl false
 obtain ⟨⟨yek,yem⟩,⟨yak,yam⟩,⟨ysk,ysm⟩,⟨ydk,ydm⟩,yok,yom⟩:=S2.ks
 have hz1 : ∀ j,j < n1 → o j = 0:=hP.zero
 have hne : (n + 1 = s) = False:=by simp; omega
 have hfinS : ∀ (m : St) (n' : Nat) (out : List Msg) (oo : Nat → Nat) (pe pa ps pd po : SV),SW n1 fz s oo m n' r out false pe pa ps pd po → Ev.look m (n + 1) = some [I 0,I 0,I 0,I 0,I 0,I 0,.bool false,I 0,.str 0 0,.nsl,.nsl,.nsl,.nsl] → Gr n fz mu m n n' → beatS r = (r,out) →
  k (.tp [.ag [I r.me,I r.nodes,I r.view,I r.normal,I r.status,I r.commit,.bool r.sent,I r.log.base,r.log.snap.sv,pe,pa,ps,pd],.one po]) ((n + 1,[I r.me,I r.nodes,I r.view,I r.normal,I r.status,I r.commit,.bool r.sent,I r.log.base,r.log.snap.sv,pe,pa,ps,pd]) :: killS m (n + 1)) n':=λm n' out oo pe pa ps pd po S e2 g hT=>by
  have S':=S.put0 (c:=[I r.me,I r.nodes,I r.view,I r.normal,I r.status,I r.commit,.bool r.sent,I r.log.base,r.log.snap.sv,pe,pa,ps,pd]) e2 (S.zero _ (by omega))
  have g':=g.put (id:=n + 1) (by omega) e2 (c:=[I r.me,I r.nodes,I r.view,I r.normal,I r.status,I r.commit,.bool r.sent,I r.log.base,r.log.snap.sv,pe,pa,ps,pd])
  have hX:=Qpe (c:=[I r.me,I r.nodes,I r.view,I r.normal,I r.status,I r.commit,.bool r.sent,I r.log.base,r.log.snap.sv,pe,pa,ps,pd]) e2
  have hXw:=Qhy (fz:=fz) hX
  exact hkH.out _ _ _ (g'.congr hX) ⟨pe,pa,ps,pd,po,oo,by rw [hT] <;> rfl,λj hj=>S.zero j (by omega),by rw [hT,hXw]; exact S'.rt,by rw [hT,hXw]; exact S'.ot⟩
 have hfinSH:=Hide.mk hfinS
 unfold stepC repC at ws
 clear b1 b2 hB hfinS
 rcases Qjo r with ⟨h1,hT⟩ | ⟨h1,N,hN,h1N,hN7,⟨h2,hT⟩ | ⟨h2,h3,h4,hT⟩ | ⟨h2,h3,h4,h5,hT⟩ | ⟨h2,h3,h4,h5,hT⟩ | ⟨h2,h3,h4,hT⟩ | ⟨h2,h3,h4,h5,hT⟩ | ⟨h2,h3,h4,h5,hT⟩⟩
 ·have hTH:=Hide.mk hT
  clear hT
  simp only [↓E1,E2,zA,zB,zC,zD,zE,zF,zG,zH,zI,zJ,zK,zL,zM,zN,reduceIte,zO,zP, *,E3]
  refine hM.q0 S2.free (RepS.mono u2 s1) ?_
  rintro v n3 l3 rfl
  simp only [↓E1,E2,zA,zB,zC,zD,zE,zF,zG,zH,zI,zJ,zK,zL,zM,zN,reduceIte,zO,zP, *,E3]
  have hT:=hTH.out
  have S3:=S2.le l3
  have gg3:=gg.le2 l3
  have hk:=hfinSH.out _ _ _ _ _ _ _ _ _ S3 c2 gg3 hT
  clear hT
  try simp only [↓E1,E2,zA,zB,zC,zD,zE,zF,zG,zH,zI,zJ,zK,zL,zM,zN,reduceIte,zO,zP, *,E3]
  rw [Qej c2 rfl]
  have hwz:=(Qdq (fz:=fz) (show Ev.look (killS m2 (n + 1)) s = Ev.look m2 s by rw [Qdz,if_neg (by omega)])).trans (Qdl S3.cells)
  unfold stepC repC at hwz
  clear ws
  simp only [↓E1,E2,zA,zB,zC,zD,zE,zF,zG,zH,zI,zJ,zK,zL,zM,zN,reduceIte,zO,zP, *,E3]
  all_goals first | exact hk | (rw [h4] at hk; exact hk)
 ·have hNH:=Hide.mk hN
  have hTH:=Hide.mk hT
  clear hN hT
  simp only [↓E1,E2,zA,zB,zC,zD,zE,zF,zG,zH,zI,zJ,zK,zL,zM,zN,reduceIte,zO,zP, *,E3]
  refine hM.q0 S2.free (RepS.mono u2 s1) ?_
  rintro v n3 l3 rfl
  simp only [↓E1,E2,zA,zB,zC,zD,zE,zF,zG,zH,zI,zJ,zK,zL,zM,zN,reduceIte,zO,zP, *,E3]
  refine hNo.q0 (S2.free.le l3) (Qdl S2.cells) ?_
  rintro v n4 l4 rfl
  have S4:=S2.le (Nat.le_trans l3 l4)
  have gg4:=gg.le2 (Nat.le_trans l3 l4)
  simp only [↓E1,E2,zA,zB,zC,zD,zE,zF,zG,zH,zI,zJ,zK,zL,zM,zN,reduceIte,zO,zP, *,E3]
  refine hLa.q1 S4.free ⟨Qdl S4.cells,S4.rs.1⟩ ?_
  rintro v n5 l5 rfl
  have S4:=S4.le l5
  have gg4:=gg4.le2 l5
  simp only [↓E1,E2,zA,zB,zC,zD,zE,zF,zG,zH,zI,zJ,zK,zL,zM,zN,reduceIte,zO,zP, *,E3]
  have hAll:=λ(k : KT Prop) (w : WK k)=>Qh7 H S4 (beatM r) .nsl .nsl ⟨nilP _,nilE _⟩ (Qp3 r) (by simp) (N:=N) hNH.out hN7 (k:=k) (w:=w)
  refine hAll _ _ λm5 n5 o5 xo5 S5 K5=>?_
  clear hAll
  rw [List.nil_append] at S5
  have z5 : ∀ j,j < n1 → o5 j = 0:=λj hj=>by rw [K5.tags j (by omega)]; exact hz1 j hj
  have e2:=(K5.keep (n + 1) (by omega) (by omega) (by rw [hz1 (n + 1) (by omega)]; omega)).trans c2
  have g5:=gg4.trans ((K5.gr S5.free S2.los (by omega) S2.zero (by omega)).weaken (show n ≤ n1 by omega))
  have ws5:=Qdl (fz:=fz) S5.cells
  obtain ⟨-,-,-,-,vok,vom⟩:=S5.ks
  unfold stepC repC at ws5
  have hT:=hTH.out
  clear ws
  have hk:=hfinSH.out _ _ _ _ _ _ _ _ _ S5 e2 g5 hT
  clear hT
  try simp only [↓E1,E2,zA,zB,zC,zD,zE,zF,zG,zH,zI,zJ,zK,zL,zM,zN,reduceIte,zO,zP, *,E3]
  rw [Qej e2 rfl]
  have hwz:=(Qdq (fz:=fz) (show Ev.look (killS m5 (n + 1)) s = Ev.look m5 s by rw [Qdz,if_neg (by omega)])).trans (Qdl S5.cells)
  unfold stepC repC at hwz
  clear ws5
  simp only [↓E1,E2,zA,zB,zC,zD,zE,zF,zG,zH,zI,zJ,zK,zL,zM,zN,reduceIte,zO,zP, *,E3]
  all_goals first | exact hk | (rw [h4] at hk; exact hk)
 ·have h4H:=Hide.mk h4
  clear h4
  have hNH:=Hide.mk hN
  have hTH:=Hide.mk hT
  clear hN hT
  simp only [↓E1,E2,zA,zB,zC,zD,zE,zF,zG,zH,zI,zJ,zK,zL,zM,zN,reduceIte,zO,zP, *,E3]
  refine hM.q0 S2.free (RepS.mono u2 s1) ?_
  rintro v n3 l3 rfl
  simp only [↓E1,E2,zA,zB,zC,zD,zE,zF,zG,zH,zI,zJ,zK,zL,zM,zN,reduceIte,zO,zP, *,E3]
  refine hNo.q0 (S2.free.le l3) (Qdl S2.cells) ?_
  rintro v n4 l4 rfl
  have S4:=S2.le (Nat.le_trans l3 l4)
  have gg4:=gg.le2 (Nat.le_trans l3 l4)
  simp only [↓E1,E2,zA,zB,zC,zD,zE,zF,zG,zH,zI,zJ,zK,zL,zM,zN,reduceIte,zO,zP, *,E3]
  refine (Qh0 H (s:=s)).q0 S4.free (Qdl S4.cells) ?_
  rintro _ n5 l5 rfl
  have S4:=S4.le l5
  have gg4:=gg4.le2 l5
  simp only [↓E1,E2,zA,zB,zC,zD,zE,zF,zG,zH,zI,zJ,zK,zL,zM,zN,reduceIte,zO,zP, *,E3]
  have hAll:=λ(k : KT Prop) (w : WK k)=>Qh7 H S4 (Qek r.view) .nsl .nsl ⟨nilP _,nilE _⟩ (Qe9 r.view) (by simp) (N:=N) hNH.out hN7 (k:=k) (w:=w)
  refine hAll _ _ λm5 n5 o5 xo5 S5 K5=>?_
  clear hAll
  rw [List.nil_append] at S5
  have z5 : ∀ j,j < n1 → o5 j = 0:=λj hj=>by rw [K5.tags j (by omega)]; exact hz1 j hj
  have e2:=(K5.keep (n + 1) (by omega) (by omega) (by rw [hz1 (n + 1) (by omega)]; omega)).trans c2
  have g5:=gg4.trans ((K5.gr S5.free S2.los (by omega) S2.zero (by omega)).weaken (show n ≤ n1 by omega))
  have ws5:=Qdl (fz:=fz) S5.cells
  obtain ⟨-,-,-,-,vok,vom⟩:=S5.ks
  unfold stepC repC at ws5
  have h4:=h4H.out
  have hT:=hTH.out
  clear ws
  have hk:=hfinSH.out _ _ _ _ _ _ _ _ _ S5 e2 g5 hT
  clear hT
  try simp only [↓E1,E2,zA,zB,zC,zD,zE,zF,zG,zH,zI,zJ,zK,zL,zM,zN,reduceIte,zO,zP, *,E3]
  rw [Qej e2 rfl]
  have hwz:=(Qdq (fz:=fz) (show Ev.look (killS m5 (n + 1)) s = Ev.look m5 s by rw [Qdz,if_neg (by omega)])).trans (Qdl S5.cells)
  unfold stepC repC at hwz
  clear ws5
  simp only [↓E1,E2,zA,zB,zC,zD,zE,zF,zG,zH,zI,zJ,zK,zL,zM,zN,reduceIte,zO,zP, *,E3]
  all_goals first | exact hk | (rw [h4] at hk; exact hk)
 ·have h4H:=Hide.mk h4
  clear h4
  have hNH:=Hide.mk hN
  have hTH:=Hide.mk hT
  clear hN hT
  simp only [↓E1,E2,zA,zB,zC,zD,zE,zF,zG,zH,zI,zJ,zK,zL,zM,zN,reduceIte,zO,zP, *,E3]
  refine hM.q0 S2.free (RepS.mono u2 s1) ?_
  rintro v n3 l3 rfl
  simp only [↓E1,E2,zA,zB,zC,zD,zE,zF,zG,zH,zI,zJ,zK,zL,zM,zN,reduceIte,zO,zP, *,E3]
  refine hNo.q0 (S2.free.le l3) (Qdl S2.cells) ?_
  rintro v n4 l4 rfl
  have S4:=S2.le (Nat.le_trans l3 l4)
  have gg4:=gg.le2 (Nat.le_trans l3 l4)
  simp only [↓E1,E2,zA,zB,zC,zD,zE,zF,zG,zH,zI,zJ,zK,zL,zM,zN,reduceIte,zO,zP, *,E3]
  refine (Qh0 H (s:=s)).q0 S4.free (Qdl S4.cells) ?_
  rintro _ n5 l5 rfl
  have S4:=S4.le l5
  have gg4:=gg4.le2 l5
  simp only [↓E1,E2,zA,zB,zC,zD,zE,zF,zG,zH,zI,zJ,zK,zL,zM,zN,reduceIte,zO,zP, *,E3]
  have hAll:=λ(k : KT Prop) (w : WK k)=>Qh7 H S4 (Qek r.view) .nsl .nsl ⟨nilP _,nilE _⟩ (Qe9 r.view) (by simp) (N:=N) hNH.out hN7 (k:=k) (w:=w)
  refine hAll _ _ λm5 n5 o5 xo5 S5 K5=>?_
  clear hAll
  rw [List.nil_append] at S5
  have z5 : ∀ j,j < n1 → o5 j = 0:=λj hj=>by rw [K5.tags j (by omega)]; exact hz1 j hj
  have e2:=(K5.keep (n + 1) (by omega) (by omega) (by rw [hz1 (n + 1) (by omega)]; omega)).trans c2
  have g5:=gg4.trans ((K5.gr S5.free S2.los (by omega) S2.zero (by omega)).weaken (show n ≤ n1 by omega))
  have ws5:=Qdl (fz:=fz) S5.cells
  obtain ⟨-,-,-,-,vok,vom⟩:=S5.ks
  unfold stepC repC at ws5
  have h4:=h4H.out
  have hLs5:=replica_step_leads H s r xe' xa' xs' xd' xo5 false
  clear ws
  simp only [↓E1,E2,zA,zB,zC,zD,zE,zF,zG,zH,zI,zJ,zK,zL,zM,zN,reduceIte,zO,zP, *,E3]
  refine hLs5.q0 S5.free (Qdl S5.cells) ?_
  rintro v n6 l6 rfl
  have S6:=S5.le l6
  have g6:=g5.le2 l6
  have hT:=hTH.out
  have hk:=hfinSH.out _ _ _ _ _ _ _ _ _ S6 e2 g6 hT
  clear hT
  try simp only [↓E1,E2,zA,zB,zC,zD,zE,zF,zG,zH,zI,zJ,zK,zL,zM,zN,reduceIte,zO,zP, *,E3]
  rw [Qej e2 rfl]
  have hwz:=(Qdq (fz:=fz) (show Ev.look (killS m5 (n + 1)) s = Ev.look m5 s by rw [Qdz,if_neg (by omega)])).trans (Qdl S6.cells)
  unfold stepC repC at hwz
  clear ws5
  simp only [↓E1,E2,zA,zB,zC,zD,zE,zF,zG,zH,zI,zJ,zK,zL,zM,zN,reduceIte,zO,zP, *,E3]
  all_goals first | exact hk | (rw [h4] at hk; exact hk)
 ·have h4H:=Hide.mk h4
  clear h4
  have hNH:=Hide.mk hN
  have hTH:=Hide.mk hT
  clear hN hT
  simp only [↓E1,E2,zA,zB,zC,zD,zE,zF,zG,zH,zI,zJ,zK,zL,zM,zN,reduceIte,zO,zP, *,E3]
  refine hM.q0 S2.free (RepS.mono u2 s1) ?_
  rintro v n3 l3 rfl
  simp only [↓E1,E2,zA,zB,zC,zD,zE,zF,zG,zH,zI,zJ,zK,zL,zM,zN,reduceIte,zO,zP, *,E3]
  refine hNo.q0 (S2.free.le l3) (Qdl S2.cells) ?_
  rintro v n4 l4 rfl
  have S4:=S2.le (Nat.le_trans l3 l4)
  have gg4:=gg.le2 (Nat.le_trans l3 l4)
  simp only [↓E1,E2,zA,zB,zC,zD,zE,zF,zG,zH,zI,zJ,zK,zL,zM,zN,reduceIte,zO,zP, *,E3]
  refine (Qh0 H (s:=s)).q0 S4.free (Qdl S4.cells) ?_
  rintro _ n5 l5 rfl
  have S4:=S4.le l5
  have gg4:=gg4.le2 l5
  simp only [↓E1,E2,zA,zB,zC,zD,zE,zF,zG,zH,zI,zJ,zK,zL,zM,zN,reduceIte,zO,zP, *,E3]
  have hAll:=λ(k : KT Prop) (w : WK k)=>Qh7 H S4 (Qek r.view) .nsl .nsl ⟨nilP _,nilE _⟩ (Qe9 r.view) (by simp) (N:=N) hNH.out hN7 (k:=k) (w:=w)
  refine hAll _ _ λm5 n5 o5 xo5 S5 K5=>?_
  clear hAll
  rw [List.nil_append] at S5
  have z5 : ∀ j,j < n1 → o5 j = 0:=λj hj=>by rw [K5.tags j (by omega)]; exact hz1 j hj
  have e2:=(K5.keep (n + 1) (by omega) (by omega) (by rw [hz1 (n + 1) (by omega)]; omega)).trans c2
  have g5:=gg4.trans ((K5.gr S5.free S2.los (by omega) S2.zero (by omega)).weaken (show n ≤ n1 by omega))
  have ws5:=Qdl (fz:=fz) S5.cells
  obtain ⟨-,-,-,-,vok,vom⟩:=S5.ks
  unfold stepC repC at ws5
  have h4:=h4H.out
  have hLs5:=replica_step_leads H s r xe' xa' xs' xd' xo5 false
  clear ws
  simp only [↓E1,E2,zA,zB,zC,zD,zE,zF,zG,zH,zI,zJ,zK,zL,zM,zN,reduceIte,zO,zP, *,E3]
  refine hLs5.q0 S5.free (Qdl S5.cells) ?_
  rintro v n6 l6 rfl
  have S6:=S5.le l6
  have g6:=g5.le2 l6
  have hPr:=replica_Primary H r.view r.nodes
  have hV:=Quz H (s:=s) (r:=r) (xe:=xe') (xa:=xa') (xs:=xs') (xd:=xd') (xo:=xo5) (vd:=false)
  unfold msgC voteG at hV
  simp only [↓E1,E2,zA,zB,zC,zD,zE,zF,zG,zH,zI,zJ,zK,zL,zM,zN,reduceIte,zO,zP, *,E3]
  refine hPr.q1 S6.free trivial ?_
  rintro v n7 l7 rfl
  simp only [↓E1,E2,zA,zB,zC,zD,zE,zF,zG,zH,zI,zJ,zK,zL,zM,zN,reduceIte,zO,zP, *,E3]
  refine hV.q1 (S6.free.le l7) ⟨Qdl S6.cells,S6.rs.1⟩ ?_
  rintro v n8 l8 rfl
  have S8:=(S6.le l7).le l8
  have g8:=(g6.le2 l7).le2 l8
  clear hV
  simp only [↓E1,E2,zA,zB,zC,zD,zE,zF,zG,zH,zI,zJ,zK,zL,zM,zN,reduceIte,zO,zP, *,E3]
  have hSd:=λ(k : KT Prop) (w : WK k)=>Qlb H S8 (prim r.view r.nodes) (voteG r) .nsl xe' ⟨nilP _,S8.rs.1⟩ (Qqc hz.log) (by have:=Qee r (Qek r.view) N; omega) (k:=k) (w:=w)
  refine hSd _ _ λm9 n9 o9 xo9 S9 K9=>?_
  clear hSd
  have ln5:=K5.le
  have e3:=(K9.keep (n + 1) (by omega) (by omega) (by rw [z5 (n + 1) (by omega)]; omega)).trans e2
  have g9:=g8.trans ((K9.gr S9.free S5.los (by omega) S5.zero (by omega)).weaken (show n ≤ n1 by omega))
  have ws9:=Qdl (fz:=fz) S9.cells
  obtain ⟨-,-,-,-,vok9,vom9⟩:=S9.ks
  unfold stepC repC at ws9
  have hT:=hTH.out
  clear ws5 K9 K5
  have hk:=hfinSH.out _ _ _ _ _ _ _ _ _ S9 e3 g9 hT
  clear hT
  try simp only [↓E1,E2,zA,zB,zC,zD,zE,zF,zG,zH,zI,zJ,zK,zL,zM,zN,reduceIte,zO,zP, *,E3]
  rw [Qej e3 rfl]
  have hwz:=(Qdq (fz:=fz) (show Ev.look (killS m9 (n + 1)) s = Ev.look m9 s by rw [Qdz,if_neg (by omega)])).trans (Qdl S9.cells)
  unfold stepC repC at hwz
  clear ws9
  simp only [↓E1,E2,zA,zB,zC,zD,zE,zF,zG,zH,zI,zJ,zK,zL,zM,zN,reduceIte,zO,zP, *,E3]
  all_goals first | exact hk | (rw [h4] at hk; exact hk)
 ·have hNH:=Hide.mk hN
  have hTH:=Hide.mk hT
  clear hN hT
  simp only [↓E1,E2,zA,zB,zC,zD,zE,zF,zG,zH,zI,zJ,zK,zL,zM,zN,reduceIte,zO,zP, *,E3]
  refine hM.q0 S2.free (RepS.mono u2 s1) ?_
  rintro v n3 l3 rfl
  simp only [↓E1,E2,zA,zB,zC,zD,zE,zF,zG,zH,zI,zJ,zK,zL,zM,zN,reduceIte,zO,zP, *,E3]
  refine hNo.q0 (S2.free.le l3) (Qdl S2.cells) ?_
  rintro v n4 l4 rfl
  have S4:=S2.le (Nat.le_trans l3 l4)
  have gg4:=gg.le2 (Nat.le_trans l3 l4)
  simp only [↓E1,E2,zA,zB,zC,zD,zE,zF,zG,zH,zI,zJ,zK,zL,zM,zN,reduceIte,zO,zP, *,E3]
  have hT:=hTH.out
  have hk:=hfinSH.out _ _ _ _ _ _ _ _ _ S4 c2 gg4 hT
  clear hT
  try simp only [↓E1,E2,zA,zB,zC,zD,zE,zF,zG,zH,zI,zJ,zK,zL,zM,zN,reduceIte,zO,zP, *,E3]
  rw [Qej c2 rfl]
  have hwz:=(Qdq (fz:=fz) (show Ev.look (killS m2 (n + 1)) s = Ev.look m2 s by rw [Qdz,if_neg (by omega)])).trans (Qdl S4.cells)
  unfold stepC repC at hwz
  clear ws
  simp only [↓E1,E2,zA,zB,zC,zD,zE,zF,zG,zH,zI,zJ,zK,zL,zM,zN,reduceIte,zO,zP, *,E3]
  all_goals first | exact hk | (rw [h4] at hk; exact hk)
 ·have hNH:=Hide.mk hN
  have hTH:=Hide.mk hT
  clear hN hT
  simp only [↓E1,E2,zA,zB,zC,zD,zE,zF,zG,zH,zI,zJ,zK,zL,zM,zN,reduceIte,zO,zP, *,E3]
  refine hM.q0 S2.free (RepS.mono u2 s1) ?_
  rintro v n3 l3 rfl
  simp only [↓E1,E2,zA,zB,zC,zD,zE,zF,zG,zH,zI,zJ,zK,zL,zM,zN,reduceIte,zO,zP, *,E3]
  refine hNo.q0 (S2.free.le l3) (Qdl S2.cells) ?_
  rintro v n4 l4 rfl
  have S4:=S2.le (Nat.le_trans l3 l4)
  have gg4:=gg.le2 (Nat.le_trans l3 l4)
  simp only [↓E1,E2,zA,zB,zC,zD,zE,zF,zG,zH,zI,zJ,zK,zL,zM,zN,reduceIte,zO,zP, *,E3]
  refine hLs.q0 S4.free (Qdl S4.cells) ?_
  rintro v n5 l5 rfl
  have S5:=S4.le l5
  have g5:=gg4.le2 l5
  have hT:=hTH.out
  have hk:=hfinSH.out _ _ _ _ _ _ _ _ _ S5 c2 g5 hT
  clear hT
  try simp only [↓E1,E2,zA,zB,zC,zD,zE,zF,zG,zH,zI,zJ,zK,zL,zM,zN,reduceIte,zO,zP, *,E3]
  rw [Qej c2 rfl]
  have hwz:=(Qdq (fz:=fz) (show Ev.look (killS m2 (n + 1)) s = Ev.look m2 s by rw [Qdz,if_neg (by omega)])).trans (Qdl S5.cells)
  unfold stepC repC at hwz
  clear ws
  simp only [↓E1,E2,zA,zB,zC,zD,zE,zF,zG,zH,zI,zJ,zK,zL,zM,zN,reduceIte,zO,zP, *,E3]
  all_goals first | exact hk | (rw [h4] at hk; exact hk)
 ·have hNH:=Hide.mk hN
  have hTH:=Hide.mk hT
  clear hN hT
  simp only [↓E1,E2,zA,zB,zC,zD,zE,zF,zG,zH,zI,zJ,zK,zL,zM,zN,reduceIte,zO,zP, *,E3]
  refine hM.q0 S2.free (RepS.mono u2 s1) ?_
  rintro v n3 l3 rfl
  simp only [↓E1,E2,zA,zB,zC,zD,zE,zF,zG,zH,zI,zJ,zK,zL,zM,zN,reduceIte,zO,zP, *,E3]
  refine hNo.q0 (S2.free.le l3) (Qdl S2.cells) ?_
  rintro v n4 l4 rfl
  have S4:=S2.le (Nat.le_trans l3 l4)
  have gg4:=gg.le2 (Nat.le_trans l3 l4)
  simp only [↓E1,E2,zA,zB,zC,zD,zE,zF,zG,zH,zI,zJ,zK,zL,zM,zN,reduceIte,zO,zP, *,E3]
  refine hLs.q0 S4.free (Qdl S4.cells) ?_
  rintro v n5 l5 rfl
  have S5:=S4.le l5
  have g5:=gg4.le2 l5
  have hPr:=replica_Primary H r.view r.nodes
  have hV:=step_ask H (s:=s) (r:=r) (xe:=xe') (xa:=xa') (xs:=xs') (xd:=xd') (xo:=.nsl) (vd:=false)
  unfold msgC askG at hV
  simp only [↓E1,E2,zA,zB,zC,zD,zE,zF,zG,zH,zI,zJ,zK,zL,zM,zN,reduceIte,zO,zP, *,E3]
  refine hPr.q1 S5.free trivial ?_
  rintro v n7 l7 rfl
  simp only [↓E1,E2,zA,zB,zC,zD,zE,zF,zG,zH,zI,zJ,zK,zL,zM,zN,reduceIte,zO,zP, *,E3]
  refine hV.q1 (S5.free.le l7) ⟨Qdl S5.cells,S5.rs.1⟩ ?_
  rintro v n8 l8 rfl
  have S8:=(S5.le l7).le l8
  have g8:=(g5.le2 l7).le2 l8
  clear hV
  simp only [↓E1,E2,zA,zB,zC,zD,zE,zF,zG,zH,zI,zJ,zK,zL,zM,zN,reduceIte,zO,zP, *,E3]
  have hSd:=λ(k : KT Prop) (w : WK k)=>Qlb H S8 (prim r.view r.nodes) (askG r) .nsl .nsl ⟨nilP _,nilE _⟩ (Qq6 r) (by simp) (k:=k) (w:=w)
  refine hSd _ _ λm9 n9 o9 xo9 S9 K9=>?_
  clear hSd
  rw [List.nil_append] at S9
  have e3:=(K9.keep (n + 1) (by omega) (by omega) (by rw [hz1 (n + 1) (by omega)]; omega)).trans c2
  have g9:=g8.trans ((K9.gr S9.free S5.los (by omega) S5.zero (by omega)).weaken (show n ≤ n1 by omega))
  have ws9:=Qdl (fz:=fz) S9.cells
  obtain ⟨-,-,-,-,vok9,vom9⟩:=S9.ks
  unfold stepC repC at ws9
  have hT:=hTH.out
  clear ws K9
  have hk:=hfinSH.out _ _ _ _ _ _ _ _ _ S9 e3 g9 hT
  clear hT
  try simp only [↓E1,E2,zA,zB,zC,zD,zE,zF,zG,zH,zI,zJ,zK,zL,zM,zN,reduceIte,zO,zP, *,E3]
  rw [Qej e3 rfl]
  have hwz:=(Qdq (fz:=fz) (show Ev.look (killS m9 (n + 1)) s = Ev.look m9 s by rw [Qdz,if_neg (by omega)])).trans (Qdl S9.cells)
  unfold stepC repC at hwz
  clear ws9
  simp only [↓E1,E2,zA,zB,zC,zD,zE,zF,zG,zH,zI,zJ,zK,zL,zM,zN,reduceIte,zO,zP, *,E3]
  all_goals first | exact hk | (rw [h4] at hk; exact hk)
end Go.Proofs.YtnnjlnkoomeadaaGreat.Pv
