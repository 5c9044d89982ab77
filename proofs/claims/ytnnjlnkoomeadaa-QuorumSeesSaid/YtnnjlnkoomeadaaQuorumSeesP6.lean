/-
  QuorumSees: part 6 of what the proof is made of.
-/
import Derived.Test.YtnnjlnkoomeadaaQuorumSeesP5
import Derived.Test.YtnnjlnkoomeadaaProg
import Derived.KernelRfl
import Derived.Test.YtnnjlnkoomeadaaRows
import Derived.Deep.Slices
import Derived.ChangeArms
import Derived.DataReads
import Derived.SizedLaws
import Derived.Carry
import Derived.OpenShut
set_option linter.unusedVariables false
set_option linter.unusedSimpArgs false
open Int renaming reduceEq → zA,reduceNe → zB,reduceLT → zC,reduceLE → zD,reduceNeg → zE,reduceAdd → zF,reduceSub → zG,reduceToNat → zH
open Nat renaming reduceEqDiff → zI,reduceAdd → zJ,reduceMul → zK,reduceSub → zL,reduceLeDiff → zM,reduceBEq → zN,reduceLT → zO,reduceBneDiff → zP
namespace Go.Proofs.Ytnnjlnkoomeadaa.Pv
open Go.Ev Go.Ev.Rp
set_option maxRecDepth 100000
set_option maxHeartbeats 4000000
set_option linter.unusedSimpArgs false
set_option linter.unusedVariables false
set_option linter.unusedSectionVars false
def txA : Tx:=⟨1,97,by decide⟩
def mA : Msg:=⟨2,100,0,0,0,0,0,0,0,0,0,0,0,0,txA,[],⟨0,tx0,[]⟩,tx0⟩
theorem newSz (me : Int) : RepSz (newR me 3):=⟨⟨by simp [newR],by simp [newR]⟩,by simp [newR],by simp [newR],by simp [newR],by simp [newR]⟩
theorem lg0 : LgSz ⟨0,tx0,[]⟩:=⟨by simp,by simp⟩
theorem aw_rep (me : Int) (xa : SV) : repC (newR me 3) .nsl xa .nsl .nsl = [I me,I 3,I 0,I 0,I 0,I 0,.bool false,I 0,.str 0 0,.nsl,xa,.nsl,.nsl]:=rfl
theorem aw_m : msgC mA .nsl .nsl = [I 2,I 100,I 0,I 0,I 0,I 0,I 0,I 0,I 0,I 0,I 0,I 0,I 0,I 0,.str 1 97,.nsl,I 0,.str 0 0,.nsl,.str 0 0]:=rfl
theorem aw_q (xa' xb' xm' : SV) : rdC (begR (newR 0 3) 7 mA) xa' xb' xm' = [I 7,I 0,I 100,xa',I 2,I 100,I 0,I 0,I 0,I 0,I 0,I 0,I 0,I 0,I 0,I 0,I 0,I 0,.str 1 97,xb',I 0,.str 0 0,xm',.str 0 0]:=rfl
theorem aw_asks : (asks (newR 0 3) 7 (newR 0 3).nodes.toNat) = [askM (newR 0 3) 7 1,askM (newR 0 3) 7 2]:=rfl
theorem aw_k1 : msgC (askM (newR 0 3) 7 1) .nsl .nsl = [I 12,I 0,I 1,I 0,I 0,I 0,I 0,I 7,I 0,I 0,I 0,I 0,I 0,I 0,.str 0 0,.nsl,I 0,.str 0 0,.nsl,.str 0 0]:=rfl
theorem aw_k2 : msgC (askM (newR 0 3) 7 2) .nsl .nsl = [I 12,I 0,I 2,I 0,I 0,I 0,I 0,I 7,I 0,I 0,I 0,I 0,I 0,I 0,.str 0 0,.nsl,I 0,.str 0 0,.nsl,.str 0 0]:=rfl
theorem aw_g1 : msgC (ansM (newR 1 3) (askM (newR 0 3) 7 1)) .nsl .nsl = [I 13,I 1,I 0,I 0,I 0,I 0,I 0,I 7,I 0,I 0,I 0,I 0,I 0,I 0,.str 0 0,.nsl,I 0,.str 0 0,.nsl,.str 0 0]:=rfl
theorem aw_b0 : repB (newR 0 3) = true:=by decide +kernel
theorem aw_l0 : leadB (newR 0 3) = true:=by decide +kernel
theorem aw_r0 : readyB (newR 0 3) (begR (newR 0 3) 7 mA) = false:=by decide +kernel
theorem aw_b1 : repB (newR 1 3) = true:=by decide +kernel
theorem aw_mb : msgB (askM (newR 0 3) 7 1) = true:=by decide +kernel
theorem aw_gb : gotB (newR 0 3) (begR (newR 0 3) 7 mA) (ansM (newR 1 3) (askM (newR 0 3) 7 1)) = true:=by decide +kernel
theorem aw_got : got (newR 0 3) (begR (newR 0 3) 7 mA) (ansM (newR 1 3) (askM (newR 0 3) 7 1)) = { begR (newR 0 3) 7 mA with agreed:=[1] }:=by
  unfold got; rw [if_pos aw_gb]; rfl
theorem aw_rq : readyB (newR 0 3) { begR (newR 0 3) 7 mA with agreed:=[1] } = true:=by decide +kernel
theorem aw_q2 (xa' xb' xm' : SV) : rdC { begR (newR 0 3) 7 mA with agreed:=[1] } xa' xb' xm' = [I 7,I 0,I 100,xa',I 2,I 100,I 0,I 0,I 0,I 0,I 0,I 0,I 0,I 0,I 0,I 0,I 0,I 0,.str 1 97,xb',I 0,.str 0 0,xm',.str 0 0]:=rfl
theorem nilE (M : Fz) : EntsR M .nsl []:=⟨[],.inl ⟨.inl rfl,rfl⟩,trivial⟩
theorem nilP (M : Fz) : PtsR M .nsl []:=.inl ⟨.inl rfl,rfl⟩
theorem nilI (M : Fz) : IntsR M .nsl []:=.inl ⟨.inl rfl,rfl⟩
theorem nilD (M : Fz) : DvsR M .nsl []:=⟨[],.inl ⟨.inl rfl,rfl⟩,trivial⟩
variable {P : Program} (H : Fs P)
include H
theorem law0_Num (x : Int) : Ctr P n_law0_Num [.one (I x)] (λ_=>True) (λ_ _ _ v=>v = .one (I x)):=Ctr.of H.mx H.law0_Num (λ_=>0) λfz mu n k hfr _ hk=>by
  rw [i_law0_Num,dc_at b_law0_Num.eq_1]
  simp only [↓E1,E2,zA,zB,zC,zD,zE,zF,zG,zH,zI,zJ,zK,zL,zM,zN,reduceIte,zO,zP]
  try exact hk _ _ _ (Gr.refl hfr) rfl
theorem law18_awake (hI : InsC P) : BoolC P n_law18_awake [] (λ_=>True) true:=boolC H.mx H.law18_awake 0 λfz mu n k hfr g0 _ h=>by
  have hN0:=ref16_New H 0 3 (by decide)
  have hN1:=ref16_New H 1 3 (by decide)
  rw [i_law18_awake,dc_at b_law18_awake.eq_1]
  simp only [↓E1,E2,zA,zB,zC,zD,zE,zF,zG,zH,zI,zJ,zK,zL,zM,zN,reduceIte,zO,zP]
  refine hN0.c1 hfr trivial ?_
  rintro v m1 n1 g1 ⟨xa,rfl,hxa⟩
  rw [aw_rep]
  obtain ⟨-,-,xak,xam⟩:=SlX.len hxa
  have gA : Gr n1 fz m1 ((n1,[I 0,I 3,I 0,I 0,I 0,I 0,.bool false,I 0,.str 0 0,.nsl,xa,.nsl,.nsl]) :: m1) n1 (n1 + 1):=(Gr.refl g1.free).cons (Nat.le_refl _) _
  have b1 : Ev.look ((n1,[I 0,I 3,I 0,I 0,I 0,I 0,.bool false,I 0,.str 0 0,.nsl,xa,.nsl,.nsl]) :: m1) n1 = some [I 0,I 3,I 0,I 0,I 0,I 0,.bool false,I 0,.str 0 0,.nsl,xa,.nsl,.nsl]:=by rw [look_c,if_pos rfl]
  have p1 : IntsR (with' ((n1,[I 0,I 3,I 0,I 0,I 0,I 0,.bool false,I 0,.str 0 0,.nsl,xa,.nsl,.nsl]) :: m1) fz) xa (newR 0 3).acks:=IntsR.mono (gA.sub g1.free (Nat.le_refl _)) (SlX.to (SlX.mono hxa From.sub))
  have gg:=g1.trans (gA.weaken g1.le)
  obtain ⟨m2,hm2⟩ : ∃ mz : St,((n1,[I 0,I 3,I 0,I 0,I 0,I 0,.bool false,I 0,.str 0 0,.nsl,xa,.nsl,.nsl]) :: m1) = mz:=⟨_,rfl⟩
  rw [hm2] at b1 p1 gg
  have hB:=quorum_Begin H (newR 0 3) .nsl xa .nsl .nsl 7 mA .nsl .nsl (newSz 0) (by simp [mA]) lg0 aw_b0 aw_l0
  rw [aw_rep,aw_m] at hB
  have w1:=look_with (fz:=fz) b1
  clear hxa gA hN0
  simp only [↓E1,E2,zA,zB,zC,zD,zE,zF,zG,zH,zI,zJ,zK,zL,zM,zN,reduceIte,zO,zP, *]
  refine hB.c1 gg.free ⟨⟨nilE _,p1,nilI _,nilD _⟩,nilP _,nilE _⟩ ?_
  rintro v m3 n3 g3 ⟨xb',xm',xo,rfl,hxb,hxm,hxo⟩
  rw [aw_q]
  rw [aw_asks] at hxo
  simp only [List.map_cons,List.map_nil] at hxo
  rw [aw_k1,aw_k2] at hxo
  obtain ⟨-,-,xbk,xbm⟩:=SlX.len hxb
  obtain ⟨-,-,xmk,xmm⟩:=hxm.choose_spec.1.len
  rcases hxo with ⟨_,hh⟩ | ⟨ido,rfl,ho,hmko,-⟩
  · cases hh
  replace ho:=From.sub _ _ ho
  have l1:=g1.le
  have l3:=g3.le
  have gA : Gr n3 fz m3 ((n3,[I 7,I 0,I 100,.nsl,I 2,I 100,I 0,I 0,I 0,I 0,I 0,I 0,I 0,I 0,I 0,I 0,I 0,I 0,.str 1 97,xb',I 0,.str 0 0,xm',.str 0 0]) :: m3) n3 (n3 + 1):=(Gr.refl g3.free).cons (Nat.le_refl _) _
  have uA:=gA.sub g3.free (Nat.le_refl _)
  have u3:=(g3.sub gg.free (Nat.le_refl _)).trans uA
  have w1':=look_with (fz:=fz) ((g3.own n1 (by omega)).trans b1)
  replace b1:=(gA.own n1 (by omega)).trans ((g3.own n1 (by omega)).trans b1)
  have b3 : Ev.look ((n3,[I 7,I 0,I 100,.nsl,I 2,I 100,I 0,I 0,I 0,I 0,I 0,I 0,I 0,I 0,I 0,I 0,I 0,I 0,.str 1 97,xb',I 0,.str 0 0,xm',.str 0 0]) :: m3) n3 = some [I 7,I 0,I 100,.nsl,I 2,I 100,I 0,I 0,I 0,I 0,I 0,I 0,I 0,I 0,I 0,I 0,I 0,I 0,.str 1 97,xb',I 0,.str 0 0,xm',.str 0 0]:=by rw [look_c,if_pos rfl]
  replace p1:=IntsR.mono u3 p1
  have p2 : PtsR _ xb' mA.batch:=PtsR.mono uA (PtsX.to (PtsX.mono From.sub hxb))
  have p3 : EntsR _ xm' mA.log.ents:=EntsR.mono uA (EntsX.to (EntsX.mono From.sub hxm))
  replace ho:=uA _ _ ho
  replace gg:=(gg.trans (g3.weaken (by omega))).trans (gA.weaken (by omega))
  obtain ⟨m4,hm4⟩ : ∃ mz : St,((n3,[I 7,I 0,I 100,.nsl,I 2,I 100,I 0,I 0,I 0,I 0,I 0,I 0,I 0,I 0,I 0,I 0,I 0,I 0,.str 1 97,xb',I 0,.str 0 0,xm',.str 0 0]) :: m3) = mz:=⟨_,rfl⟩
  rw [hm4] at b1 b3 p1 p2 p3 ho gg
  have hP:=quorum_Ready H (newR 0 3) .nsl xa .nsl .nsl (begR (newR 0 3) 7 mA) .nsl xb' xm' (by simp [newR]) (by simp [newR]) (by simp [newR])
  rw [aw_rep,aw_q,aw_r0] at hP
  clear w1 hxb hxm gA hB uA u3 hm2
  have w1:=look_with (fz:=fz) b1
  have w3:=look_with (fz:=fz) b3
  have hne : (n3 = n1) = False:=by simp; omega
  simp only [List.length_cons,List.length_nil,Nat.zero_add,List.flatten_cons,List.flatten_nil,List.cons_append,List.nil_append] at ho hmko ⊢
  simp only [↓E1,E2,zA,zB,zC,zD,zE,zF,zG,zH,zI,zJ,zK,zL,zM,zN,reduceIte,zO,zP, *]
  try rw [hm4]
  try simp only [↓E1,E2,zA,zB,zC,zD,zE,zF,zG,zH,zI,zJ,zK,zL,zM,zN,reduceIte,zO,zP, *]
  refine hP.c1 gg.free ⟨⟨nilE _,p1,nilI _,nilD _⟩,nilI _,p2,p3⟩ ?_
  rintro v m5 n5 g5 rfl
  have l5:=g5.le
  have u5:=g5.sub gg.free (Nat.le_refl _)
  replace b1:=(g5.own n1 (by omega)).trans b1
  replace b3:=(g5.own n3 (by omega)).trans b3
  replace p1:=IntsR.mono u5 p1
  replace p2:=PtsR.mono u5 p2
  replace p3:=EntsR.mono u5 p3
  replace ho:=u5 _ _ ho
  replace gg:=gg.trans (g5.weaken (by omega))
  clear w1 w3 hm4 hP u5 w1'
  have w1:=look_with (fz:=fz) b1
  have w3:=look_with (fz:=fz) b3
  simp only [↓E1,E2,zA,zB,zC,zD,zE,zF,zG,zH,zI,zJ,zK,zL,zM,zN,reduceIte,zO,zP, *]
  refine hN1.c1 gg.free trivial ?_
  rintro v m6 n6 g6 ⟨xc,rfl,hxc⟩
  rw [aw_rep]
  obtain ⟨-,-,xck,xcm⟩:=SlX.len hxc
  have l6:=g6.le
  have gA : Gr n6 fz m6 ((n6,[I 1,I 3,I 0,I 0,I 0,I 0,.bool false,I 0,.str 0 0,.nsl,xc,.nsl,.nsl]) :: m6) n6 (n6 + 1):=(Gr.refl g6.free).cons (Nat.le_refl _) _
  have uA:=gA.sub g6.free (Nat.le_refl _)
  have u6:=(g6.sub gg.free (Nat.le_refl _)).trans uA
  have ho6:=(g6.sub gg.free (Nat.le_refl _)) _ _ ho
  replace b1:=(gA.own n1 (by omega)).trans ((g6.own n1 (by omega)).trans b1)
  replace b3:=(gA.own n3 (by omega)).trans ((g6.own n3 (by omega)).trans b3)
  have b6 : Ev.look ((n6,[I 1,I 3,I 0,I 0,I 0,I 0,.bool false,I 0,.str 0 0,.nsl,xc,.nsl,.nsl]) :: m6) n6 = some [I 1,I 3,I 0,I 0,I 0,I 0,.bool false,I 0,.str 0 0,.nsl,xc,.nsl,.nsl]:=by rw [look_c,if_pos rfl]
  replace p1:=IntsR.mono u6 p1
  replace p2:=PtsR.mono u6 p2
  replace p3:=EntsR.mono u6 p3
  replace ho:=u6 _ _ ho
  have p4 : IntsR _ xc (newR 1 3).acks:=IntsR.mono uA (SlX.to (SlX.mono hxc From.sub))
  replace gg:=(gg.trans (g6.weaken (by omega))).trans (gA.weaken (by omega))
  have hne6 : (n6 = ido) = False:=by have:=g6.free.lt ho6; simp; omega
  obtain ⟨m7,hm7⟩ : ∃ mz : St,((n6,[I 1,I 3,I 0,I 0,I 0,I 0,.bool false,I 0,.str 0 0,.nsl,xc,.nsl,.nsl]) :: m6) = mz:=⟨_,rfl⟩
  rw [hm7] at b1 b3 b6 p1 p2 p3 p4 ho gg
  have hA:=quorum_Agree H (newR 1 3) .nsl xc .nsl .nsl (askM (newR 0 3) 7 1) .nsl .nsl (newSz 1) rfl aw_b1 aw_mb rfl rfl rfl rfl
  rw [aw_rep,aw_k1] at hA
  clear w1 w3 hxc gA uA u6 hN1
  have w1:=look_with (fz:=fz) b1
  have w3:=look_with (fz:=fz) b3
  have w6:=look_with (fz:=fz) b6
  simp only [↓E1,E2,zA,zB,zC,zD,zE,zF,zG,zH,zI,zJ,zK,zL,zM,zN,reduceIte,zO,zP, *]
  try rw [hm7]
  try simp only [↓E1,E2,zA,zB,zC,zD,zE,zF,zG,zH,zI,zJ,zK,zL,zM,zN,reduceIte,zO,zP, *]
  refine hA.d4 gg.free ⟨⟨nilE _,p4,nilI _,nilD _⟩,nilP _,nilE _⟩ ?_
  rintro v nw n8 g8 i8 ⟨xs,rfl,hxs⟩
  rw [aw_g1] at hxs
  rcases hxs with ⟨_,hh⟩ | ⟨ids,rfl,hs,hmks,-⟩
  · cases hh
  replace hs:=From.sub _ _ hs
  have l8:=g8.le
  have u8:=g8.sub gg.free (Nat.le_refl _)
  replace b1:=(g8.own n1 (by omega)).trans b1
  replace b3:=(g8.own n3 (by omega)).trans b3
  replace p1:=IntsR.mono u8 p1
  replace p2:=PtsR.mono u8 p2
  replace p3:=EntsR.mono u8 p3
  replace gg:=gg.trans (g8.weaken (by omega))
  have hQ:=quorum_Got H hI (newR 0 3) .nsl xa .nsl .nsl (begR (newR 0 3) 7 mA) .nsl xb' xm' (ansM (newR 1 3) (askM (newR 0 3) 7 1)) .nsl .nsl (newSz 0) (by simp [begR]) (by simp [begR,mA]) lg0 List.Pairwise.nil
  rw [aw_rep,aw_q,aw_g1,aw_got] at hQ
  clear w1 w3 w6 b6 p4 ho hA u8
  have w1:=look_with (fz:=fz) b1
  have w3:=look_with (fz:=fz) b3
  simp only [List.length_cons,List.length_nil,Nat.zero_add,List.flatten_cons,List.flatten_nil,List.cons_append,List.nil_append,List.append_nil] at hs hmks ⊢
  simp only [↓E1,E2,zA,zB,zC,zD,zE,zF,zG,zH,zI,zJ,zK,zL,zM,zN,reduceIte,zO,zP, *,List.append_assoc]
  refine hQ.d4 gg.free ⟨⟨nilE _,p1,nilI _,nilD _⟩,nilI _,⟨p2,p3⟩,nilP _,nilE _⟩ ?_
  rintro v nw2 n9 g9 i9 ⟨xa',xb2,xm2,rfl,hxa',hxb2,hxm2⟩
  rw [aw_q2]
  obtain ⟨-,-,xa2k,xa2m⟩:=SlX.len hxa'
  obtain ⟨-,-,xb2k,xb2m⟩:=SlX.len hxb2
  obtain ⟨-,-,xm2k,xm2m⟩:=hxm2.choose_spec.1.len
  have l9:=g9.le
  simp only [↓E1,E2,zA,zB,zC,zD,zE,zF,zG,zH,zI,zJ,zK,zL,zM,zN,reduceIte,zO,zP, *,List.append_assoc]
  have gA : Gr n9 fz (nw2 ++ (nw ++ m7)) ((n9,[I 7,I 0,I 100,xa',I 2,I 100,I 0,I 0,I 0,I 0,I 0,I 0,I 0,I 0,I 0,I 0,I 0,I 0,.str 1 97,xb2,I 0,.str 0 0,xm2,.str 0 0]) :: (nw2 ++ (nw ++ m7))) n9 (n9 + 1):=(Gr.refl g9.free).cons (Nat.le_refl _) _
  have uA:=gA.sub g9.free (Nat.le_refl _)
  have u9:=(g9.sub gg.free (Nat.le_refl _)).trans uA
  replace b1:=(gA.own n1 (by omega)).trans ((g9.own n1 (by omega)).trans b1)
  have b9 : Ev.look ((n9,[I 7,I 0,I 100,xa',I 2,I 100,I 0,I 0,I 0,I 0,I 0,I 0,I 0,I 0,I 0,I 0,I 0,I 0,.str 1 97,xb2,I 0,.str 0 0,xm2,.str 0 0]) :: (nw2 ++ (nw ++ m7))) n9 = some [I 7,I 0,I 100,xa',I 2,I 100,I 0,I 0,I 0,I 0,I 0,I 0,I 0,I 0,I 0,I 0,I 0,I 0,.str 1 97,xb2,I 0,.str 0 0,xm2,.str 0 0]:=by rw [look_c,if_pos rfl]
  replace p1:=IntsR.mono u9 p1
  have q1 : IntsR _ xa' [1]:=IntsR.mono uA (SlX.to (IntsX.mono From.sub hxa'))
  have q2 : PtsR _ xb2 mA.batch:=PtsR.mono uA (PtsX.to (PtsX.mono From.sub hxb2))
  have q3 : EntsR _ xm2 mA.log.ents:=EntsR.mono uA (EntsX.to (EntsX.mono From.sub hxm2))
  replace gg:=(gg.trans (g9.weaken (by omega))).trans (gA.weaken (by omega))
  obtain ⟨m9,hm9⟩ : ∃ mz : St,((n9,[I 7,I 0,I 100,xa',I 2,I 100,I 0,I 0,I 0,I 0,I 0,I 0,I 0,I 0,I 0,I 0,I 0,I 0,.str 1 97,xb2,I 0,.str 0 0,xm2,.str 0 0]) :: (nw2 ++ (nw ++ m7))) = mz:=⟨_,rfl⟩
  rw [hm9] at b1 b9 p1 q1 q2 q3 gg
  try rw [hm9]
  clear hm9 w1 w3 b3 p2 p3 hs hxa' hxb2 hxm2 gA uA u9 g9 hQ g8 i8 i9
  refine (law0_Num H 0).c1 gg.free trivial ?_
  rintro v m10 n10 g10 rfl
  have l10:=g10.le
  have u10:=g10.sub gg.free (Nat.le_refl _)
  replace b1:=(g10.own n1 (by omega)).trans b1
  replace b9:=(g10.own n9 (by omega)).trans b9
  replace p1:=IntsR.mono u10 p1
  replace q1:=IntsR.mono u10 q1
  replace q2:=PtsR.mono u10 q2
  replace q3:=EntsR.mono u10 q3
  replace gg:=gg.trans (g10.weaken (by omega))
  have gA : Gr n10 fz m10 ((n10,[I 1]) :: m10) n10 (n10 + 1):=(Gr.refl gg.free).cons (Nat.le_refl _) _
  have uA:=gA.sub gg.free (Nat.le_refl _)
  have wz9:=look_with (fz:=fz) b9
  have q0 : IntsR (with' ((n10,[I 1]) :: m10) fz) (.osl n10 0 1 1 1) [1]:=SlX.to (SlX.mk_new (s:=1) (id:=n10) (es:=[intC 1]) (by rw [with_c,if_pos rfl]; rfl) (by intro e he; rw [List.mem_singleton.1 he]; exact ⟨rfl,rfl⟩))
  replace b1:=(gA.own n1 (by omega)).trans b1
  replace b9:=(gA.own n9 (by omega)).trans b9
  replace p1:=IntsR.mono uA p1
  replace q1:=IntsR.mono uA q1
  replace q2:=PtsR.mono uA q2
  replace q3:=EntsR.mono uA q3
  replace gg:=gg.trans (gA.weaken (by omega))
  obtain ⟨m11,hm11⟩ : ∃ mz : St,((n10,[I 1]) :: m10) = mz:=⟨_,rfl⟩
  rw [hm11] at b1 b9 p1 q0 q1 q2 q3 gg
  clear gA uA u10
  simp only [↓E1,E2,zA,zB,zC,zD,zE,zF,zG,zH,zI,zJ,zK,zL,zM,zN,reduceIte,zO,zP, *]
  try rw [hm11]
  try simp only [↓E1,E2,zA,zB,zC,zD,zE,zF,zG,zH,zI,zJ,zK,zL,zM,zN,reduceIte,zO,zP, *]
  refine (law0_SameInts H xa' (.osl n10 0 1 1 1) [1] (by simp)).c1 gg.free ⟨q1,q0⟩ ?_
  rintro v m12 n12 g12 rfl
  have l12:=g12.le
  have u12:=g12.sub gg.free (Nat.le_refl _)
  replace b1:=(g12.own n1 (by omega)).trans b1
  replace b9:=(g12.own n9 (by omega)).trans b9
  replace p1:=IntsR.mono u12 p1
  replace q1:=IntsR.mono u12 q1
  replace q2:=PtsR.mono u12 q2
  replace q3:=EntsR.mono u12 q3
  replace gg:=gg.trans (g12.weaken (by omega))
  have hP:=quorum_Ready H (newR 0 3) .nsl xa .nsl .nsl { begR (newR 0 3) 7 mA with agreed:=[1] } xa' xb2 xm2 (by simp [newR]) (by simp [newR]) (by simp [newR])
  rw [aw_rep,aw_q2,aw_rq] at hP
  clear wz9 hm11
  have w1:=look_with (fz:=fz) b1
  have w9:=look_with (fz:=fz) b9
  simp only [↓E1,E2,zA,zB,zC,zD,zE,zF,zG,zH,zI,zJ,zK,zL,zM,zN,reduceIte,zO,zP, *]
  refine hP.c1 gg.free ⟨⟨nilE _,p1,nilI _,nilD _⟩,q1,q2,q3⟩ ?_
  rintro v m13 n13 g13 rfl
  simp only [↓E1,E2,zA,zB,zC,zD,zE,zF,zG,zH,zI,zJ,zK,zL,zM,zN,reduceIte,zO,zP, *]
  try exact h _ _ (gg.trans (g13.weaken (by omega)))
end Go.Proofs.Ytnnjlnkoomeadaa.Pv
namespace Go.Proofs.Ytnnjlnkoomeadaa.Pv
open Go.Ev Go.Ev.Rp
set_option maxRecDepth 100000
set_option maxHeartbeats 4000000
set_option linter.unusedSimpArgs false
set_option linter.unusedVariables false
set_option linter.unusedSectionVars false
theorem andI_mask (a : Int) (m : Nat) (hm : m < 2 ^ 62) : ∃ k : Nat,k ≤ m ∧ andI a m = k:=by
  obtain ⟨k,h1,h2⟩:=mask_cases a m hm
  refine ⟨k,h1,?_⟩
  have : numOp .and .i64 a (m : Int) = some (.int .i64 (andI a m)):=rfl
  rw [this] at h2
  injection h2 with h2
  injection h2
theorem rem_range (x : Int) (v : Nat) (h0 : 0 < v) (h1 : v ≤ 1000) : ∃ k : Nat,k < v ∧ IntKind.i64.wrap ((IntKind.u64.wrap x).tmod (IntKind.u64.wrap v)) = k:=by
  have h2 : IntKind.u64.wrap (v : Int) = v:=by simp [IntKind.wrap,IntKind.bits,IntKind.signed]; omega
  have h3 : 0 ≤ IntKind.u64.wrap x:=by simp [IntKind.wrap,IntKind.bits,IntKind.signed]; omega
  rw [h2,Int.tmod_eq_emod_of_nonneg h3]
  have h4:=Int.emod_nonneg (IntKind.u64.wrap x) (show (v : Int) ≠ 0 by omega)
  have h5:=Int.emod_lt_of_pos (IntKind.u64.wrap x) (show 0 < (v : Int) by omega)
  refine ⟨(IntKind.u64.wrap x % v).toNat,by omega,?_⟩
  rw [wrap64 (by omega) (by omega)]; omega
variable {P : Program} (H : Fs P)
include H
end Go.Proofs.Ytnnjlnkoomeadaa.Pv
namespace Go.Proofs.Ytnnjlnkoomeadaa.Pv
open Go.Ev Go.Ev.Rp
set_option linter.unusedVariables false
theorem at_exists : ∀ {l : List Int} (t : Int),l.Pairwise (· < ·) → ∃ i b,At l t i b
  | [],t,_=>⟨0,false,⟨Nat.le_refl _,λj h=>by simp at h,λj h=>by simp at h,by simp⟩⟩
  | a :: l,t,h=>by
    rw [List.pairwise_cons] at h
    rcases Int.lt_or_le a t with hlt | hle
    · obtain ⟨i,b,hA⟩:=at_exists t h.2
      refine ⟨i + 1,b,⟨by have:=hA.le; simpa using this,λj hj hji=>?_,λj hj hij=>?_,?_⟩⟩
      · cases j with
        | zero=>simpa using hlt
        | succ j=>simpa using hA.lt j (by simpa using hj) (by omega)
      · cases j with
        | zero=>omega
        | succ j=>simpa using hA.ge j (by simpa using hj) (by omega)
      · rw [hA.is]; simp
    · refine ⟨0,decide (a = t),⟨Nat.zero_le _,λj hj hji=>by omega,λj hj _=>?_,by simp⟩⟩
      cases j with
      | zero=>simpa using hle
      | succ j =>
        have:=h.1 _ (List.getElem_mem (l:=l) (n:=j) (by simpa using hj))
        simp only [List.getElem_cons_succ]; omega
theorem put_spec {l : List Int} {t : Int} (h : l.Pairwise (· < ·)) : (putL l t).Pairwise (· < ·) ∧ (∀ y,y ∈ putL l t ↔ y = t ∨ y ∈ l) ∧ (putL l t).length = if t ∈ l then l.length else l.length + 1:=by
  obtain ⟨i,b,hA⟩:=at_exists t h
  have hp:=List.pairwise_iff_getElem.1 h
  cases b with
  | true =>
    rw [put_yes h hA]
    obtain ⟨h1,h2⟩:=of_decide_eq_true hA.is.symm
    have hm : t ∈ l:=by rw [← h2]; exact List.getElem_mem h1
    exact ⟨h,λy=>⟨.inr,λhy=>by rcases hy with rfl | hy; exact hm; exact hy⟩,by rw [if_pos hm]⟩
  | false =>
    rw [put_no h hA]
    have hno : ¬ ∃ h : i < l.length,l[i] = t:=of_decide_eq_false hA.is.symm
    have hgt : ∀ j (hj : j < l.length),i ≤ j → t < l[j]:=λj hj hij=>by
      have h1:=hA.ge j hj hij
      rcases Nat.eq_or_lt_of_le hij with e | e
      · subst e
        have : l[i] ≠ t:=λe=>hno ⟨hj,e⟩
        omega
      · have h2:=hp i j (by omega) hj e
        have h3:=hA.ge i (by omega) (Nat.le_refl _)
        omega
    have hm : t ∉ l:=λhm=>by
      obtain ⟨j,hj,e⟩:=List.getElem_of_mem hm
      rcases Nat.lt_or_ge j i with h1 | h1
      · have:=hA.lt j hj h1; omega
      · have:=hgt j hj h1; omega
    have htk : ∀ y ∈ l.take i,y < t:=λy hy=>by
      obtain ⟨j,hj,e⟩:=List.getElem_of_mem hy
      rw [List.getElem_take] at e
      rw [List.length_take] at hj
      have:=hA.lt j (by omega) (by omega); omega
    have hdr : ∀ y ∈ l.drop i,t < y:=λy hy=>by
      obtain ⟨j,hj,e⟩:=List.getElem_of_mem hy
      rw [List.getElem_drop] at e
      rw [List.length_drop] at hj
      have:=hgt (i + j) (by omega) (by omega); omega
    refine ⟨?_,λy=>?_,?_⟩
    · rw [List.pairwise_append,List.pairwise_cons]
      refine ⟨h.sublist (List.take_sublist _ _),⟨hdr,h.sublist (List.drop_sublist _ _)⟩,λa ha b hb=>?_⟩
      rw [List.mem_cons] at hb
      rcases hb with rfl | hb
      · exact htk a ha
      · have h1:=htk a ha
        have h2:=hdr b hb
        omega
    · rw [List.mem_append,List.mem_cons]
      have : y ∈ l ↔ y ∈ l.take i ∨ y ∈ l.drop i:=by rw [← List.mem_append,List.take_append_drop]
      rw [this]
      constructor
      · rintro (h | h | h)
        · exact .inr (.inl h)
        · exact .inl h
        · exact .inr (.inr h)
      · rintro (h | h | h)
        · exact .inr (.inl h)
        · exact .inl h
        · exact .inr (.inr h)
    · rw [if_neg hm,List.length_append,List.length_cons,List.length_take,List.length_drop]
      have:=hA.le; omega
end Go.Proofs.Ytnnjlnkoomeadaa.Pv
namespace Go.Proofs.Ytnnjlnkoomeadaa.Pv
open Go.Ev Go.Ev.Rp
set_option maxRecDepth 100000
set_option maxHeartbeats 4000000
set_option linter.unusedSimpArgs false
set_option linter.unusedVariables false
set_option linter.unusedSectionVars false
def seEnt (i : Nat) : Ent:=⟨0,0,0,(i : Int),[]⟩
def seR (k L c : Nat) : Rep:=⟨0,(k : Int),0,0,0,(c : Int),false,⟨0,tx0,(List.range L).map seEnt⟩,List.replicate k 0,[],[]⟩
def seM (w : Nat) : Msg:=⟨13,(w : Int),0,0,0,0,0,1,0,0,0,0,0,0,tx0,[],⟨0,tx0,[]⟩,tx0⟩
def seX (k L : Nat) (l : List Int) : Rd:=⟨1,(L : Int),100,l,mA⟩
theorem se_rc (k L c : Nat) (xe xa : SV) : repC (seR k L c) xe xa .nsl .nsl = [I 0,I k,I 0,I 0,I 0,I c,.bool false,I 0,.str 0 0,xe,xa,.nsl,.nsl]:=rfl
theorem se_mc (w : Nat) : msgC (seM w) .nsl .nsl = [I 13,I w,I 0,I 0,I 0,I 0,I 0,I 1,I 0,I 0,I 0,I 0,I 0,I 0,.str 0 0,.nsl,I 0,.str 0 0,.nsl,.str 0 0]:=rfl
theorem se_xc (k L : Nat) (l : List Int) (xa' xb' xm' : SV) : rdC (seX k L l) xa' xb' xm' = [I 1,I L,I 100,xa',I 2,I 100,I 0,I 0,I 0,I 0,I 0,I 0,I 0,I 0,I 0,I 0,I 0,I 0,.str 1 97,xb',I 0,.str 0 0,xm',.str 0 0]:=rfl
theorem se_tab {kn : Nat} (h : kn ≤ 3) : ([I 1,I 3,I 5,I 7].drop (kn * 1)).take 1 = [I ((2 * kn + 1 : Nat) : Int)]:=by
  rcases (show kn = 0 ∨ kn = 1 ∨ kn = 2 ∨ kn = 3 by omega) with rfl | rfl | rfl | rfl <;> rfl
theorem se_me {kn : Nat} (h : kn ≤ 3) : meB 0 ((2 * kn + 1 : Nat) : Int) = true:=by
  rcases (show kn = 0 ∨ kn = 1 ∨ kn = 2 ∨ kn = 3 by omega) with rfl | rfl | rfl | rfl <;> rfl
theorem se_b {kn : Nat} (h : kn ≤ 3) {L c : Nat} (hL : L ≤ 7) (hc : c ≤ L) : repB (seR (2 * kn + 1) L c) = true:=by
  have key : ((List.range 4).all λkn=>(List.range 8).all λL=>(List.range 8).all λc=>!decide (c ≤ L) || repB (seR (2 * kn + 1) L c)) = true:=by decide +kernel
  have h1:=List.all_eq_true.1 (List.all_eq_true.1 (List.all_eq_true.1 key kn (by simp; omega)) L (by simp; omega)) c (by simp; omega)
  simpa [hc] using h1
theorem se_l {kn : Nat} (h : kn ≤ 3) {L c : Nat} (hL : L ≤ 7) (hc : c ≤ L) : leadB (seR (2 * kn + 1) L c) = true:=by
  have key : ((List.range 4).all λkn=>(List.range 8).all λL=>(List.range 8).all λc=>leadB (seR (2 * kn + 1) L c)) = true:=by decide +kernel
  exact List.all_eq_true.1 (List.all_eq_true.1 (List.all_eq_true.1 key kn (by simp; omega)) L (by simp; omega)) c (by simp; omega)
theorem se_asks {kn : Nat} (h : kn ≤ 3) {L c : Nat} : (asks (seR (2 * kn + 1) L c) 1 (seR (2 * kn + 1) L c).nodes.toNat).length = 2 * kn:=by
  rcases (show kn = 0 ∨ kn = 1 ∨ kn = 2 ∨ kn = 3 by omega) with rfl | rfl | rfl | rfl <;> rfl
theorem se_sz (k L c : Nat) (hk : k ≤ 7) (hL : L ≤ 7) : RepSz (seR k L c):=⟨⟨by simp [seR]; omega,λe he=>by simp [seR,seEnt] at he; rcases he with ⟨a,_,rfl⟩; simp⟩,by simp [seR]; omega,by simp [seR],by simp [seR],λd hd=>by simp [seR] at hd⟩
structure SeL (k : Nat) (l : List Int) : Prop where
  up : l.Pairwise (· < ·)
  lo : ∀ y ∈ l,0 < y
  hi : ∀ y ∈ l,y < (k : Int)
theorem SeL.length {k : Nat} {l : List Int} (h : SeL k l) : l.length ≤ k:=by
  have key : ∀ (l : List Int) (a : Int),(a :: l).Pairwise (· < ·) → (∀ y ∈ l,y < (k : Int)) → a < k → (l.length : Int) + a < k:=by
    intro l
    induction l with
    | nil=>intro a _ _ h; simpa using h
    | cons b l ih =>
      intro a h1 h2 h3
      rw [List.pairwise_cons] at h1
      have h4:=ih b h1.2 (λy hy=>h2 y (List.mem_cons_of_mem _ hy)) (h2 b List.mem_cons_self)
      have h5:=h1.1 b List.mem_cons_self
      simp only [List.length_cons]; omega
  cases l with
  | nil=>exact Nat.zero_le _
  | cons a l =>
    have h4:=key l a h.up (λy hy=>h.hi y (List.mem_cons_of_mem _ hy)) (h.hi a List.mem_cons_self)
    have h5:=h.lo a List.mem_cons_self
    simp only [List.length_cons]; omega
def seSeen (k : Nat) (l : List Int) : List SV:=(List.range k).map λ(j : Nat)=>.bool (decide ((j : Int) ∈ l))
theorem se_got {kn L c w : Nat} (hkn : kn ≤ 3) (hL : L ≤ 7) (hc : c ≤ L) (hw : w < 2 * kn + 1) (l : List Int) : got (seR (2 * kn + 1) L c) (seX (2 * kn + 1) L l) (seM w) = seX (2 * kn + 1) L (if 0 < w then putL l w else l):=by
  have hb:=se_b hkn hL hc
  have hl:=se_l hkn hL hc
  have hm : msgB (seM w) = true:=by
    have key : ((List.range 7).all λw=>msgB (seM w)) = true:=by decide +kernel
    exact List.all_eq_true.1 key w (by simp; omega)
  unfold got gotB
  rw [hb,hl,hm]
  by_cases h0 : 0 < w
  · rw [if_pos h0,if_pos]
    · rfl
    · simp [seM,seR,seX]
      exact ⟨by omega,decide_eq_true (by omega)⟩
  · rw [if_neg h0,if_neg]
    simp [seM,seR,seX]; omega
theorem se_put {k w : Nat} {l : List Int} (h : SeL k l) (h0 : 0 < w) (hw : w < k) : SeL k (putL l w) ∧ (∀ y,y ∈ putL l (w : Int) ↔ y = w ∨ y ∈ l) ∧ (putL l (w : Int)).length = if (w : Int) ∈ l then l.length else l.length + 1:=by
  obtain ⟨h1,h2,h3⟩:=put_spec (t:=(w : Int)) h.up
  refine ⟨⟨h1,λy hy=>?_,λy hy=>?_⟩,h2,h3⟩
  · rcases (h2 y).1 hy with rfl | hy
    · omega
    · exact h.lo y hy
  · rcases (h2 y).1 hy with rfl | hy
    · omega
    · exact h.hi y hy
theorem se_ready {kn L c : Nat} (hkn : kn ≤ 3) (hL : L ≤ 7) (hc : c ≤ L) (l : List Int) : readyB (seR (2 * kn + 1) L c) (seX (2 * kn + 1) L l) = (decide (((kn : Nat) : Int) ≤ (l.length : Int)) && decide (((c : Nat) : Int) = ((L : Nat) : Int))):=by
  unfold readyB
  rw [se_b hkn hL hc,se_l hkn hL hc]
  have h1 : IntKind.i64.wrap ((IntKind.i64.wrap ((seR (2 * kn + 1) L c).nodes - 1)).tdiv 2) = ((kn : Nat) : Int):=by
    rcases (show kn = 0 ∨ kn = 1 ∨ kn = 2 ∨ kn = 3 by omega) with rfl | rfl | rfl | rfl <;> rfl
  rw [h1]
  have h2 : decide ((seX (2 * kn + 1) L l).at' ≤ (seR (2 * kn + 1) L c).commit) = decide (((c : Nat) : Int) = ((L : Nat) : Int)):=by
    apply decide_eq_decide.2
    simp [seX,seR]; omega
  rw [h2]; rfl
theorem se_seen {k w : Nat} {l : List Int} (hw : w < k) : List.take 1 (List.drop (w * 1) (seSeen k l)) = [.bool (decide ((w : Int) ∈ l))]:=by
  unfold seSeen
  rw [Nat.mul_one,List.drop_eq_getElem_cons (by simpa using hw)]
  simp
theorem se_len {k : Nat} {l : List Int} : (seSeen k l).length = k:=by simp [seSeen]
theorem se_mkd {k : Nat} {l : List Int} : mkd (seSeen k l) = false:=by
  unfold seSeen
  cases k with
  | zero=>rfl
  | succ k=>rw [List.range_succ_eq_map]; rfl
theorem se_over {k w : Nat} {l l' : List Int} (hw : w < k) (h : ∀ y,y ∈ l' ↔ y = (w : Int) ∨ y ∈ l) : over (seSeen k l) (w * 1) [.bool true] = seSeen k l':=by
  apply List.ext_getElem?
  intro i
  rw [Nat.mul_one]
  unfold over seSeen
  have hlen : ((List.range k).map λ(j : Nat)=>SV.bool (decide ((j : Int) ∈ l))).length = k:=by simp
  rcases Nat.lt_trichotomy i w with hi | hi | hi
  · rw [List.getElem?_append_left (by simp; omega),List.getElem?_take_of_lt hi,List.getElem?_map,List.getElem?_map,List.getElem?_range (by omega)]
    have : ((i : Int) ∈ l') = ((i : Int) ∈ l):=by rw [eq_iff_iff,h]; constructor; (rintro (e | e); omega; exact e); exact .inr
    simp [this]
  · subst hi
    have : ((i : Int) ∈ l'):=(h _).2 (.inl rfl)
    rw [List.getElem?_append_right (by simp; omega),List.length_take,hlen,show i - min i k = 0 by omega,List.getElem?_map,List.getElem?_range hw]
    simp [this]
  · rw [List.getElem?_append_right (by simp; omega),List.length_take,hlen,List.getElem?_append_right (by simp; omega),List.getElem?_drop]
    have e1 : w + [SV.bool true].length + (i - min w k - [SV.bool true].length) = i:=by simp; omega
    rw [e1,List.getElem?_map,List.getElem?_map]
    by_cases hk : i < k
    · rw [List.getElem?_range hk]
      have : ((i : Int) ∈ l') = ((i : Int) ∈ l):=by rw [eq_iff_iff,h]; constructor; (rintro (e | e); omega; exact e); exact .inr
      simp [this]
    · rw [List.getElem?_eq_none (by simp; omega)]; rfl
theorem se_new (k : Nat) : rep [SV.bool false] k = seSeen k []:=by
  unfold seSeen
  induction k with
  | zero=>rfl
  | succ k ih =>
    rw [rep_s,List.range_succ_eq_map,List.map_cons,ih,List.map_map]
    simp
end Go.Proofs.Ytnnjlnkoomeadaa.Pv
namespace Go.Proofs.Ytnnjlnkoomeadaa.Pv
open Go.Ev Go.Ev.Rp
set_option maxRecDepth 100000
set_option maxHeartbeats 4000000
set_option linter.unusedSimpArgs false
set_option linter.unusedVariables false
set_option linter.unusedSectionVars false
def Ex2 (a b : Nat) (M : Fz) : Fz:=λj=>if j = a ∨ j = b then none else M j
theorem Ex2.el {a b j : Nat} {M : Fz} {B : List SV} (h : Ex2 a b M j = some B) : j ≠ a ∧ j ≠ b ∧ M j = some B:=by
  unfold Ex2 at h
  split at h
  · cases h
  · rename_i hn; exact ⟨λe=>hn (.inl e),λe=>hn (.inr e),h⟩
theorem Ex2.at {a b j : Nat} {M : Fz} {B : List SV} (h1 : j ≠ a) (h2 : j ≠ b) (h : M j = some B) : Ex2 a b M j = some B:=by
  unfold Ex2; rw [if_neg (by omega)]; exact h
theorem Ex2.sub {a b : Nat} {M : Fz} : Sub (Ex2 a b M) M:=λ_ _ h=>(Ex2.el h).2.2
theorem Ex2.mono {a b : Nat} {M M' : Fz} (h : Sub M M') : Sub (Ex2 a b M) (Ex2 a b M'):=λ_ _ g=>Ex2.at (Ex2.el g).1 (Ex2.el g).2.1 (h _ _ (Ex2.el g).2.2)
theorem Ex2.put {a b id : Nat} {fz : Fz} {mu : St} {c d : List SV} (hi : id = a ∨ id = b) (h : Ev.look mu id = some d) : Sub (Ex2 a b (with' mu fz)) (Ex2 a b (with' (putS mu id c) fz)):=λj B g=>by
  obtain ⟨h1,h2,h3⟩:=Ex2.el g
  exact Ex2.at h1 h2 (by rw [with_putS h,if_neg (by omega)]; exact h3)
theorem Ex2.from {a b n : Nat} {M : Fz} (h1 : a < n) (h2 : b < n) : Sub (From n M) (Ex2 a b M):=λj B g=>by
  obtain ⟨h3,h4⟩:=From.el g
  exact Ex2.at (by omega) (by omega) h4
structure SeI (fz : Fz) (x : SV) (k L c n3 n5 ns n0 : Nat) (mu0 : St) (xe xa : SV) (i : Nat) (e : Env) (mu : St) (n : Nat) (l : List Int) (xa' xb' xm' : SV) : Prop where
  sel : SeL k l
  gg : Gr n0 fz mu0 mu n0 n
  h0 : n0 ≤ n3
  h3 : n3 < n5
  h5 : n5 < ns
  hs : ns < n
  b3 : Ev.look mu n3 = some [I 0,I (k : Nat),I 0,I 0,I 0,I (c : Nat),.bool false,I 0,.str 0 0,xe,xa,.nsl,.nsl]
  b5 : Ev.look mu n5 = some [I 1,I (L : Nat),I 100,xa',I 2,I 100,I 0,I 0,I 0,I 0,I 0,I 0,I 0,I 0,I 0,I 0,I 0,I 0,.str 1 97,xb',I 0,.str 0 0,xm',.str 0 0]
  bs : Ev.look mu ns = some (seSeen k l)
  r1 : IntsR (Ex2 n5 ns (with' mu fz)) xa (List.replicate k 0)
  r2 : EntsR (Ex2 n5 ns (with' mu fz)) xe ((List.range L).map seEnt)
  q1 : IntsR (Ex2 n5 ns (with' mu fz)) xa' l
  q2 : PtsR (Ex2 n5 ns (with' mu fz)) xb' []
  q3 : EntsR (Ex2 n5 ns (with' mu fz)) xm' []
  e03 : e 0 3 = .one x
  e09 : e 0 9 = .one (I (k : Nat))
  e010 : e 0 10 = .one (.optr n3 0)
  e012 : e 0 12 = .one (I (c : Nat))
  e014 : e 0 14 = .one (.optr n5 0)
  e11 : e 1 1 = .one (.osl ns 0 k k 1)
  e12 : e 1 2 = .one (.int .i64 l.length)
  e13 : e 1 3 = .one (.int .i64 i)
theorem se_same {k : Nat} {l l2 : List Int} (h : ∀ y,y ∈ l2 ↔ y ∈ l) : seSeen k l = seSeen k l2:=by
  unfold seSeen
  congr 1; funext j
  have : ((j : Int) ∈ l2) = ((j : Int) ∈ l):=by rw [eq_iff_iff]; exact h _
  simp [this]
variable {P : Program} (H : Fs P)
include H
theorem see_loop (hI : InsC P) {kn L c : Nat} (hkn : kn ≤ 3) (hL : L ≤ 7) (hcL : c ≤ L) {fz : Fz} {mu0 : St} {n0 : Nat} (hfr : Free fz mu0 n0) (x : SV) (ag : List Int) (hag : ag.length ≤ 4611686018427387904) (s : IntsR (with' mu0 fz) x ag)
    {n3 n5 ns : Nat} {xe xa : SV} (e : Env) (mu : St) (n : Nat) (K : LK) (w) (xb' xm' : SV) (hi : SeI fz x (2 * kn + 1) L c n3 n5 ns n0 mu0 xe xa 0 e mu n [] .nsl xb' xm')
    (hK : ∀ i e mu n l xa' xb' xm',SeI fz x (2 * kn + 1) L c n3 n5 ns n0 mu0 xe xa i e mu n l xa' xb' xm' → K (.exit 2) (tmE 150 e) mu n) : Lp (dcode pOrc False (CP P) fz 30 l_law18_QuorumSees_1) 30 (tmE 150 e) mu n K w:=by
  obtain ⟨xl,xs,xk,xm⟩:=s.len
  refine loopI (x:=2) (L:=min ag.length 20) (p:=λ_=>true) (λi e mu n=>∃ l xa' xb' xm',SeI fz x (2 * kn + 1) L c n3 n5 ns n0 mu0 xe xa i e mu n l xa' xb' xm') (λ_ _ _=>False) ?_ ?_ _ _ _ _ _ (by omega) ⟨_,_,_,_,hi⟩ (λ_ e' mu' n' ⟨l,a1,a2,a3,h⟩=>hK _ _ _ _ _ _ _ _ h) (by rintro ⟨_,_,_,h⟩; cases h)
  · rintro i e mu n K hi ⟨l,xa',xb',xm',D⟩ hy hn
    obtain ⟨w,hw,ew⟩:=rem_range ag[i] (2 * kn + 1) (by omega) (by omega)
    obtain ⟨sel,gg,h0,h3,h5,hs,b3,b5,bs,r1,r2,q1,q2,q3,e03,e09,e010,e012,e014,e11,e12,e13⟩:=D
    obtain ⟨xal,-,xak,xam⟩:=q1.len
    obtain ⟨-,-,xbk,xbm⟩:=q2.len
    obtain ⟨-,-,xmk,xmm⟩:=q3.len
    obtain ⟨-,-,xek,xem⟩:=r2.len
    obtain ⟨-,-,xck,xcm⟩:=r1.len
    have hi1 : i < ag.length:=by omega
    have hi2 : ((i : Int) < 20) = True:=by simp; omega
    have hwi:=wrap_succ hi1 hag
    obtain ⟨id,off,cap,B,rfl,hB,hmk,hbd,hsub⟩:=(IntsR.mono (gg.sub hfr (Nat.le_refl _)) s).elem hi1
    have hr0 : (IntKind.u64.wrap ((2 * kn + 1 : Nat) : Int) = 0) = False:=by simp [IntKind.wrap,IntKind.bits,IntKind.signed]; omega
    have w3:=look_with (fz:=fz) b3
    have w5:=look_with (fz:=fz) b5
    have ws:=look_with (fz:=fz) bs
    have s1:=se_seen (l:=l) hw
    have s2 : w * 1 + 1 ≤ (seSeen (2 * kn + 1) l).length:=by rw [se_len]; omega
    have s3:=se_mkd (k:=2 * kn + 1) (l:=l)
    have s4:=se_len (k:=2 * kn + 1) (l:=l)
    have hG:=quorum_Got H hI (seR (2 * kn + 1) L c) xe xa .nsl .nsl (seX (2 * kn + 1) L l) xa' xb' xm' (seM w) .nsl .nsl (se_sz _ _ _ (by omega) hL) (by have:=sel.length; simp [seX]; omega) (by simp [seX,mA]) lg0 sel.up
    rw [se_got hkn hL hcL hw,se_rc,se_xc,se_mc] at hG
    obtain ⟨l2,hl2,sel2,hlen2,hmem⟩ : ∃ l2,(if 0 < w then putL l w else l) = l2 ∧ SeL (2 * kn + 1) l2 ∧ (l2.length = if 0 < w ∧ (w : Int) ∉ l then l.length + 1 else l.length) ∧ (if 0 < w ∧ (w : Int) ∉ l then (∀ y,y ∈ l2 ↔ y = (w : Int) ∨ y ∈ l) else ∀ y,y ∈ l2 ↔ y ∈ l):=by
      by_cases h0 : 0 < w
      · obtain ⟨h1,h2,h3⟩:=se_put sel h0 hw
        refine ⟨_,rfl,?_⟩
        rw [if_pos h0]
        by_cases h4 : (w : Int) ∈ l
        · rw [if_pos h4] at h3
          refine ⟨h1,by simp [h3,h4],?_⟩
          rw [if_neg (by simp [h4])]
          intro y; rw [h2]; exact ⟨by rintro (rfl | h) <;> assumption,.inr⟩
        · rw [if_neg h4] at h3
          refine ⟨h1,by simp [h3,h4,h0],?_⟩
          rw [if_pos ⟨h0,h4⟩]; exact h2
      · refine ⟨_,rfl,?_⟩
        rw [if_neg h0]
        refine ⟨sel,by simp [h0],?_⟩
        rw [if_neg (by simp [h0])]; simp
    rw [hl2] at hG
    have hRd:=se_ready hkn hL hcL l2
    have hlen9:=sel.length
    rw [dc_at l_law18_QuorumSees_1.eq_1]
    have hcs : ((((0 : Int) < (w : Int)) = False) ∧ ¬ (0 < w ∧ (w : Int) ∉ l)) ∨ ((((0 : Int) < (w : Int)) = True) ∧ decide ((w : Int) ∈ l) = true ∧ ¬ (0 < w ∧ (w : Int) ∉ l)) ∨ ((((0 : Int) < (w : Int)) = True) ∧ decide ((w : Int) ∈ l) = false ∧ (0 < w ∧ (w : Int) ∉ l)):=by
      by_cases h0 : 0 < w
      · by_cases h1 : (w : Int) ∈ l
        · exact .inr (.inl ⟨by simp [h0],by simp [h1],by simp [h1]⟩)
        · exact .inr (.inr ⟨by simp [h0],by simp [h1],⟨h0,h1⟩⟩)
      · exact .inl ⟨by simp; omega,by simp [h0]⟩
    clear hl2
    have s5 : (w * 1 ≤ 2 * kn) = True:=by simp; omega
    have hne1 : (ns = n3) = False:=by simp; omega
    have hne2 : (ns = n5) = False:=by simp; omega
    have hne3 : (n5 = n3) = False:=by simp; omega
    have hwk : IntKind.i64.wrap (((2 * kn + 1 : Nat) : Int) - 1) = ((2 * kn : Nat) : Int):=by rw [wrap64 (by omega) (by omega)]; omega
    have hwq : IntKind.i64.wrap ((((2 * kn : Nat) : Int)).tdiv 2) = ((kn : Nat) : Int):=by rw [Int.tdiv_eq_ediv_of_nonneg (by omega),wrap64 (by omega) (by omega)]; omega
    have u:=gg.sub hfr (Nat.le_refl _)
    have ho : with' (putS mu ns (seSeen (2 * kn + 1) l2)) fz = with' (putS mu ns (seSeen (2 * kn + 1) l2)) fz:=rfl
    clear s
    rcases hcs with ⟨hw0,hno⟩ | ⟨hw0,hin,hno⟩ | ⟨hw0,hin,hyes⟩
    case' inr.inr =>
      rw [if_pos hyes] at hlen2 hmem
      clear hyes
      have gC:=gg.put (id:=ns) (by omega) bs (c:=seSeen (2 * kn + 1) l2)
      have uC:=Ex2.put (a:=n5) (b:=ns) (fz:=fz) (c:=seSeen (2 * kn + 1) l2) (.inr rfl) bs
      have s6:=se_over hw hmem
      have hwm : IntKind.i64.wrap ((l.length : Int) + 1) = ((l2.length : Nat) : Int):=by rw [wrap64 (by omega) (by omega),hlen2]; rfl
      clear hlen2
      simp only [↓E1,E2,zA,zB,zC,zD,zE,zF,zG,zH,zI,zJ,zK,zL,zM,zN,reduceIte,zO,zP, *,with_putI,look_putS,putS_putS,Option.isSome_some,Option.map_some]
      replace r1:=IntsR.mono uC r1
      replace r2:=EntsR.mono uC r2
      replace q1:=IntsR.mono uC q1
      replace q2:=PtsR.mono uC q2
      replace q3:=EntsR.mono uC q3
      have c3 : Ev.look (putS mu ns (seSeen (2 * kn + 1) l2)) n3 = some [I 0,I ((2 * kn + 1 : Nat) : Int),I 0,I 0,I 0,I (c : Nat),.bool false,I 0,.str 0 0,xe,xa,.nsl,.nsl]:=by rw [look_putS,if_neg (by omega)]; exact b3
      have c5 : Ev.look (putS mu ns (seSeen (2 * kn + 1) l2)) n5 = some [I 1,I (L : Nat),I 100,xa',I 2,I 100,I 0,I 0,I 0,I 0,I 0,I 0,I 0,I 0,I 0,I 0,I 0,I 0,.str 1 97,xb',I 0,.str 0 0,xm',.str 0 0]:=by rw [look_putS,if_neg (by omega)]; exact b5
      have cs : Ev.look (putS mu ns (seSeen (2 * kn + 1) l2)) ns = some (seSeen (2 * kn + 1) l2):=by rw [look_putS,if_pos rfl,bs]; rfl
      replace gg:=gC
      clear gC uC w3 w5 ws b3 b5 bs s1 s2 s3 s6 u
      generalize putS mu ns (seSeen (2 * kn + 1) l2) = mu' at *
    case' inr.inl =>
      rw [if_neg hno] at hlen2 hmem
      clear hno
      have c3:=b3
      have c5:=b5
      simp only [↓E1,E2,zA,zB,zC,zD,zE,zF,zG,zH,zI,zJ,zK,zL,zM,zN,reduceIte,zO,zP, *,with_putI,look_putS,putS_putS,Option.isSome_some,Option.map_some]
      rw [← hlen2] at e12
      have cs : Ev.look mu ns = some (seSeen (2 * kn + 1) l2):=by rw [bs,se_same hmem]
      clear w3 w5 ws b3 b5 bs s1 s2 s3 u hlen2
    case' refine_1.inl =>
      rw [if_neg hno] at hlen2 hmem
      clear hno
      have c3:=b3
      have c5:=b5
      simp only [↓E1,E2,zA,zB,zC,zD,zE,zF,zG,zH,zI,zJ,zK,zL,zM,zN,reduceIte,zO,zP, *,with_putI,look_putS,putS_putS,Option.isSome_some,Option.map_some]
      rw [← hlen2] at e12
      have cs : Ev.look mu ns = some (seSeen (2 * kn + 1) l2):=by rw [bs,se_same hmem]
      clear w3 w5 ws b3 b5 bs s1 s2 s3 u hlen2
    all_goals
      refine hG.c1 gg.free ⟨⟨EntsR.mono Ex2.sub r2,IntsR.mono Ex2.sub r1,nilI _,nilD _⟩,IntsR.mono Ex2.sub q1,⟨PtsR.mono Ex2.sub q2,EntsR.mono Ex2.sub q3⟩,nilP _,nilE _⟩ ?_
      rintro v m7 n7 g7 ⟨xa2,xb2,xm2,rfl,hxa,hxb,hxm⟩
      have l7:=g7.le
      obtain ⟨-,-,ak2,am2⟩:=SlX.len hxa
      obtain ⟨-,-,bk2,bm2⟩:=SlX.len hxb
      obtain ⟨-,-,mk2,mm2⟩:=hxm.choose_spec.1.len
      obtain ⟨al2,-,-,-⟩:=SlX.len hxa
      have d3:=(g7.own n3 (by omega)).trans c3
      have d5:=(g7.own n5 (by omega)).trans c5
      have ds:=(g7.own ns (by omega)).trans cs
      have u7:=Ex2.mono (a:=n5) (b:=ns) ((g7.sub gg.free (Nat.le_refl _)).trans (Sub.refl _))
      have uF:=Ex2.from (a:=n5) (b:=ns) (M:=with' m7 fz) (n:=n) (by omega) (by omega)
      have gD:=(gg.trans (g7.weaken (by omega))).put (id:=n5) (by omega) d5 (c:=[I 1,I (L : Nat),I 100,xa2,I 2,I 100,I 0,I 0,I 0,I 0,I 0,I 0,I 0,I 0,I 0,I 0,I 0,I 0,.str 1 97,xb2,I 0,.str 0 0,xm2,.str 0 0])
      have uP:=Ex2.put (a:=n5) (b:=ns) (fz:=fz) (c:=[I 1,I (L : Nat),I 100,xa2,I 2,I 100,I 0,I 0,I 0,I 0,I 0,I 0,I 0,I 0,I 0,I 0,I 0,I 0,.str 1 97,xb2,I 0,.str 0 0,xm2,.str 0 0]) (.inl rfl) d5
      replace r1:=IntsR.mono (u7.trans uP) r1
      replace r2:=EntsR.mono (u7.trans uP) r2
      replace q1 : IntsR _ xa2 l2:=IntsR.mono (uF.trans uP) (IntsX.to hxa)
      replace q2 : PtsR _ xb2 []:=PtsR.mono (uF.trans uP) (PtsX.to hxb)
      replace q3 : EntsR _ xm2 []:=EntsR.mono (uF.trans uP) (EntsX.to hxm)
      rw [se_xc]
      have w3:=look_with (fz:=fz) d3
      have w5:=look_with (fz:=fz) d5
      have hP:=quorum_Ready H (seR (2 * kn + 1) L c) xe xa .nsl .nsl (seX (2 * kn + 1) L l2) xa2 xb2 xm2 (by simp [seR]) (by simp [seR]) (by simp [seR]; omega)
      rw [se_rc,se_xc,hRd] at hP
      clear xal xak xam xbk xbm xmk xmm xk xm xs xl hG
      simp only [↓E1,E2,zA,zB,zC,zD,zE,zF,zG,zH,zI,zJ,zK,zL,zM,zN,reduceIte,zO,zP, *,with_putI,look_putS,putS_putS,Option.isSome_some,Option.map_some]
      refine hP.c1 gD.free ⟨⟨EntsR.mono Ex2.sub r2,IntsR.mono Ex2.sub r1,nilI _,nilD _⟩,IntsR.mono Ex2.sub q1,⟨PtsR.mono Ex2.sub q2,EntsR.mono Ex2.sub q3⟩⟩ ?_
      rintro v m8 n8 g8 rfl
      have l8:=g8.le
      have f3:=(g8.own n3 (by omega)).trans ((look_putS m7 n5 _ n3).trans ((if_neg (by omega)).trans d3))
      have f5:=(g8.own n5 (by omega)).trans ((look_putS m7 n5 _ n5).trans ((if_pos rfl).trans (by rw [d5])))
      have fs:=(g8.own ns (by omega)).trans ((look_putS m7 n5 _ ns).trans ((if_neg (by omega)).trans ds))
      have u8:=Ex2.mono (a:=n5) (b:=ns) (g8.sub gD.free (Nat.le_refl _))
      have gH:=gD.trans (g8.weaken (by omega))
      have w5:=look_with (fz:=fz) f5
      clear w3 hP
      simp only [↓E1,E2,zA,zB,zC,zD,zE,zF,zG,zH,zI,zJ,zK,zL,zM,zN,reduceIte,zO,zP, *,with_putI,look_putS,putS_putS,Option.isSome_some,Option.map_some]
      refine Br_intro (λhb=>?_) (λhb=>?_)
      all_goals
        simp only [↓E1,E2,zA,zB,zC,zD,zE,zF,zG,zH,zI,zJ,zK,zL,zM,zN,reduceIte,zO,zP, *,with_putI,look_putS,putS_putS,Option.isSome_some,Option.map_some]
        try
          refine Br_intro (λhx=>False.elim (by revert hx hb; clear hK; cases decide (c = L) <;> cases decide (kn ≤ l2.length) <;> simp)) (λ_=>?_)
          simp only [↓E1,E2,zA,zB,zC,zD,zE,zF,zG,zH,zI,zJ,zK,zL,zM,zN,reduceIte,zO,zP, *,with_putI,look_putS,putS_putS,Option.isSome_some,Option.map_some]
        refine hy rfl _ _ _ ⟨l2,xa2,xb2,xm2,⟨sel2,gH,h0,h3,h5,by omega,f3,f5,fs,IntsR.mono u8 r1,EntsR.mono u8 r2,IntsR.mono u8 q1,PtsR.mono u8 q2,EntsR.mono u8 q3,?_,?_,?_,?_,?_,?_,?_,?_⟩⟩
        all_goals simp [updN,updE, *]
  · rintro e mu n K ⟨l,xa',xb',xm',D⟩ hx
    have D':=D
    obtain ⟨sel,gg,h0,h3,h5,hs,b3,b5,bs,r1,r2,q1,q2,q3,e03,e09,e010,e012,e014,e11,e12,e13⟩:=D
    rw [dc_at l_law18_QuorumSees_1.eq_1]
    rcases Nat.lt_or_ge 20 ag.length with hl | hl
    · have hm : min ag.length 20 = 20:=by omega
      rw [hm] at e13
      have hc1 : ((20 : Int) < (ag.length : Int)) = True:=by simp; omega
      have hc2 : (20 < ag.length) = True:=by simp; omega
      simp only [↓E1,E2,zA,zB,zC,zD,zE,zF,zG,zH,zI,zJ,zK,zL,zM,zN,reduceIte,zO,zP, *]
      refine hx _ _ _ ⟨l,xa',xb',xm',⟨sel,gg,h0,h3,h5,hs,b3,b5,bs,r1,r2,q1,q2,q3,?_,?_,?_,?_,?_,?_,?_,?_⟩⟩
      all_goals simp [updN,updE, *]
    · have hm : min ag.length 20 = ag.length:=by omega
      rw [hm] at e13
      have hc2 : (ag.length < ag.length) = False:=by simp
      simp only [↓E1,E2,zA,zB,zC,zD,zE,zF,zG,zH,zI,zJ,zK,zL,zM,zN,reduceIte,zO,zP, *]
      refine hx _ _ _ ⟨l,xa',xb',xm',⟨sel,gg,h0,h3,h5,hs,b3,b5,bs,r1,r2,q1,q2,q3,?_,?_,?_,?_,?_,?_,?_,?_⟩⟩
      all_goals simp [updN,updE, *]
end Go.Proofs.Ytnnjlnkoomeadaa.Pv
namespace Go.Proofs.Ytnnjlnkoomeadaa.Pv
open Go.Ev Go.Ev.Rp
set_option maxRecDepth 100000
set_option maxHeartbeats 4000000
set_option linter.unusedSimpArgs false
set_option linter.unusedVariables false
set_option linter.unusedSectionVars false
variable {P : Program} (H : Fs P)
include H
theorem law18_QuorumSees (hI : InsC P) (nodes last' commit : Int) (x : SV) (ag : List Int) (hag : ag.length ≤ 4611686018427387904) : BoolC P n_law18_QuorumSees [.one (I nodes),.one (I last'),.one (I commit),.one x] (λM=>IntsR M x ag) true:=boolC H.mx H.law18_QuorumSees 30 λfz mu n k hfr g0 s h=>by
  obtain ⟨xl,xs,xk,xm⟩:=s.len
  obtain ⟨kn,hkn,ekn⟩:=andI_mask nodes 3 (by decide)
  obtain ⟨L,hL,eL⟩:=andI_mask last' 7 (by decide)
  have ekn : andI nodes 3 = (kn : Int):=ekn
  have eL : andI last' 7 = (L : Int):=eL
  have e1:=se_tab hkn
  have e2 : (kn < 4) = True:=by simp; omega
  have hN:=ref16_New H 0 ((2 * kn + 1 : Nat) : Int) (se_me hkn)
  rw [i_law18_QuorumSees,dc_at b_law18_QuorumSees.eq_1]
  simp only [↓E1,E2,zA,zB,zC,zD,zE,zF,zG,zH,zI,zJ,zK,zL,zM,zN,reduceIte,zO,zP]
  refine (law18_awake H hI).c1 hfr trivial ?_
  rintro v m1 n1 g1 rfl
  have l1:=g1.le
  simp only [↓E1,E2,zA,zB,zC,zD,zE,zF,zG,zH,zI,zJ,zK,zL,zM,zN,reduceIte,zO,zP,↓b_andI, *]
  refine ⟨by omega,?_⟩
  refine CPr.abs1 g1.free λm2 n2 g2 l2 _=>?_
  have gg:=g1.trans (g2.weaken (by omega))
  refine hN.c1 gg.free trivial ?_
  rintro v m3 n3 g3 ⟨xa,rfl,hxa⟩
  have l3:=g3.le
  replace gg:=gg.trans (g3.weaken (by omega))
  obtain ⟨-,-,xak,xam⟩:=SlX.len hxa
  have hxa' : IntsX (From n (with' m3 fz)) xa (List.replicate (2 * kn + 1) 0):=IntsX.mono (From.le (by omega)) hxa
  have hfr3:=gg.free
  clear g1 g2 g3 hxa hN e1 e2
  unfold newR repC
  simp only [↓E1,E2,zA,zB,zC,zD,zE,zF,zG,zH,zI,zJ,zK,zL,zM,zN,reduceIte,zO,zP,↓b_andI, *,with_putI,look_putS,putS_putS,Option.isSome_some,Option.map_some]
  refine loopI (x:=0) (L:=L) (p:=λ_=>true) (λi e mu' n'=>∃ xe,Gr n fz mu mu' n n' ∧ n3 + 1 ≤ n' ∧ Ev.look mu' n3 = some [I 0,I ((2 * kn + 1 : Nat) : Int),I 0,I 0,I 0,I 0,.bool false,I 0,.str 0 0,xe,xa,.nsl,.nsl] ∧ Grow (n3 + 1) (with' mu' fz) 5 EntX xe ((List.range i).map seEnt) ∧ (∀ j,j < n3 → with' mu' fz j = with' m3 fz j) ∧
    e 0 1 = .one (I last') ∧ e 0 2 = .one (I commit) ∧ e 0 3 = .one x ∧ e 0 9 = .one (I ((2 * kn + 1 : Nat) : Int)) ∧ e 0 10 = .one (.optr n3 0) ∧ e 0 12 = .one (I 0) ∧ e 0 13 = .one (.int .i64 i)) (λ_ _ _=>False) ?_ ?_ _ _ _ _ _ (by omega) ?_ ?_ ?_
  · rintro i e mu2 n4 K hi ⟨xe,g2,a0,a2,a3,a4,e1,e2,e3,e9,e10,e12,e13⟩ hy hn
    have hw:=wrap_succ hi (by omega)
    have wa2:=look_with (fz:=fz) a2
    obtain ⟨-,-,zk,zm⟩:=a3.len
    have hne2 : (n4 = n3) = False:=by simp; omega
    rw [dc_at l_law18_QuorumSees_0.eq_1]
    simp only [↓E1,E2,zA,zB,zC,zD,zE,zF,zG,zH,zI,zJ,zK,zL,zM,zN,reduceIte,zO,zP,↓b_andI, *]
    refine Grow.more (R:=EntX) (λh g=>EntX.mono h g) (a:=seEnt i) a3 g2.free a0 (λj hj=>hfr.fz j (by omega)) ((Gr.refl g2.free).cons (Nat.le_refl _) _) ⟨.nsl,by simp [entC,seEnt],.inl ⟨.inl rfl,rfl⟩⟩ ⟨rfl,by simp only [↓E1,E2,zA,zB,zC,zD,zE,zF,zG,zH,zI,zJ,zK,zL,zM,zN,reduceIte,zO,zP]⟩ (fits_le (by simp; omega) (by decide) (by decide)) (λmu3 g3 G3=>?_)
    have b3 : Ev.look mu3 n3 = some [I 0,I ((2 * kn + 1 : Nat) : Int),I 0,I 0,I 0,I 0,.bool false,I 0,.str 0 0,xe,xa,.nsl,.nsl]:=by rw [g3.own n3 (by omega)]; exact a2
    simp only [↓E1,E2,zA,zB,zC,zD,zE,zF,zG,zH,zI,zJ,zK,zL,zM,zN,reduceIte,zO,zP, *,with_putI,look_putS,putS_putS,Option.isSome_some,Option.map_some]
    refine hy rfl _ _ _ ⟨_,(g2.trans (g3.weaken (by omega))).put (by omega) b3,by omega,by rw [look_putS,if_pos rfl,b3]; rfl,Grow.mono (R:=EntX) (λh g=>EntX.mono h g) ?_ (From.put (by omega) b3),λj hj=>by rw [with_putS b3,if_neg (by omega),g3.ext j (by omega)]; exact a4 j hj,?_⟩
    · rw [List.range_succ,List.map_append]; exact G3
    · simp [updN,updE, *]
  · rintro e mu2 n4 K ⟨xe,g2,a0,a2,a3,a4,e1,e2,e3,e9,e10,e12,e13⟩ hx
    rw [dc_at l_law18_QuorumSees_0.eq_1]
    have hlt2 : (L < L) = False:=by simp
    simp only [↓E1,E2,zA,zB,zC,zD,zE,zF,zG,zH,zI,zJ,zK,zL,zM,zN,reduceIte,zO,zP,↓b_andI, *]
    exact hx _ _ _ ⟨xe,g2,a0,a2,a3,a4,by simp [updN,updE, *]⟩
  · refine ⟨.nsl,gg.cons (by omega) _,Nat.le_refl _,by rw [look_c,if_pos rfl]; rfl,Grow.nil,λj hj=>by rw [with_c,if_neg (by omega)],by simp [updN,updE,envI]⟩
  · rintro - e mu2 n4 ⟨xe,g2,a0,a2,a3,a4,e1,e2,e3,e9,e10,e12,e13⟩
    have hE : EntsX (From (n3 + 1) (with' mu2 fz)) xe ((List.range L).map seEnt):=growEnts a3
    have wa2:=look_with (fz:=fz) a2
    obtain ⟨zl',zs,zk,zm⟩:=a3.len
    have zl : ∀ k,onLen xe k = k L:=by simpa using zl'
    clear a3 zl'
    have hcases : ∃ c : Nat,c ≤ L ∧ (L = 0 ∧ c = 0 ∨ 0 < L ∧ IntKind.i64.wrap ((IntKind.u64.wrap commit).tmod (IntKind.u64.wrap ((L + 1 : Nat) : Int))) = (c : Int)):=by
      rcases Nat.eq_zero_or_pos L with h0 | h0
      · exact ⟨0,Nat.zero_le _,.inl ⟨h0,rfl⟩⟩
      · obtain ⟨c,hc1,hc2⟩:=rem_range commit (L + 1) (by omega) (by omega)
        exact ⟨c,by omega,.inr ⟨h0,hc2⟩⟩
    obtain ⟨c,hcL,hcase⟩:=hcases
    have hwL : IntKind.i64.wrap ((L : Int) + 1) = ((L + 1 : Nat) : Int):=by rw [wrap64 (by omega) (by omega)]; rfl
    have hr0 : (IntKind.u64.wrap ((L + 1 : Nat) : Int) = 0) = False:=by simp [IntKind.wrap,IntKind.bits,IntKind.signed]; omega
    have hr1 : (0 = IntKind.u64.wrap ((L + 1 : Nat) : Int)) = False:=by simp [IntKind.wrap,IntKind.bits,IntKind.signed]; omega
    have hB:=quorum_Begin H (seR (2 * kn + 1) L c) xe xa .nsl .nsl 1 mA .nsl .nsl (se_sz _ _ _ (by omega) hL) (by simp [mA]) lg0 (se_b hkn hL hcL) (se_l hkn hL hcL)
    rw [se_rc,aw_m] at hB
    have hgt2 : ((0 : Int) < ((L : Nat) : Int)) = (0 < L):=by simp
    have gE:=g2.put (id:=n3) (by omega) a2 (c:=[I 0,I ((2 * kn + 1 : Nat) : Int),I 0,I 0,I 0,I ((c : Nat) : Int),.bool false,I 0,.str 0 0,xe,xa,.nsl,.nsl])
    have hA' : IntsR (with' (putS mu2 n3 [I 0,I ((2 * kn + 1 : Nat) : Int),I 0,I 0,I 0,I ((c : Nat) : Int),.bool false,I 0,.str 0 0,xe,xa,.nsl,.nsl]) fz) xa (List.replicate (2 * kn + 1) 0):=IntsX.to (IntsX.mono (λj B hj=>by
      obtain ⟨h1,h2⟩:=From.el hj
      have h3:=hfr3.lt h2
      rw [with_putS a2,if_neg (by omega),a4 j h3]; exact h2) hxa')
    have hE' : EntsR (with' (putS mu2 n3 [I 0,I ((2 * kn + 1 : Nat) : Int),I 0,I 0,I 0,I ((c : Nat) : Int),.bool false,I 0,.str 0 0,xe,xa,.nsl,.nsl]) fz) xe ((List.range L).map seEnt):=EntsX.to (EntsX.mono ((From.put (by omega) a2).trans From.sub) hE)
    have b3 : Ev.look (putS mu2 n3 [I 0,I ((2 * kn + 1 : Nat) : Int),I 0,I 0,I 0,I ((c : Nat) : Int),.bool false,I 0,.str 0 0,xe,xa,.nsl,.nsl]) n3 = some [I 0,I ((2 * kn + 1 : Nat) : Int),I 0,I 0,I 0,I ((c : Nat) : Int),.bool false,I 0,.str 0 0,xe,xa,.nsl,.nsl]:=by rw [look_putS,if_pos rfl,a2]; rfl
    have hAk : (asks (seR (2 * kn + 1) L c) 1 (seR (2 * kn + 1) L c).nodes.toNat).length = 2 * kn:=se_asks hkn
    rcases hcase with ⟨h0,hc0⟩ | ⟨h0,hc0⟩
    all_goals
      first
        | (replace e12 : e 0 12 = .one (I ((c : Nat) : Int)) := by rw [e12, hc0]; rfl
           have hgt1 : (0 < L) = False:=by simp [h0]
           clear h0 hc0
           simp only [↓E1,E2,zA,zB,zC,zD,zE,zF,zG,zH,zI,zJ,zK,zL,zM,zN,reduceIte,zO,zP, *,with_putI,look_putS,putS_putS,Option.isSome_some,Option.map_some])
        | (have hgt1 : (0 < L) = True := by simp [h0]
           clear h0
           simp only [↓E1,E2,zA,zB,zC,zD,zE,zF,zG,zH,zI,zJ,zK,zL,zM,zN,reduceIte,zO,zP, *,with_putI,look_putS,putS_putS,Option.isSome_some,Option.map_some])
      refine hB.c1 gE.free ⟨⟨hE',hA',nilI _,nilD _⟩,nilP _,nilE _⟩ ?_
      rintro v m5 n5 g5 ⟨xb',xm',xo,rfl,hxb,hxm,hxo⟩
      have l5:=g5.le
      obtain ⟨-,-,xbk,xbm⟩:=SlX.len hxb
      obtain ⟨-,-,xmk,xmm⟩:=hxm.choose_spec.1.len
      obtain ⟨xol0,xos,xok,xom⟩:=hxo.len
      have xol : ∀ k,onLen xo k = k (2 * kn):=by rw [List.length_map,hAk] at xol0; exact xol0
      clear xol0
      have c3:=(g5.own n3 (by omega)).trans b3
      have u5:=g5.sub gE.free (Nat.le_refl _)
      have p1:=IntsR.mono u5 hA'
      have p2:=EntsR.mono u5 hE'
      have q2 : PtsR _ xb' mA.batch:=PtsR.mono From.sub (PtsX.to hxb)
      have q3 : EntsR _ xm' mA.log.ents:=EntsR.mono From.sub (EntsX.to hxm)
      have gF:=gE.trans (g5.weaken (by omega))
      have hlast : last (seR (2 * kn + 1) L c).log = ((L : Nat) : Int):=by unfold last; simp [seR]; rw [wrap64 (by omega) (by omega)]
      have hbx : rdC (begR (seR (2 * kn + 1) L c) 1 mA) .nsl xb' xm' = [I 1,I ((L : Nat) : Int),I 100,.nsl,I 2,I 100,I 0,I 0,I 0,I 0,I 0,I 0,I 0,I 0,I 0,I 0,I 0,I 0,.str 1 97,xb',I 0,.str 0 0,xm',.str 0 0]:=by unfold begR; rw [hlast]; rfl
      rw [hbx]
      clear b3 hA' hE' hB gE g5 hxb hxm hxo a2 wa2 hE hxa' a4 hAk hlast hbx u5
      have w3:=look_with (fz:=fz) c3
      have hne : (n5 = n3) = False:=by simp; omega
      have hwk : IntKind.i64.wrap (((2 * kn + 1 : Nat) : Int) - 1) = ((2 * kn : Nat) : Int):=by rw [wrap64 (by omega) (by omega)]; omega
      simp only [↓E1,E2,zA,zB,zC,zD,zE,zF,zG,zH,zI,zJ,zK,zL,zM,zN,reduceIte,zO,zP, *,with_putI,look_putS,putS_putS,Option.isSome_some,Option.map_some]
      have hd1 : (2 * kn + 1 < 2 * kn + 1) = False:=by simp
      have hd2 : fits (2 * kn + 1) 1 = true:=fits_le (by omega) (by decide) (by decide)
      refine ⟨by simp [hd2],?_⟩
      have uX : ∀ (c1 c2 : List SV),Sub (with' m5 fz) (Ex2 n5 (n5 + 1) (with' ((n5 + 1,c1) :: (n5,c2) :: m5) fz)):=λc1 c2 j B hj=>by
        have h1:=gF.free.lt hj
        exact Ex2.at (by omega) (by omega) (by rw [with_c,if_neg (by omega),with_c,if_neg (by omega)]; exact hj)
      refine see_loop H hI hkn hL hcL hfr x ag hag s (n3:=n3) (n5:=n5) (ns:=n5 + 1) (xe:=xe) (xa:=xa) _ _ _ _ _ xb' xm' ⟨⟨List.Pairwise.nil,by simp,by simp⟩,(gF.cons (by omega) _).cons (by omega) _,by omega,by omega,by omega,by omega,by rw [look_c,if_neg (by omega),look_c,if_neg (by omega)]; exact c3,by rw [look_c,if_neg (by omega),look_c,if_pos rfl],by rw [look_c,if_pos rfl]; exact congrArg some (by rw [← se_new,rep_s]; rfl),?_,?_,nilI _,?_,?_,?_,?_,?_,?_,?_,?_,?_,?_⟩ ?_
      all_goals first | exact IntsR.mono (uX _ _) p1 | exact EntsR.mono (uX _ _) p2 | exact PtsR.mono (uX _ _) q2 | exact EntsR.mono (uX _ _) q3 | (simp [updN,updE,envI, *]; done) | skip
      rintro i e9 mu9 n9 l xa' xb'' xm'' D
      obtain ⟨sel,ggD,-,-,-,-,-,b5,-,-,-,q1,-,-,-,-,-,-,e014,-,e12,-⟩:=D
      obtain ⟨al,as_,ak,am⟩:=q1.len
      have w5:=look_with (fz:=fz) b5
      clear c3 w3
      simp only [↓E1,E2,zA,zB,zC,zD,zE,zF,zG,zH,zI,zJ,zK,zL,zM,zN,reduceIte,zO,zP, *]
      try exact h _ _ ggD
  · rintro ⟨_,_,_,h⟩; cases h
end Go.Proofs.Ytnnjlnkoomeadaa.Pv
set_option maxRecDepth 1000000
namespace Go.Proofs.Ytnnjlnkoomeadaa.Ev
open Go.Ev Go.Shelf
theorem mixed18 : Try.prog.follows .mixedOrders = true:=by kernel_rfl
def renIns : Ren:=⟨λk=>if k = 21 then 41 else if k = 27 then 81 else if k = 28 then 82 else if k = 35 then 117 else 147,λk=>if k = 22 then 25 else k,λk=>k⟩
theorem laysIns : Lays2.n21 Try.prog renIns where
  mixed:=mixed18
  f21:=by kernel_rfl
  f27:=by kernel_rfl
  f28:=by kernel_rfl
  f35:=by kernel_rfl
  f39:=by kernel_rfl
  t0:=by kernel_rfl
  a0:=λw=>by kernel_rfl
  z0:=λw=>by kernel_rfl
  v0:=λw=>by kernel_rfl
  t3:=by kernel_rfl
  a3:=λw=>by kernel_rfl
  z3:=λw=>by kernel_rfl
  v3:=λw=>by kernel_rfl
  t4:=by kernel_rfl
  a4:=λw=>by kernel_rfl
  z4:=λw=>by kernel_rfl
  v4:=λw=>by kernel_rfl
  t22:=by kernel_rfl
  a22:=λw=>by kernel_rfl
  z22:=λw=>by kernel_rfl
  v22:=λw=>by kernel_rfl
  i3:=by kernel_rfl
theorem insOk {R : Type} {T : R → Prop} {z : R} (hz : ¬ T z) (val : Nat → Int) : ContractOk T Try.prog val 41 (insK z):=insK_ok (ren:=renIns) rfl hz laysIns (by kernel_rfl)
theorem insC : Pv.InsC Try.prog:=λargs fz mu n k h=>by
  obtain ⟨v,mu',n',h1,h2⟩:=insOk (T:=λp : Prop=>p) (λh=>h) Go.Ev.v0 args fz mu n k h
  exact ⟨v,mu',n',h1,h2⟩
end Go.Proofs.Ytnnjlnkoomeadaa.Ev
set_option maxRecDepth 1000000
namespace Go.Proofs.Ytnnjlnkoomeadaa.Pv
open Go.Ev
def ml : List Nat:=[16,41,59,63,64,65,66,67,69,82,91,93,94,96,100,106,108,109,117,127,128,129,130,131,132,133,134,137,138,142,147,151,154,155,157,159]
theorem k_law18_QuorumSees : FOk Try.prog n_law18_QuorumSees a_law18_QuorumSees:=⟨by kernel_rfl,Try.f4,mutsOf ml false,Try.func4,by kernel_rfl⟩
theorem k_law18_awake : FOk Try.prog n_law18_awake a_law18_awake:=⟨by kernel_rfl,Try.f8,mutsOf ml false,Try.func8,by kernel_rfl⟩
theorem k_quorum_Got : FOk Try.prog n_quorum_Got a_quorum_Got:=⟨by kernel_rfl,Try.f11,mutsOf ml false,Try.func11,by kernel_rfl⟩
theorem k_quorum_Ready : FOk Try.prog n_quorum_Ready a_quorum_Ready:=⟨by kernel_rfl,Try.f14,mutsOf ml false,Try.func14,by kernel_rfl⟩
theorem k_ref16_New : FOk Try.prog n_ref16_New a_ref16_New:=⟨by kernel_rfl,Try.f19,mutsOf ml false,Try.func19,by kernel_rfl⟩
theorem k_quorum_Begin : FOk Try.prog n_quorum_Begin a_quorum_Begin:=⟨by kernel_rfl,Try.f20,mutsOf ml false,Try.func20,by kernel_rfl⟩
theorem k_law0_Num : FOk Try.prog n_law0_Num a_law0_Num:=⟨by kernel_rfl,Try.f23,mutsOf ml false,Try.func23,by kernel_rfl⟩
theorem k_replica_May : FOk Try.prog n_replica_May a_replica_May:=⟨by kernel_rfl,Try.f24,mutsOf ml false,Try.func24,by kernel_rfl⟩
theorem k_replica_Primary : FOk Try.prog n_replica_Primary a_replica_Primary:=⟨by kernel_rfl,Try.f26,mutsOf ml false,Try.func26,by kernel_rfl⟩
theorem k_quorum_Agree : FOk Try.prog n_quorum_Agree a_quorum_Agree:=⟨by kernel_rfl,Try.f33,mutsOf ml false,Try.func33,by kernel_rfl⟩
theorem k_law0_SameInts : FOk Try.prog n_law0_SameInts a_law0_SameInts:=⟨by kernel_rfl,Try.f34,mutsOf ml false,Try.func34,by kernel_rfl⟩
theorem k_quorum_clone : FOk Try.prog n_quorum_clone a_quorum_clone:=⟨by kernel_rfl,Try.f37,mutsOf ml false,Try.func37,by kernel_rfl⟩
theorem k_message_May : FOk Try.prog n_message_May a_message_May:=⟨by kernel_rfl,Try.f38,mutsOf ml false,Try.func38,by kernel_rfl⟩
theorem k_replica_Leads : FOk Try.prog n_replica_Leads a_replica_Leads:=⟨by kernel_rfl,Try.f39,mutsOf ml false,Try.func39,by kernel_rfl⟩
theorem k_slices_BinarySearch_int_int : FOk Try.prog n_slices_BinarySearch_int_int a_slices_BinarySearch_int_int:=⟨by kernel_rfl,Try.f40,mutsOf ml false,Try.func40,by kernel_rfl⟩
theorem k_ref16_Nodes : FOk Try.prog n_ref16_Nodes a_ref16_Nodes:=⟨by kernel_rfl,Try.f47,mutsOf ml false,Try.func47,by kernel_rfl⟩
theorem k_choose_Last : FOk Try.prog n_choose_Last a_choose_Last:=⟨by kernel_rfl,Try.f48,mutsOf ml false,Try.func48,by kernel_rfl⟩
theorem k_message_Clone : FOk Try.prog n_message_Clone a_message_Clone:=⟨by kernel_rfl,Try.f49,mutsOf ml false,Try.func49,by kernel_rfl⟩
theorem k_repair_Nodes : FOk Try.prog n_repair_Nodes a_repair_Nodes:=⟨by kernel_rfl,Try.f50,mutsOf ml false,Try.func50,by kernel_rfl⟩
theorem k_replica_within : FOk Try.prog n_replica_within a_replica_within:=⟨by kernel_rfl,Try.f52,mutsOf ml false,Try.func52,by kernel_rfl⟩
theorem k_message_MayLog : FOk Try.prog n_message_MayLog a_message_MayLog:=⟨by kernel_rfl,Try.f53,mutsOf ml false,Try.func53,by kernel_rfl⟩
theorem k_slices_ContainsFunc_int_int : FOk Try.prog n_slices_ContainsFunc_int_int a_slices_ContainsFunc_int_int:=⟨by kernel_rfl,Try.f54,mutsOf ml false,Try.func54,by kernel_rfl⟩
theorem k_replica_May_1 : FOk Try.prog n_replica_May_1 a_replica_May_1:=⟨by kernel_rfl,Try.f55,mutsOf ml false,Try.func55,by kernel_rfl⟩
theorem k_replica_step_normal : FOk Try.prog n_replica_step_normal a_replica_step_normal:=⟨by kernel_rfl,Try.f68,mutsOf ml false,Try.func68,by kernel_rfl⟩
theorem k_slices_Clone_int_int : FOk Try.prog n_slices_Clone_int_int a_slices_Clone_int_int:=⟨by kernel_rfl,Try.f72,mutsOf ml false,Try.func72,by kernel_rfl⟩
theorem k_message_fields : FOk Try.prog n_message_fields a_message_fields:=⟨by kernel_rfl,Try.f73,mutsOf ml false,Try.func73,by kernel_rfl⟩
theorem k_message_who : FOk Try.prog n_message_who a_message_who:=⟨by kernel_rfl,Try.f74,mutsOf ml false,Try.func74,by kernel_rfl⟩
theorem k_message_number : FOk Try.prog n_message_number a_message_number:=⟨by kernel_rfl,Try.f75,mutsOf ml false,Try.func75,by kernel_rfl⟩
theorem k_message_limits : FOk Try.prog n_message_limits a_message_limits:=⟨by kernel_rfl,Try.f76,mutsOf ml false,Try.func76,by kernel_rfl⟩
theorem k_point_Name : FOk Try.prog n_point_Name a_point_Name:=⟨by kernel_rfl,Try.f77,mutsOf ml false,Try.func77,by kernel_rfl⟩
theorem k_point_Batch : FOk Try.prog n_point_Batch a_point_Batch:=⟨by kernel_rfl,Try.f78,mutsOf ml false,Try.func78,by kernel_rfl⟩
theorem k_cmp_Less_int : FOk Try.prog n_cmp_Less_int a_cmp_Less_int:=⟨by kernel_rfl,Try.f79,mutsOf ml false,Try.func79,by kernel_rfl⟩
theorem k_slices_isNaN_int : FOk Try.prog n_slices_isNaN_int a_slices_isNaN_int:=⟨by kernel_rfl,Try.f80,mutsOf ml false,Try.func80,by kernel_rfl⟩
theorem k_message_CloneLog : FOk Try.prog n_message_CloneLog a_message_CloneLog:=⟨by kernel_rfl,Try.f86,mutsOf ml false,Try.func86,by kernel_rfl⟩
theorem k_message_MayEntry : FOk Try.prog n_message_MayEntry a_message_MayEntry:=⟨by kernel_rfl,Try.f88,mutsOf ml false,Try.func88,by kernel_rfl⟩
theorem k_slices_IndexFunc_int_int : FOk Try.prog n_slices_IndexFunc_int_int a_slices_IndexFunc_int_int:=⟨by kernel_rfl,Try.f89,mutsOf ml false,Try.func89,by kernel_rfl⟩
theorem k_message_CloneEntry : FOk Try.prog n_message_CloneEntry a_message_CloneEntry:=⟨by kernel_rfl,Try.f99,mutsOf ml false,Try.func99,by kernel_rfl⟩
theorem k_replica_step_leads : FOk Try.prog n_replica_step_leads a_replica_step_leads:=⟨by kernel_rfl,Try.f103,mutsOf ml false,Try.func103,by kernel_rfl⟩
theorem k_message_Node : FOk Try.prog n_message_Node a_message_Node:=⟨by kernel_rfl,Try.f111,mutsOf ml false,Try.func111,by kernel_rfl⟩
theorem k_message_Client : FOk Try.prog n_message_Client a_message_Client:=⟨by kernel_rfl,Try.f112,mutsOf ml false,Try.func112,by kernel_rfl⟩
theorem k_slices_ContainsFunc_api_Point_api_Point : FOk Try.prog n_slices_ContainsFunc_api_Point_api_Point a_slices_ContainsFunc_api_Point_api_Point:=⟨by kernel_rfl,Try.f113,mutsOf ml false,Try.func113,by kernel_rfl⟩
theorem k_point_Batch_1 : FOk Try.prog n_point_Batch_1 a_point_Batch_1:=⟨by kernel_rfl,Try.f114,mutsOf ml false,Try.func114,by kernel_rfl⟩
theorem k_point_May : FOk Try.prog n_point_May a_point_May:=⟨by kernel_rfl,Try.f115,mutsOf ml false,Try.func115,by kernel_rfl⟩
theorem k_cmp_isNaN_int : FOk Try.prog n_cmp_isNaN_int a_cmp_isNaN_int:=⟨by kernel_rfl,Try.f116,mutsOf ml false,Try.func116,by kernel_rfl⟩
theorem k_slices_IndexFunc_api_Point_api_Point : FOk Try.prog n_slices_IndexFunc_api_Point_api_Point a_slices_IndexFunc_api_Point_api_Point:=⟨by kernel_rfl,Try.f145,mutsOf ml false,Try.func145,by kernel_rfl⟩
theorem k_point_Small : FOk Try.prog n_point_Small a_point_Small:=⟨by kernel_rfl,Try.f146,mutsOf ml false,Try.func146,by kernel_rfl⟩
theorem fs : Fs Try.prog:=⟨by kernel_rfl,k_law18_QuorumSees,k_law18_awake,k_quorum_Got,k_quorum_Ready,k_ref16_New,k_quorum_Begin,k_law0_Num,k_replica_May,k_replica_Primary,k_quorum_Agree,k_law0_SameInts,k_quorum_clone,k_message_May,k_replica_Leads,k_slices_BinarySearch_int_int,k_ref16_Nodes,k_choose_Last,k_message_Clone,k_repair_Nodes,k_replica_within,k_message_MayLog,k_slices_ContainsFunc_int_int,k_replica_May_1,k_replica_step_normal,k_slices_Clone_int_int,k_message_fields,k_message_who,k_message_number,k_message_limits,k_point_Name,k_point_Batch,k_cmp_Less_int,k_slices_isNaN_int,k_message_CloneLog,k_message_MayEntry,k_slices_IndexFunc_int_int,k_message_CloneEntry,k_replica_step_leads,k_message_Node,k_message_Client,k_slices_ContainsFunc_api_Point_api_Point,k_point_Batch_1,k_point_May,k_cmp_isNaN_int,k_slices_IndexFunc_api_Point_api_Point,k_point_Small⟩
end Go.Proofs.Ytnnjlnkoomeadaa.Pv
namespace Go.Ev
set_option linter.unusedVariables false
structure Imp (w : World) (n : Nat) (fz : Fz) (ρ : Rho) : Prop where
  fr : ∀ id,n ≤ id → fz id = none ∧ ρ id = none
  own : ∀ id cs,fz id = some cs → OwnR v0 ρ w id cs
theorem Imp.nil (w : World) : Imp w 0 (λ_=>none) (λ_=>none):=⟨λ_ _=>⟨rfl,rfl⟩,λ_ _ h=>by cases h⟩
theorem Imp.rel {w : World} {n : Nat} {fz : Fz} {ρ : Rho} (h : Imp w n fz ρ) : Rel v0 ρ fz [] w :=
  ⟨λid cs hh=>.inl (h.own id cs hh),λid cs h=>(by cases h),λid cs h=>(by cases h),λid id' p p' h=>(by cases h)⟩
theorem Imp.free {w : World} {n : Nat} {fz : Fz} {ρ : Rho} (h : Imp w n fz ρ) : Free fz [] n:=λj=>(h.fr _ (by omega)).1
theorem Imp.fresh {w : World} {n n' : Nat} {fz : Fz} {ρ : Rho} (h : Imp w n fz ρ) : FreshN ρ n n':=λid h1 _=>(h.fr id h1).2
structure ImpX (n : Nat) (fz : Fz) (ρ : Rho) (n' : Nat) (fz' : Fz) (ρ' : Rho) : Prop where
  le : n ≤ n'
  fz : Sub fz fz'
  rho : ∀ id p,ρ id = some p → ρ' id = some p
theorem ImpX.refl {n : Nat} {fz : Fz} {ρ : Rho} : ImpX n fz ρ n fz ρ:=⟨Nat.le_refl _,Sub.refl _,λ_ _ h=>h⟩
theorem ImpX.trans {n n' n'' : Nat} {fz fz' fz'' : Fz} {ρ ρ' ρ'' : Rho} (h : ImpX n fz ρ n' fz' ρ') (k : ImpX n' fz' ρ' n'' fz'' ρ'') : ImpX n fz ρ n'' fz'' ρ'' :=
  ⟨Nat.le_trans h.le k.le,h.fz.trans k.fz,λ_ _ g=>k.rho _ _ (h.rho _ _ g)⟩
theorem ImpX.vr {n n' : Nat} {fz fz' : Fz} {ρ ρ' : Rho} (h : ImpX n fz ρ n' fz' ρ') {w : World} {s : SV} {v : Value} (g : VR v0 ρ w s v) : VR v0 ρ' w s v:=g.mono h.rho λ_=>Nat.le_refl _
theorem ImpX.vrs {n n' : Nat} {fz fz' : Fz} {ρ ρ' : Rho} (h : ImpX n fz ρ n' fz' ρ') {w : World} {s : List SV} {v : List Value} (g : All2 (VR v0 ρ w) s v) : All2 (VR v0 ρ' w) s v:=g.imp λ_ _ g=>h.vr g
def Im (w : World) (n : Nat) (fz : Fz) (ρ : Rho) (vs : List Value) (q : Fz → List SV → Prop) : Prop :=
  ∃ n' fz' ρ' c,Imp w n' fz' ρ' ∧ ImpX n fz ρ n' fz' ρ' ∧ All2 (VR v0 ρ' w) c vs ∧ knownAll c = true ∧ q fz' c
theorem Im.seq {w : World} {n : Nat} {fz : Fz} {ρ : Rho} {vs us : List Value} {q r : Fz → List SV → Prop} (hq : ∀ {M M' c}, Sub M M' → q M c → q M' c) (h : Im w n fz ρ vs q) (k : ∀ n fz ρ, Imp w n fz ρ → Im w n fz ρ us r) :
    Im w n fz ρ (vs ++ us) λM c=>∃ a b,c = a ++ b ∧ q M a ∧ r M b:=by
  obtain ⟨n1,fz1,ρ1,a,h1,h2,h3,h4,h5⟩:=h
  obtain ⟨n2,fz2,ρ2,b,k1,k2,k3,k4,k5⟩:=k n1 fz1 ρ1 h1
  exact ⟨n2,fz2,ρ2,a ++ b,k1,h2.trans k2,(k2.vrs h3).append k3,by rw [knownAll_app,h4,k4]; rfl,a,b,rfl,hq k2.fz h5,k5⟩
theorem Im.one {w : World} {n : Nat} {fz : Fz} {ρ : Rho} (h : Imp w n fz ρ) {c : List SV} {vs : List Value} (hv : ∀ ρ,All2 (VR v0 ρ w) c vs) (hk : knownAll c = true) : Im w n fz ρ vs λ_ d=>d = c :=
  ⟨n,fz,ρ,c,h,.refl,hv ρ,hk,rfl⟩
theorem Im.mono {w : World} {n : Nat} {fz : Fz} {ρ : Rho} {vs : List Value} {q r : Fz → List SV → Prop} (h : Im w n fz ρ vs q) (hq : ∀ M c,q M c → r M c) : Im w n fz ρ vs r :=
  let ⟨n',fz',ρ',c,h1,h2,h3,h4,h5⟩:=h; ⟨n',fz',ρ',c,h1,h2,h3,h4,hq _ _ h5⟩
theorem imp_slice {w : World} {s : Nat} (hs : 0 < s) {a : Addr} {len cap : Nat} {C : Nat → List Value} (hcells : ∀ i, i < cap → w.cells? 0 (a.add (i * s)) s = some (C i)) (hle : len ≤ cap) (hcap : cap ≤ maxLen)
    {El : Fz → List SV → Nat → Prop} (hm : ∀ {M M' c i},Sub M M' → El M c i → El M' c i) (hel : ∀ i,i < len → ∀ n fz ρ,Imp w n fz ρ → Im w n fz ρ (C i) λM c=>El M c i)
    {n : Nat} {fz : Fz} {ρ : Rho} (h : Imp w n fz ρ) : Im w n fz ρ [.slice (some a) len cap] λM c=>∃ x css,c = [x] ∧ Sl M s x css ∧ css.length = len ∧ ∀ i (hi : i < css.length),El M css[i] i:=by
  have hlen : ∀ i,i < cap → (C i).length = s:=λi hi=>by
    have:=hcells i hi
    unfold World.cells? at this
    rw [if_pos (Nat.zero_le _)] at this
    have:=Go.mapM_some_length this
    simpa using this
  have hcell : ∀ i j,i < cap → j < s → w.cell? ((a.add (i * s)).add j) = (C i)[j]?:=λi j hi hj=>by
    have:=hcells i hi
    unfold World.cells? at this
    rw [if_pos (Nat.zero_le _)] at this
    exact Go.mapM_some_get this j j (by simp [hj])
  -- the elements
  have key : ∀ m,m ≤ len → ∃ (n' : Nat) (fz' : Fz) (ρ' : Rho) (css : List (List SV)),Imp w n' fz' ρ' ∧ ImpX n fz ρ n' fz' ρ' ∧ css.length = m ∧ (∀ i (hi : i < css.length),All2 (VR v0 ρ' w) css[i] (C i)) ∧ (∀ i (hi : i < css.length),knownAll css[i] = true) ∧ ∀ i (hi : i < css.length),El fz' css[i] i:=by
    intro m
    induction m with
    | zero=>exact λ_=>⟨n,fz,ρ,[],h,.refl,rfl,λi hi=>(by simp at hi),λi hi=>(by simp at hi),λi hi=>(by simp at hi)⟩
    | succ m ih =>
      intro hm1
      obtain ⟨n1,fz1,ρ1,css,g1,g2,g3,g4,g5,g6⟩:=ih (by omega)
      obtain ⟨n2,fz2,ρ2,c,k1,k2,k3,k4,k5⟩:=hel m (by omega) n1 fz1 ρ1 g1
      refine ⟨n2,fz2,ρ2,css ++ [c],k1,g2.trans k2,by simp [g3],λi hi=>?_,λi hi=>?_,λi hi=>?_⟩
      all_goals
        rcases Nat.lt_or_ge i css.length with h1 | h1
        · rw [List.getElem_append_left h1]
          first | exact k2.vrs (g4 i h1) | exact g5 i h1 | exact hm k2.fz (g6 i h1)
        · have : i = m:=by simp at hi; omega
          subst this
          rw [List.getElem_append_right h1]
          simp only [g3,Nat.sub_self,List.getElem_cons_zero]
          first | exact k3 | exact k4 | exact k5
  obtain ⟨n1,fz1,ρ1,css,g1,g2,g3,g4,g5,g6⟩:=key len (Nat.le_refl _)
  rcases Nat.eq_zero_or_pos len with h0 | h0
  · subst h0
    exact ⟨n1,fz1,ρ1,[.zsl],g1,g2,⟨⟨a,cap,rfl⟩,trivial⟩,rfl,.zsl,css,rfl,.inl ⟨.inr (.inr rfl),List.length_eq_zero_iff.1 g3⟩,g3,g6⟩
  · have hls : ∀ e ∈ css, e.length = s ∧ knownAll e = true := fun e he => by
      obtain ⟨i,hi,rfl⟩:=List.getElem_of_mem he
      exact ⟨by rw [(g4 i hi).length,hlen i (by omega)],g5 i hi⟩
    have hfl : css.flatten.length = len * s:=by rw [flat_length λe he=>(hls e he).1,g3]
    -- the block
    obtain ⟨B,ty,fr,hB,hsp⟩ : ∃ B ty fr,w.heap[a.block]? = some (.cells B ty fr) ∧ a.spot = none:=by
      have:=hcell 0 0 (by omega) hs
      rw [List.getElem?_eq_getElem (by rw [hlen 0 (by omega)]; exact hs),Nat.zero_mul] at this
      have ha : (a.add 0).add 0 = a:=by simp [Addr.add]
      rw [ha] at this
      unfold World.cell? at this
      split at this
      · rename_i c t f hc
        refine ⟨c,t,f,hc,?_⟩
        split at this
        · cases this
        · rename_i hns; simpa using hns
      · cases this
    have hadd : ∀ k,a.add k = ⟨a.block,a.off + k,none⟩:=λk=>by
      cases a with | mk b o sp =>
      simp only at hsp
      subst hsp
      simp only [Addr.add]
      split
      · rename_i h; subst h; rfl
      · rfl
    have hB2 : ∀ i j,i < cap → j < s → B[a.off + (i * s + j)]? = (C i)[j]?:=λi j hi hj=>by
      rw [← hcell i j hi hj,hadd]
      have : (⟨a.block,a.off + i * s,none⟩ : Addr).add j = ⟨a.block,a.off + i * s + j,none⟩:=by
        simp only [Addr.add]
        split
        · rename_i h; subst h; rfl
        · rfl
      rw [this,Nat.add_assoc]
      simp only [World.cell?,hB]
      rfl
    have hsz : a.off + cap * s ≤ B.size:=by
      have h1:=hB2 (cap - 1) (s - 1) (by omega) (by omega)
      rw [List.getElem?_eq_getElem (by rw [hlen _ (by omega)]; omega)] at h1
      have h2:=(Array.getElem?_eq_some_iff.1 h1).1
      have h3 : (cap - 1) * s + (s - 1) + 1 = cap * s:=by
        obtain ⟨c,rfl⟩ : ∃ c,cap = c + 1:=⟨cap - 1,by omega⟩
        rw [Nat.add_sub_cancel,Nat.add_mul]; omega
      omega
    have hdiv : ∀ k,k < len * s → k / s < len ∧ k % s < s ∧ k = k / s * s + k % s:=λk hk=>⟨Nat.div_lt_of_lt_mul (by rw [Nat.mul_comm]; exact hk),Nat.mod_lt _ hs,by rw [Nat.mul_comm]; exact (Nat.div_add_mod k s).symm⟩
    let ρ2 : Rho:=upd ρ1 n1 (a.block,a.off)
    let fz2 : Fz:=λid=>if id = n1 then some css.flatten else fz1 id
    have hup : ∀ id p,ρ1 id = some p → ρ2 id = some p:=λid p hp=>upd_old (p:=(a.block,a.off)) (g1.fr n1 (Nat.le_refl _)).2 id p hp
    have hx : ImpX n1 fz1 ρ1 (n1 + 1) fz2 ρ2:=⟨by omega,λid B hb=>by
      show (if id = n1 then _ else _) = _
      rw [if_neg (λe=>by subst e; rw [(g1.fr id (Nat.le_refl _)).1] at hb; cases hb)]; exact hb,hup⟩
    refine ⟨n1 + 1,fz2,ρ2,[.osl n1 0 len len s],⟨λid hi=>⟨?_,?_⟩,λid cs hcs=>?_⟩,g2.trans hx,⟨⟨(a.block,a.off),cap,upd_same _ _ _,?_,Nat.le_refl _,hle,?_,?_⟩,trivial⟩,rfl,_,css,rfl,.inr ⟨n1,0,len,css.flatten,by rw [g3],by omega,?_,mkd_known (knownAll_flat hls),by rw [hfl,g3]; omega,?_,hls⟩,g3,λi hi=>hm hx.fz (g6 i hi)⟩
    · show (if id = n1 then _ else _) = none
      rw [if_neg (by omega)]; exact (g1.fr id (by omega)).1
    · show upd ρ1 n1 _ id = none
      unfold upd; rw [if_neg (by omega)]; exact (g1.fr id (by omega)).2
    · have hcs' : (if id = n1 then some css.flatten else fz1 id) = some cs:=hcs
      split at hcs'
      · rename_i e
        subst e
        cases hcs'
        refine ⟨(a.block,a.off),B,ty,fr,upd_same _ _ _,hB,?_,λk sv hk=>?_⟩
        · show a.off + css.flatten.length ≤ B.size
          have : len * s ≤ cap * s:=Nat.mul_le_mul_right _ hle
          omega
        · have hkl : k < len * s:=by rw [← hfl]; exact (List.getElem?_eq_some_iff.1 hk).1
          obtain ⟨d1,d2,d3⟩:=hdiv k hkl
          have hci : k / s < css.length:=by omega
          have h1:=flat_sub (es:=css) (i:=k / s) (k:=k % s) (m:=1) (λe he=>(hls e he).1) hci (by omega)
          rw [← d3] at h1
          have h2 : css.flatten[k]? = (css[k / s])[k % s]?:=by
            have:=congrArg List.head? h1
            rwa [List.head?_take,List.head?_take,if_neg (by omega),if_neg (by omega),List.head?_drop,List.head?_drop] at this
          rw [h2] at hk
          obtain ⟨v,hv,hr⟩:=(g4 _ hci).get hk
          refine ⟨v,?_,VR.mono hr hup λ_=>Nat.le_refl _⟩
          rw [show (a.block,a.off).2 + k = a.off + (k / s * s + k % s) by show a.off + k = _; omega,hB2 _ _ (by omega) d2]; exact hv
      · exact OwnR.mono (g1.own id cs hcs') hup (λ_=>Nat.le_refl _) λ_ _=>rfl
    · show Value.slice (some a) len cap = .slice (some ⟨a.block,a.off + 0,none⟩) len cap
      rw [← hadd 0]; rfl
    · show a.off + 0 + cap * s ≤ bsize w a.block
      unfold bsize; rw [hB]; show _ ≤ B.size; omega
    · unfold maxLen at hcap; omega
    · show (if n1 = n1 then some css.flatten else fz1 n1) = some _
      rw [if_pos rfl]
    · rw [List.drop_zero,List.take_of_length_le]
      rw [hfl,g3]; omega
end Go.Ev
namespace Go.Ev
set_option linter.unusedVariables false
section
variable {H : Type} {enc : TypeId × Value → H} {P : Program} {w : World}
def ImpT {H : Type} (enc : TypeId × Value → H) (P : Program) (w : World) (T : TypeId) (q : Fz → List SV → Prop) : Prop :=
  ∀ fuel cs d ps,DataW.trod enc P w 0 (λ_=>true) true fuel T cs = some (d,ps) → (∀ k ∈ d.weights P T,k ≤ reachBytes) → ∀ n fz ρ,Imp w n fz ρ → Im w n fz ρ cs q
def Mono (q : Fz → List SV → Prop) : Prop:=∀ M M' c,Sub M M' → q M c → q M' c
theorem ImpT.mono {T : TypeId} {q r : Fz → List SV → Prop} (h : ImpT enc P w T q) (hq : ∀ M c,q M c → r M c) : ImpT enc P w T r:=λfuel cs d ps h1 h2 n fz ρ h3=>(h fuel cs d ps h1 h2 n fz ρ h3).mono hq
theorem impT_int {T : TypeId} (ht : P.underlying T = some (.int .i64)) : ImpT enc P w T λ_ c=>∃ i : Int,(Lit.int .i64 i).wf = true ∧ c = [.int .i64 i]:=λfuel cs d ps h _ n fz ρ hi=>by
  obtain ⟨i,rfl,_,hw⟩:=DataW.trod_int ht h
  exact (Im.one hi (c:=[.int .i64 i]) (vs:=[.int .i64 i]) (λ_=>⟨rfl,trivial⟩) rfl).mono λ_ _ h=>⟨i,hw,h⟩
theorem weights_each {ts : List TypeId} {ds : List (DataW H)} {i : Nat} {t : TypeId} {d : DataW H} (ht : ts[i]? = some t) (hd : ds[i]? = some d) : ∀ k ∈ d.weights P t,k ∈ DataW.weightsEach P ts ds:=λk hk=>DataW.weights_mem_each ht hd k hk
theorem weights_all {e : TypeId} : ∀ {ds : List (DataW H)} {d : DataW H},d ∈ ds → ∀ k ∈ d.weights P e,k ∈ DataW.weightsAll P e ds
  | [],_,h,_,_=>by cases h
  | x :: ds,d,h,k,hk=>by
    simp only [DataW.weightsAll,List.mem_append]
    rcases List.mem_cons.1 h with rfl | h
    · exact .inl hk
    · exact .inr (weights_all h k hk)
theorem impT_slice {T e : TypeId} (ht : P.underlying T = some (.slice e)) {s b : Nat} (hs : P.cellsOf e = s) (hs0 : 0 < s) (hb : P.bytesOf e = b) {q : Fz → List SV → Prop} (hm : Mono q) (hi : ImpT enc P w e q) :
    ImpT enc P w T λM c=>∃ x css,c = [x] ∧ Sl M s x css ∧ css.length * b ≤ reachBytes ∧ ∀ d ∈ css,q M d:=λfuel cs d ps h hwt n fz ρ himp=>by
  rcases Go.Deep.open_slice ht h with ⟨rfl,_⟩ | ⟨a,len,cap,m,k,D,Pl,rfl,_,hle,hcap,hmm,hx,hel⟩
  · exact (Im.one himp (c:=[.nsl]) (vs:=[.slice none 0 0]) (λ_=>⟨rfl,trivial⟩) rfl).mono λM c hc=>⟨.nsl,[],hc,.inl ⟨.inl rfl,rfl⟩,by simp,λd hd=>(by cases hd)⟩
  · have hmm : m = cap:=hmm
    rw [hmm] at hx hel
    have hd : d = .slice ((List.range len).map D) ((List.range (cap - len)).map λj=>D (len + j)):=congrArg Prod.fst hx
    subst hd
    have hel' : ∀ i,i < cap → ∃ cs',w.cells? 0 (a.add (i * s)) s = some cs' ∧ DataW.trod enc P w 0 (λ_=>true) true k e cs' = some (D i,Pl i):=λi hi=>by rw [← hs]; exact hel i hi
    have hC : ∃ C : Nat → List Value,∀ i,i < cap → w.cells? 0 (a.add (i * s)) s = some (C i) ∧ DataW.trod enc P w 0 (λ_=>true) true k e (C i) = some (D i,Pl i):=by
      refine ⟨λi=>((w.cells? 0 (a.add (i * s)) s).getD []),λi hi=>?_⟩
      obtain ⟨cs',h1,h2⟩:=hel' i hi
      simp only [h1,Option.getD_some]; exact ⟨trivial,h2⟩
    obtain ⟨C,hC⟩:=hC
    have hw1 : ∀ i,i < len → ∀ k ∈ (D i).weights P e,k ≤ reachBytes:=λi hi k hk=>hwt k (by
      simp only [DataW.weights,ht,List.mem_cons,List.mem_append]
      exact .inr (.inl (weights_all (List.mem_map.2 ⟨i,by simpa using hi,rfl⟩) k hk)))
    have hw2 : len * b ≤ reachBytes:=by
      have:=hwt _ (by simp only [DataW.weights,ht,List.mem_cons]; exact .inl rfl)
      simp only [List.length_map,List.length_range,hb] at this
      have h3 : len * b ≤ (len + (cap - len)) * b:=Nat.mul_le_mul_right _ (by omega)
      omega
    refine (imp_slice hs0 (C:=C) (λi hi=>(hC i hi).1) hle hcap (El:=λM c _=>q M c) (λhs hq=>hm _ _ _ hs hq) (λi hi' n fz ρ h=>hi k (C i) _ _ (hC i (by omega)).2 (hw1 i hi') n fz ρ h) himp).mono ?_
    rintro M c ⟨x,css,rfl,h1,h2,h3⟩
    refine ⟨x,css,rfl,h1,by rw [h2]; exact hw2,λd hd=>?_⟩
    obtain ⟨i,hi,rfl⟩:=List.getElem_of_mem hd
    exact h3 i hi
end
end Go.Ev
namespace Go.Proofs.Ytnnjlnkoomeadaa.Pv
open Go.Ev Go.Ev.Rp
set_option maxRecDepth 100000
set_option linter.unusedVariables false
def qI : Fz → List SV → Prop:=λ_ c=>∃ i : Int,(Lit.int .i64 i).wf = true ∧ c = [I i]
structure LgW (l : Lg) : Prop where
  snap : l.snap.l ≤ reachBytes
  ents : l.ents.length * 56 ≤ reachBytes
  bat : ∀ e ∈ l.ents,e.batch.length * 32 ≤ reachBytes
structure RepW (r : Rep) : Prop where
  log : LgW r.log
  acks : r.acks.length * 8 ≤ reachBytes
  starts : r.starts.length * 8 ≤ reachBytes
  dos : r.dos.length * 72 ≤ reachBytes
  dlog : ∀ d ∈ r.dos,LgW d.log
def qIs : Fz → List SV → Prop:=λM c=>∃ x l,c = [x] ∧ IntsR M x l ∧ l.length * 8 ≤ reachBytes
theorem qI_m : Mono qI:=λ_ _ _ _ h=>h
section
variable {H : Type} {enc : TypeId × Value → H} {w : World}
theorem im_int : ImpT enc Try.prog w 3 qI:=impT_int Try.underlying3
theorem im_ints : ImpT enc Try.prog w 25 qIs:=by
  refine (impT_slice Try.underlying25 (s:=1) (b:=8) (by decide +kernel) (by decide) (by decide +kernel) qI_m im_int).mono ?_
  rintro M c ⟨x,css,rfl,h1,h2,h3⟩
  have hl : ∃ l : List Int,css = l.map intC:=by
    clear h1 h2
    induction css with
    | nil=>exact ⟨[],rfl⟩
    | cons d css ih =>
      obtain ⟨l,hl⟩:=ih λd hd=>h3 d (by simp [hd])
      obtain ⟨i,-,rfl⟩:=h3 d (by simp)
      exact ⟨i :: l,by rw [hl]; rfl⟩
  obtain ⟨l,rfl⟩:=hl
  exact ⟨x,l,rfl,h1,by simpa using h2⟩
end
end Go.Proofs.Ytnnjlnkoomeadaa.Pv
namespace Go.Ev
set_option linter.unusedVariables false
theorem calls_of_CP {P : Program} {f : Nat} {avs : List AV} {fz : Fz} {n : Nat} {ρ : Rho} {w : World} {xs : List Value} (h : CP P f avs fz [] n fun v _ _ => v = .one (.bool true)) (hi : Imp w n fz ρ) (hx : All2 (AVR v0 ρ w) avs xs) :
    Calls P f xs.toArray w λe w'=>e = .returned (.bool true) ∧ Fr ρ [] w w':=by
  obtain ⟨v,mu',n',rfl,hb,hle,hc⟩:=h
  refine (hc ρ w xs hi.rel hx hi.fresh).mono λe w' ⟨x,he,ρ',h1,h2,h3,h4,_⟩=>⟨?_,h4⟩
  have : x = .bool true:=h3
  rw [he,this]
section
open Go.ChangeShapes Go.WideShapes Go.RowKit
variable {H : Type} {enc : TypeId × Value → H} {P : Program}
theorem trodAll_stays (hl : laidOutB P = true) {W W' : World} (hb : Below W.heap.size W W') {sp : Nat → Bool} : ∀ {ts : List TypeId} {vs : List Value} {ds : List (DataW H)} {ps : List MemPlace}, (∀ t ∈ ts, P.readableRec t = true ∧ t < P.types.size) →
    DataW.TrodAll enc P W 0 (λ_=>true) true ts vs ds ps → (∀ x ∈ ps,x.block < W.heap.size) → (∀ p ∈ ps,sp p.block = true) → DataW.TrodAll enc P W' 0 sp true ts vs ds ps
  | [],[],[],_,_,h,_,_=>h
  | t :: ts, v :: vs, d :: ds, ps, ht, ⟨p, q, h1, h2, he⟩, hlt, hs => ⟨p, q, WideElems.Trod_stays hl (ht t (by simp)).1 (ht t (by simp)).2 h1 (fun x hx => hb.same (hlt x (by rw [he]; simp [hx]))) (fun x hx => hs x (by rw [he]; simp [hx])),
      trodAll_stays hl hb (λt h=>ht t (by simp [h])) h2 (λx hx=>hlt x (by rw [he]; simp [hx])) (λx hx=>hs x (by rw [he]; simp [hx])),he⟩
  | [],_ :: _,_,_,_,h,_,_=>h.elim
  | [],[],_ :: _,_,_,h,_,_=>h.elim
  | _ :: _,[],_,_,_,h,_,_=>h.elim
  | _ :: _,_ :: _,[],_,_,h,_,_=>h.elim
theorem Fr.below {ρ : Rho} {w w' : World} (h : Fr ρ [] w w') : Below w.heap.size w w':=⟨h.os,h.tape,h.output,h.size,λk hk=>h.keep k hk λid p hl=>by cases hl⟩
theorem post_law {f : Func} {s : ChangeSpec} {apart fresh handsOn again : Bool} {W W' : World} {args : Array Value} {ds gs : List (DataW H)} {before : List MemPlace} {ρ : Rho} {tb : TypeId} (hl : laidOutB P = true) (hts : ∀ t ∈ f.params.toList, P.readableRec t = true ∧ t < P.types.size)
    (hv : s.vars = []) (hr : f.resultTypes = #[tb]) (htb : P.underlying tb = some .bool) (hs : (s.fn H (ds ++ gs)).results = [.lit (.bool true)]) (hs2 : (s.fn H (ds ++ gs)).args = ds) (hs3 : (s.fn H (ds ++ gs)).vars = [])
    (hW : DataW.Whole enc P f.params.toList s.vars apart W args.toList ds gs before) (hf : Fr ρ [] W W') : s.post enc P f apart fresh handsOn again W args (.bool true) W':=by
  have hlt:=hW.lt
  have hW':=hW
  obtain ⟨p,q,hA,hV,rfl,hfz,hnd⟩:=hW
  have hq : q = []:=by
    rw [hv] at hV
    cases gs with
    | nil=>exact hV
    | cons g gs=>exact hV.elim
  subst hq
  have hg:=hf.grown
  refine post_of_grown (pa:=p) (pv:=[]) hW' (λb sp hd=>?_) (λsp hsp=>?_) (λsp hsp=>?_) rfl (hg.frame _) hg.2.1 ?_
  · rw [hs,hr]; exact trodAll_cons_mk (shut_bool htb _) trodAll_mk0
  · rw [hs2]; exact trodAll_stays hl (Fr.below hf) hts hA (λx hx=>hlt x (by simp [hx])) (λx hx=>hsp x (by simp [hx]))
  · rw [hs3,hv]; exact rfl
  · exact ok_one hr rfl (okWide_bool_mk htb _)
end
end Go.Ev
