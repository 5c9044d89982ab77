/-
  ReplicaForms: part 6 of what the proof is made of.
-/
import Derived.Test.YtnnjlnkoomeadaaReplicaFormsP5
set_option linter.unusedVariables false
set_option linter.unusedSimpArgs false
open Int renaming reduceEq → zA,reduceNe → zB,reduceLT → zC,reduceLE → zD,reduceNeg → zE,reduceAdd → zF,reduceSub → zG,reduceToNat → zH
open Nat renaming reduceEqDiff → zI,reduceAdd → zJ,reduceMul → zK,reduceSub → zL,reduceLeDiff → zM,reduceBEq → zN,reduceLT → zO,reduceBneDiff → zP
namespace Go.Proofs.Ytnnjlnkoomeadaa.Pv
open Go.Ev Go.Ev.Rp
set_option maxRecDepth 100000
set_option maxHeartbeats 4000000
set_option linter.unusedSimpArgs false
set_option linter.unusedVariables false
set_option linter.unusedSectionVars false
theorem LentE.rs {lo : Nat} {M : Fz} {id : Nat} {l : List Ent} (h : LentE lo M id l) : EntsR M (.osl id 0 l.length (l.length + 1) 5) l:=by
  obtain ⟨cs,h1,h2⟩:=h
  have hl : cs.length = l.length + 1:=by simpa using h2.length
  rcases h1 with ⟨h | h,_⟩ | ⟨id',e,h3,h4,h5⟩
  · cases h
  · cases h
  · injection e with e1 e2 e3 e4 e5
    subst e1
    have htl : (cs.take l.length).length = l.length:=by simp; omega
    have hu : ∀ e ∈ cs.take l.length,e.length = 5 ∧ knownAll e = true:=λe he=>h5 e (List.mem_of_mem_take he)
    have hfl:=flat_length (s:=5) (es:=cs.take l.length) λe he=>(hu e he).1
    have hsplit : cs.flatten = (cs.take l.length).flatten ++ (cs.drop l.length).flatten:=by rw [← List.flatten_append,List.take_append_drop]
    rw [htl] at hfl
    have hs : Sl M 5 (.osl id 0 (cs.take l.length).length (l.length + 1) 5) (cs.take l.length):=by
      refine .inr ⟨id,0,l.length + 1,cs.flatten,rfl,by omega,From.sub _ _ h3,h4,?_,?_,hu⟩
      · rw [flat_length λe he=>(h5 e he).1,htl,hl]; omega
      · rw [List.drop_zero,hsplit,htl,List.take_left' hfl]
    rw [htl] at hs
    refine ⟨cs.take l.length,hs,All2.of_get (by omega) λi a b ha hb=>?_⟩
    obtain ⟨hi,rfl⟩:=List.getElem?_eq_some_iff.1 ha
    obtain ⟨hi2,rfl⟩:=List.getElem?_eq_some_iff.1 hb
    have h3:=h2.at (i:=i) (by omega) (by simp; omega)
    rw [List.getElem_append_left (by simpa using hi2),List.getElem_map] at h3
    obtain ⟨idp,h6,h7⟩:=h3
    rw [List.getElem_take]
    exact ⟨_,h6,PtsR.mono (Ex.sub.trans From.sub) (LentP.sl h7)⟩
theorem LentR.rs {M : Fz} {r : Rep} {ide ida ids : Nat} {xd : SV} (h : LentR M r ide ida ids xd) : RepS M r (.osl ide 0 r.log.ents.length (r.log.ents.length + 1) 5) (.osl ida 0 r.acks.length (r.acks.length + 2) 1) (.osl ids 0 r.starts.length (r.starts.length + 2) 1) xd:=by
  obtain ⟨⟨lo,h1⟩,h2,h3,lo',cs,h4,h5⟩:=h
  refine ⟨h1.rs,h2.sl,h3.sl,cs,Sl.mono h4.to From.sub,h5.imp λc d g=>?_⟩
  obtain ⟨id,lo2,e1,e2⟩:=g
  exact ⟨_,e1,EntsR.mono (Ex.sub.trans From.sub) e2.rs⟩
theorem LndSz.rs {r : Rep} (h : LndSz r) : RepSz r:=⟨⟨by have:=h.log.ents; omega,λe he=>by have:=h.log.bat e he; omega⟩,by have:=h.acks; omega,by have:=h.starts; omega,h.dos,λd hd=>⟨by have:=(h.dlog d hd).ents; omega,λe he=>by have:=(h.dlog d hd).bat e he; omega⟩⟩
variable {P : Program} (H : Fs P)
include H
end Go.Proofs.Ytnnjlnkoomeadaa.Pv
namespace Go.Proofs.Ytnnjlnkoomeadaa.Pv
open Go.Ev Go.Ev.Rp
set_option maxRecDepth 100000
set_option maxHeartbeats 4000000
set_option linter.unusedSimpArgs false
set_option linter.unusedVariables false
set_option linter.unusedSectionVars false
variable {P : Program} (H : Fs P)
include H
end Go.Proofs.Ytnnjlnkoomeadaa.Pv
namespace Go.Proofs.Ytnnjlnkoomeadaa.Pv
open Go.Ev Go.Ev.Rp
set_option maxRecDepth 100000
set_option maxHeartbeats 4000000
set_option linter.unusedSimpArgs false
set_option linter.unusedVariables false
set_option linter.unusedSectionVars false
theorem nilE (M : Fz) : EntsR M .nsl []:=⟨[],.inl ⟨.inl rfl,rfl⟩,trivial⟩
theorem nilI (M : Fz) : IntsR M .nsl []:=.inl ⟨.inl rfl,rfl⟩
theorem nilD (M : Fz) : DvsR M .nsl []:=⟨[],.inl ⟨.inl rfl,rfl⟩,trivial⟩
variable {P : Program} (H : Fs P)
include H
theorem law0_Num (x : Int) : Ctr P n_law0_Num [.one (I x)] (λ_=>True) (λ_ _ _ v=>v = .one (I x)):=Ctr.of H.mx H.law0_Num (λ_=>0) λfz mu n k hfr _ hk=>by
  rw [i_law0_Num,dc_at b_law0_Num.eq_1]
  simp only [↓E1,E2,zA,zB,zC,zD,zE,zF,zG,zH,zI,zJ,zK,zL,zM,zN,reduceIte,zO,zP]
  try exact hk _ _ _ (Gr.refl hfr) rfl
end Go.Proofs.Ytnnjlnkoomeadaa.Pv
namespace Go.Ev
set_option linter.unusedVariables false
theorem CallS.forget {P : Program} {f : Nat} {args : List AV} {fz : Fz} {mu : St} {n : Nat} {v : AV} {mu' : St} {n' : Nat} (h : CallS P f args fz mu n v mu' n') {mu2 : St} (hs : ∀ id c,look mu2 id = some c → look mu' id = some c) : CallS P f args fz mu n v mu2 n':=by
  obtain ⟨h1,h2,h3⟩:=h
  have hi : ∀ id,(look mu2 id).isSome = true → (look mu' id).isSome = true:=λid hid=>by
    obtain ⟨c,hc⟩:=Option.isSome_iff_exists.1 hid
    rw [hs id c hc]; rfl
  refine ⟨h1,h2,λρ w xs hr hx hf=>(h3 ρ w xs hr hx hf).mono λe w' ⟨x,he,ρ',p1,p2,p3,p4,p5,p6⟩=>⟨x,he,ρ',p1,⟨p2.rf,λid cs h=>p2.rm id cs (hs id cs h),λid cs h=>p2.dm id cs (hs id cs h),λid id' p p' a b=>p2.dj id id' p p' (hi id a) (b.imp (hi id') λz=>z)⟩,p3,p4,λid p hl hp=>p5 id p (hi id hl) hp,λid hid=>p6 id (hi id hid)⟩⟩
section
variable {P : Program} {f : Nat} {args : List AV} {pre : Fz → Prop} {Q : AV → Prop} {fz : Fz} {mu : St} {n : Nat} {k : KT Prop}
theorem Ctr.q1 (h : Ctr P f args pre λ_ _ _ v=>Q v) {w : WK k} (hf : Free fz mu n) (hp : pre (with' mu fz)) (hk : ∀ v n',n ≤ n' → Q v → k v [] n') : CPr P f args (with' mu fz) [] n k w:=by
  obtain ⟨v,new,n',hQ,hc⟩:=h (with' mu fz) [] n (λv _ _=>Q v) (λj=>hf j) hp (λv _ _ _ hq=>hq)
  exact ⟨v,[],n',hk v n' hc.2.1 hQ,hc.forget λid c h=>by cases h⟩
theorem Ctr.q0 (h : Ctr P f args pre λ_ _ _ v=>Q v) {w : WK k} (hf : Free fz mu n) (hp : pre (with' mu fz)) (hk : ∀ v n',n ≤ n' → Q v → k v mu n') : CPr P f args fz mu n k w:=by
  obtain ⟨v,new,n',hQ,hc⟩:=h (with' mu fz) [] n (λv _ _=>Q v) (λj=>hf j) hp (λv _ _ _ hq=>hq)
  exact ⟨v,[],n',hk v n' hc.2.1 hQ,hc.forget λid c h=>by cases h⟩
end
theorem Free.le {fz : Fz} {mu : St} {n n' : Nat} (h : Free fz mu n) (hn : n ≤ n') : Free fz mu n':=λj=>by
  have:=h.none (show n ≤ n' + j by omega)
  exact this
theorem Gr.le2 {lo : Nat} {fz : Fz} {mu mu' : St} {n n' n2 : Nat} (h : Gr lo fz mu mu' n n') (hn : n' ≤ n2) : Gr lo fz mu mu' n n2:=⟨Nat.le_trans h.le hn,h.ext,h.own,h.free.le hn⟩
end Go.Ev
namespace Go.Proofs.Ytnnjlnkoomeadaa.Pv
open Go.Ev Go.Ev.Rp
set_option maxRecDepth 100000
set_option maxHeartbeats 4000000
set_option linter.unusedSimpArgs false
set_option linter.unusedVariables false
set_option linter.unusedSectionVars false
structure NewV (me nodes : Int) (r : Rep) (e : Int) : Prop where
  ents : r.log.ents = []
  starts : r.starts = []
  dos : r.dos = []
  acks : r.acks.length ≤ 7
theorem newV_new {me nodes : Int} (h : meB me nodes = true) : NewV me nodes (newR me nodes) 0:=by
  refine ⟨rfl,rfl,rfl,?_⟩
  have hn : nodesB nodes = true:=by unfold meB at h; simp at h; exact h.1.1
  rcases nodes_cases hn with rfl | rfl | rfl | rfl <;> simp [newR]
theorem newV_zero (me nodes : Int) : NewV me nodes zeroR 1700:=⟨rfl,rfl,rfl,by decide⟩
theorem NewV.rs {me nodes e : Int} {r : Rep} (h : NewV me nodes r e) {M : Fz} {xa : SV} (hx : IntsR M xa r.acks) : RepS M r .nsl xa .nsl .nsl:=⟨by rw [h.ents]; exact nilE _,hx,by rw [h.starts]; exact nilI _,by rw [h.dos]; exact nilD _⟩
theorem NewV.sz {me nodes e : Int} {r : Rep} (h : NewV me nodes r e) : RepSz r:=⟨⟨by rw [h.ents]; simp,by rw [h.ents]; simp⟩,by have:=h.acks; omega,by rw [h.starts]; simp,by rw [h.dos]; simp,by rw [h.dos]; simp⟩
def NewC (P : Program) (f g : Nat) (me nodes : Int) : Prop:=∃ r e,NewV me nodes r e ∧
  Ctr P f [.one (I me),.one (I nodes)] (λ_=>True) (λn _ M v=>∃ xa,v = .tp [.ag (repC r .nsl xa .nsl .nsl),.one (I e)] ∧ IntsX (From n M) xa r.acks) ∧
  Ctr P g [.one (I me),.one (I nodes)] (λ_=>True) (λn _ M v=>∃ xa,v = .tp [.ag (repC r .nsl xa .nsl .nsl),.one (I e)] ∧ IntsX (From n M) xa r.acks)
variable {P : Program} (H : Fs P)
include H
theorem new_both (me nodes : Int) : NewC P n_replica_New n_ref16_New me nodes:=by
  cases hm : meB me nodes with
  | true=>exact ⟨_,_,newV_new hm,replica_New H me nodes hm,ref16_New H me nodes hm⟩
  | false=>exact ⟨_,_,newV_zero me nodes,(replica_New_bad H me nodes hm).mono λ_ _ _ v e=>⟨.nsl,e,.inl ⟨.inl rfl,rfl⟩⟩,(ref16_New_bad H me nodes hm).mono λ_ _ _ v e=>⟨.nsl,e,.inl ⟨.inl rfl,rfl⟩⟩⟩
theorem law17_ReplicaForms (aw : BoolC P n_law17_awake [] (fun _ => True) true) (hS : SortC P) (me nodes : Int) (r : Rep) (xe xa xs xd : SV) (acks : List Int) (x : SV) (lst : Int) (hz : LndSz r) (hl : acks.length ≤ 17592186044413) :
    BoolC P n_law17_ReplicaForms [.one (I me),.one (I nodes),.ag (repC r xe xa xs xd),.one x,.one (I lst)] (λM=>RepS M r xe xa xs xd ∧ IntsR M x acks) true:=boolC H.mx H.law17_ReplicaForms 0 λfz mu n k hfr g0 s h=>by
  obtain ⟨s1,s2⟩:=s
  obtain ⟨-,-,xek,xem⟩:=s1.1.len
  obtain ⟨-,-,xak,xam⟩:=s1.2.1.len
  obtain ⟨-,-,xsk,xsm⟩:=s1.2.2.1.len
  obtain ⟨-,-,xdk,xdm⟩:=s1.2.2.2.len
  obtain ⟨xl,xs',xk,xm⟩:=s2.len
  obtain ⟨q,ec,hq,hN1,hN2⟩:=new_both H me nodes
  have hLR:=law0_LendReplica H r xe xa xs xd hz
  have hLI:=law0_LendInts H x acks hl
  rw [i_law17_ReplicaForms,dc_at b_law17_ReplicaForms.eq_1]
  unfold repC at *
  simp only [↓E1,E2,zA,zB,zC,zD,zE,zF,zG,zH,zI,zJ,zK,zL,zM,zN,reduceIte,zO,zP, *]
  refine CPr.abs1 hfr λm0 n0 g0 l0 b0=>?_
  refine hN1.c1 g0.free trivial ?_
  rintro v m1 n1 g1 ⟨ya,rfl,hya⟩
  obtain ⟨-,-,yak,yam⟩:=SlX.len hya
  simp only [↓E1,E2,zA,zB,zC,zD,zE,zF,zG,zH,zI,zJ,zK,zL,zM,zN,reduceIte,zO,zP, *,with_putI,look_putS,putS_putS,Option.isSome_some,Option.map_some]
  refine CPr.abs1 g1.free λm2 n2 g2 l2 b1=>?_
  have l1:=g1.le
  have gg:=g0.trans ((g1.trans (g2.weaken l1)).weaken (by omega))
  replace hya : IntsR (with' m2 fz) ya q.acks:=IntsR.mono ((From.sub).trans (g2.sub g1.free (Nat.le_refl _))) (IntsX.to hya)
  replace b0:=(g2.own n (by omega)).trans ((g1.own n (by omega)).trans b0)
  refine hN2.c1 gg.free trivial ?_
  rintro v m3 n3 g3 ⟨yb,rfl,hyb⟩
  obtain ⟨-,-,ybk,ybm⟩:=SlX.len hyb
  have l3:=g3.le
  replace b0:=(g3.own n (by omega)).trans b0
  have w0:=look_with (fz:=fz) b0
  have hne1 : (n3 = n) = False:=by simp; omega
  clear g0 g1 g2 hN1 hN2
  simp only [↓E1,E2,zA,zB,zC,zD,zE,zF,zG,zH,zI,zJ,zK,zL,zM,zN,reduceIte,zO,zP, *,with_putI,look_putS,putS_putS,Option.isSome_some,Option.map_some]
  have gA:=(Gr.refl (lo:=n3) g3.free).cons (Nat.le_refl _) [I q.me,I q.nodes,I q.view,I q.normal,I q.status,I q.commit,.bool q.sent,I q.log.base,q.log.snap.sv,.nsl,yb,.nsl,.nsl]
  have b3 : Ev.look ((n3,[I q.me,I q.nodes,I q.view,I q.normal,I q.status,I q.commit,.bool q.sent,I q.log.base,q.log.snap.sv,.nsl,yb,.nsl,.nsl]) :: m3) n3 = some [I q.me,I q.nodes,I q.view,I q.normal,I q.status,I q.commit,.bool q.sent,I q.log.base,q.log.snap.sv,.nsl,yb,.nsl,.nsl]:=by rw [look_c,if_pos rfl]
  have u3:=(g3.sub gg.free (Nat.le_refl _)).trans (gA.sub g3.free (Nat.le_refl _))
  replace hya:=IntsR.mono u3 hya
  replace hyb:=IntsR.mono (From.sub.trans (gA.sub g3.free (Nat.le_refl _))) (IntsX.to hyb)
  replace b0:=(gA.own n (by omega)).trans b0
  replace b1:=(gA.own n1 (by omega)).trans ((g3.own n1 (by omega)).trans b1)
  replace gg:=(gg.trans (g3.weaken (by omega))).trans (gA.weaken (by omega))
  generalize ((n3,[I q.me,I q.nodes,I q.view,I q.normal,I q.status,I q.commit,.bool q.sent,I q.log.base,q.log.snap.sv,.nsl,yb,.nsl,.nsl]) :: m3) = m4 at *
  clear gA u3 g3 w0 hne1
  refine hLR.c1 gg.free (RepS.mono (gg.sub hfr (Nat.le_refl _)) s1) ?_
  rintro v m5 n5 g5 ⟨ide,ida,ids,xd',rfl,hR⟩
  have l5:=g5.le
  have u5:=g5.sub gg.free (Nat.le_refl _)
  replace b0:=(g5.own n (by omega)).trans b0
  replace b1:=(g5.own n1 (by omega)).trans b1
  replace b3:=(g5.own n3 (by omega)).trans b3
  replace hya:=IntsR.mono u5 hya
  replace hyb:=IntsR.mono u5 hyb
  replace gg:=gg.trans (g5.weaken (by omega))
  clear u5
  simp only [↓E1,E2,zA,zB,zC,zD,zE,zF,zG,zH,zI,zJ,zK,zL,zM,zN,reduceIte,zO,zP, *,with_putI,look_putS,putS_putS,Option.isSome_some,Option.map_some]
  refine hLI.c1 gg.free (IntsR.mono (gg.sub hfr (Nat.le_refl _)) s2) ?_
  rintro v m6 n6 g6 ⟨idl,rfl,hil,hI⟩
  have l6:=g6.le
  obtain ⟨-,-,xdk',xdm'⟩:=hR.rs.2.2.2.len
  have u6:=g6.sub gg.free (Nat.le_refl _)
  replace b0:=(g6.own n (by omega)).trans b0
  replace b1:=(g6.own n1 (by omega)).trans b1
  replace b3:=(g6.own n3 (by omega)).trans b3
  replace hya:=IntsR.mono u6 hya
  replace hyb:=IntsR.mono u6 hyb
  replace hR:=hR.mono u6
  replace gg:=gg.trans (g6.weaken (by omega))
  clear u6 g5 g6 hLR hLI
  have w0:=look_with (fz:=fz) b0
  have w1:=look_with (fz:=fz) b1
  have w3:=look_with (fz:=fz) b3
  simp only [↓E1,E2,zA,zB,zC,zD,zE,zF,zG,zH,zI,zJ,zK,zL,zM,zN,reduceIte,zO,zP, *,with_putI,look_putS,putS_putS,Option.isSome_some,Option.map_some]
  have gA:=(Gr.refl (lo:=n6) gg.free).cons (Nat.le_refl _) [I r.me,I r.nodes,I r.view,I r.normal,I r.status,I r.commit,.bool r.sent,I r.log.base,r.log.snap.sv,(.osl ide 0 r.log.ents.length (r.log.ents.length + 1) 5),(.osl ida 0 r.acks.length (r.acks.length + 2) 1),(.osl ids 0 r.starts.length (r.starts.length + 2) 1),xd']
  have b6 : Ev.look ((n6,[I r.me,I r.nodes,I r.view,I r.normal,I r.status,I r.commit,.bool r.sent,I r.log.base,r.log.snap.sv,(.osl ide 0 r.log.ents.length (r.log.ents.length + 1) 5),(.osl ida 0 r.acks.length (r.acks.length + 2) 1),(.osl ids 0 r.starts.length (r.starts.length + 2) 1),xd']) :: m6) n6 = some [I r.me,I r.nodes,I r.view,I r.normal,I r.status,I r.commit,.bool r.sent,I r.log.base,r.log.snap.sv,(.osl ide 0 r.log.ents.length (r.log.ents.length + 1) 5),(.osl ida 0 r.acks.length (r.acks.length + 2) 1),(.osl ids 0 r.starts.length (r.starts.length + 2) 1),xd']:=by rw [look_c,if_pos rfl]
  have uA:=gA.sub gg.free (Nat.le_refl _)
  replace hya:=IntsR.mono uA hya
  replace hyb:=IntsR.mono uA hyb
  replace hR:=hR.mono uA
  replace hI : LentI _ idl acks:=uA _ _ hI
  replace b0:=(gA.own n (by omega)).trans b0
  replace b1:=(gA.own n1 (by omega)).trans b1
  replace b3:=(gA.own n3 (by omega)).trans b3
  replace gg:=gg.trans (gA.weaken (by omega))
  clear gA uA
  obtain ⟨m7,hm7⟩ : ∃ mz : St,((n6,[I r.me,I r.nodes,I r.view,I r.normal,I r.status,I r.commit,.bool r.sent,I r.log.base,r.log.snap.sv,(.osl ide 0 r.log.ents.length (r.log.ents.length + 1) 5),(.osl ida 0 r.acks.length (r.acks.length + 2) 1),(.osl ids 0 r.starts.length (r.starts.length + 2) 1),xd']) :: m6) = mz:=⟨_,rfl⟩
  rw [hm7] at hya hyb hR hI b0 b1 b3 b6 gg
  have hd0 : (n6 = n) = False:=by simp; omega
  have hd1 : (n6 = n1) = False:=by simp; omega
  have hd3 : (n6 = n3) = False:=by simp; omega
  have v0':=look_with (fz:=fz) b0
  have v1':=look_with (fz:=fz) b1
  have v3':=look_with (fz:=fz) b3
  have w6:=look_with (fz:=fz) b6
  have hr1 : r.starts.length ≤ 1152921504606846976:=by have:=hz.starts; omega
  have hr2 : r.dos.length ≤ 1152921504606846976:=by have:=hz.dos; omega
  have hr3 : r.acks.length ≤ 1152921504606846976:=by have:=hz.acks; omega
  have hok1 : Ok r.log:=λe he=>by have:=hz.log.bat e he; omega
  have hok2 : ∀ d ∈ r.dos,Ok d.log:=λd hd e he=>by have:=(hz.dlog d hd).bat e he; omega
  have hsame:=ref16_Same H q .nsl ya .nsl .nsl .nsl yb .nsl .nsl hq.sz
  have hnum:=law0_Num H ec
  have hmay1:=replica_May H r (.osl ide 0 r.log.ents.length (r.log.ents.length + 1) 5) (.osl ida 0 r.acks.length (r.acks.length + 2) 1) (.osl ids 0 r.starts.length (r.starts.length + 2) 1) xd' hr1 hr2 hr3
  have hmay2:=ref16_May H r xe xa xs xd hr1 hr2 hr3 hok1 hok2
  have hkr:=law0_KeptReplica H r ide ida ids xd' xe xa xs xd hz
  have hki:=law0_KeptInts H idl x acks (by omega)
  unfold repC at hsame hmay1 hmay2 hkr
  have hRs:=RepS.mono (gg.sub hfr (Nat.le_refl _)) s1
  have hIs:=IntsR.mono (gg.sub hfr (Nat.le_refl _)) s2
  have hfr7:=gg.free
  have hEq1 : (repB r == repB r) = true:=by simp
  refine Br_intro (λhb=>?_) (λhb=>?_)
  all_goals
    simp only [↓E1,E2,zA,zB,zC,zD,zE,zF,zG,zH,zI,zJ,zK,zL,zM,zN,reduceIte,zO,zP, *,with_putI,look_putS,putS_putS,Option.isSome_some,Option.map_some]
    try rw [hm7]
    clear w0 w1 w3 hd0 hd1 hd3
    try simp only [↓E1,E2,zA,zB,zC,zD,zE,zF,zG,zH,zI,zJ,zK,zL,zM,zN,reduceIte,zO,zP, *]
    refine hsame.q1 hfr7 ⟨hq.rs hya,hq.rs hyb⟩ ?_
    rintro v k1 l1' rfl
    have f1:=hfr7.le l1'
    simp only [↓E1,E2,zA,zB,zC,zD,zE,zF,zG,zH,zI,zJ,zK,zL,zM,zN,reduceIte,zO,zP, *]
    refine hnum.q1 f1 trivial ?_
    rintro v k2 l2' rfl
    have f2:=f1.le l2'
    simp only [↓E1,E2,zA,zB,zC,zD,zE,zF,zG,zH,zI,zJ,zK,zL,zM,zN,reduceIte,zO,zP, *]
    refine hmay1.q1 f2 hR.rs ?_
    rintro v k3 l3' rfl
    have f3:=f2.le l3'
    simp only [↓E1,E2,zA,zB,zC,zD,zE,zF,zG,zH,zI,zJ,zK,zL,zM,zN,reduceIte,zO,zP, *]
    refine hmay2.q1 f3 hRs ?_
    rintro v k4 l4' rfl
    have f4:=f3.le l4'
    simp only [↓E1,E2,zA,zB,zC,zD,zE,zF,zG,zH,zI,zJ,zK,zL,zM,zN,reduceIte,zO,zP, *]
    refine (replica_Primary H _ nodes).q1 f4 trivial ?_
    rintro v k5 l5' rfl
    have f5:=f4.le l5'
    simp only [↓E1,E2,zA,zB,zC,zD,zE,zF,zG,zH,zI,zJ,zK,zL,zM,zN,reduceIte,zO,zP, *]
    refine (ref16_Primary H _ nodes).q1 f5 trivial ?_
    rintro v k6 l6' rfl
    have f6:=f5.le l6'
    simp only [↓E1,E2,zA,zB,zC,zD,zE,zF,zG,zH,zI,zJ,zK,zL,zM,zN,reduceIte,zO,zP, *]
    refine (replica_Committed H hS _ acks me _ (by omega)).q1 f6 hI.sl ?_
    rintro v k7 l7' rfl
    have f7:=f6.le l7'
    simp only [↓E1,E2,zA,zB,zC,zD,zE,zF,zG,zH,zI,zJ,zK,zL,zM,zN,reduceIte,zO,zP, *]
    refine (ref16_Committed H x acks me _ (by omega) (by first | (have:=of_decide_eq_false hb; omega) | omega)).q1 f7 hIs ?_
    rintro v k8 l8' rfl
    have f8:=f7.le l8'
    simp only [↓E1,E2,zA,zB,zC,zD,zE,zF,zG,zH,zI,zJ,zK,zL,zM,zN,reduceIte,zO,zP, *]
    refine hkr.q1 f8 ⟨hR,hRs⟩ ?_
    rintro v k9 l9' rfl
    have f9:=f8.le l9'
    simp only [↓E1,E2,zA,zB,zC,zD,zE,zF,zG,zH,zI,zJ,zK,zL,zM,zN,reduceIte,zO,zP, *]
    refine hki.q1 f9 ⟨hI,hIs⟩ ?_
    rintro v k10 l10' rfl
    have f10:=f9.le l10'
    simp only [↓E1,E2,zA,zB,zC,zD,zE,zF,zG,zH,zI,zJ,zK,zL,zM,zN,reduceIte,zO,zP, *]
    refine aw.q1 f10 trivial ?_
    rintro v k11 l11' rfl
    have l7 : n6 + 1 ≤ k11:=by omega
    simp only [↓E1,E2,zA,zB,zC,zD,zE,zF,zG,zH,zI,zJ,zK,zL,zM,zN,reduceIte,zO,zP, *]
    try exact h _ _ (gg.le2 l7)
end Go.Proofs.Ytnnjlnkoomeadaa.Pv
namespace Go.Ev
abbrev PC:=List (Nat × Nat)
abbrev RR:=PC → Bool
def zz : RR:=λ_=>false
def PcOk (m : Nat → Nat) (pc : PC) : Prop:=∀ (j : Nat) (p : Nat × Nat),pc[j]? = some p → p.1 ≤ m j ∧ m j ≤ p.2
def TT (m : Nat → Nat) (r : RR) : Prop:=∃ pc,PcOk m pc ∧ r pc = true
theorem zz_not {m : Nat → Nat} : ¬ TT m zz:=λ⟨_,_,h⟩=>by cases h
section
variable {m : Nat → Nat}
end
section
variable {raw : Nat → Int} {m : Nat → Nat}
end
noncomputable def isR (v : AV) (_ : St) (_ : Nat) : RR:=v.onOne zz λs=>s.onBool zz λb _=>b
theorem isR_elim {m : Nat → Nat} (v : AV) (mu : St) (n : Nat) (h : TT m (isR v mu n)) : v = .one (.bool true):=by
  obtain ⟨s,rfl,h1⟩:=onOne_elim zz_not h
  obtain ⟨b,rfl,pc,_,h2⟩:=onBool_elim zz_not h1
  have h3 : b = true:=h2
  rw [h3]
end Go.Ev
namespace Go.Ev
inductive S16 where
  | s0
  | s1
  | s2
  | s3
  | s4
  | s5
  | s6
  | s7
  | s8
  | s9
  | s10
  | s11
  | s12
  | s13
  | s14
  | s15
def S16.n : S16 → Nat
  | .s0=>0
  | .s1=>1
  | .s2=>2
  | .s3=>3
  | .s4=>4
  | .s5=>5
  | .s6=>6
  | .s7=>7
  | .s8=>8
  | .s9=>9
  | .s10=>10
  | .s11=>11
  | .s12=>12
  | .s13=>13
  | .s14=>14
  | .s15=>15
inductive Row where
  | mk (a0 a1 a2 a3 a4 a5 a6 a7 a8 a9 a10 a11 a12 a13 a14 a15 : AV)
inductive T2 where
  | mk (r0 r1 r2 r3 r4 r5 r6 r7 r8 r9 r10 r11 r12 r13 r14 r15 : Row)
noncomputable def rg (s : S16) (r : Row) : AV:=S16.rec (motive:=λ_=>Row → AV)
  (λr=>Row.rec (motive:=λ_=>AV) (λa0 _ _ _ _ _ _ _ _ _ _ _ _ _ _ _=>a0) r)
  (λr=>Row.rec (motive:=λ_=>AV) (λ_ a1 _ _ _ _ _ _ _ _ _ _ _ _ _ _=>a1) r)
  (λr=>Row.rec (motive:=λ_=>AV) (λ_ _ a2 _ _ _ _ _ _ _ _ _ _ _ _ _=>a2) r)
  (λr=>Row.rec (motive:=λ_=>AV) (λ_ _ _ a3 _ _ _ _ _ _ _ _ _ _ _ _=>a3) r)
  (λr=>Row.rec (motive:=λ_=>AV) (λ_ _ _ _ a4 _ _ _ _ _ _ _ _ _ _ _=>a4) r)
  (λr=>Row.rec (motive:=λ_=>AV) (λ_ _ _ _ _ a5 _ _ _ _ _ _ _ _ _ _=>a5) r)
  (λr=>Row.rec (motive:=λ_=>AV) (λ_ _ _ _ _ _ a6 _ _ _ _ _ _ _ _ _=>a6) r)
  (λr=>Row.rec (motive:=λ_=>AV) (λ_ _ _ _ _ _ _ a7 _ _ _ _ _ _ _ _=>a7) r)
  (λr=>Row.rec (motive:=λ_=>AV) (λ_ _ _ _ _ _ _ _ a8 _ _ _ _ _ _ _=>a8) r)
  (λr=>Row.rec (motive:=λ_=>AV) (λ_ _ _ _ _ _ _ _ _ a9 _ _ _ _ _ _=>a9) r)
  (λr=>Row.rec (motive:=λ_=>AV) (λ_ _ _ _ _ _ _ _ _ _ a10 _ _ _ _ _=>a10) r)
  (λr=>Row.rec (motive:=λ_=>AV) (λ_ _ _ _ _ _ _ _ _ _ _ a11 _ _ _ _=>a11) r)
  (λr=>Row.rec (motive:=λ_=>AV) (λ_ _ _ _ _ _ _ _ _ _ _ _ a12 _ _ _=>a12) r)
  (λr=>Row.rec (motive:=λ_=>AV) (λ_ _ _ _ _ _ _ _ _ _ _ _ _ a13 _ _=>a13) r)
  (λr=>Row.rec (motive:=λ_=>AV) (λ_ _ _ _ _ _ _ _ _ _ _ _ _ _ a14 _=>a14) r)
  (λr=>Row.rec (motive:=λ_=>AV) (λ_ _ _ _ _ _ _ _ _ _ _ _ _ _ _ a15=>a15) r)
  s r
noncomputable def rs (s : S16) (r : Row) (v : AV) (k : Row → RR) : RR:=S16.rec (motive:=λ_=>Row → AV → (Row → RR) → RR)
  (λr v k=>Row.rec (motive:=λ_=>AV → (Row → RR) → RR) (λ_ a1 a2 a3 a4 a5 a6 a7 a8 a9 a10 a11 a12 a13 a14 a15 v k=>k (.mk v a1 a2 a3 a4 a5 a6 a7 a8 a9 a10 a11 a12 a13 a14 a15)) r v k)
  (λr v k=>Row.rec (motive:=λ_=>AV → (Row → RR) → RR) (λa0 _ a2 a3 a4 a5 a6 a7 a8 a9 a10 a11 a12 a13 a14 a15 v k=>k (.mk a0 v a2 a3 a4 a5 a6 a7 a8 a9 a10 a11 a12 a13 a14 a15)) r v k)
  (λr v k=>Row.rec (motive:=λ_=>AV → (Row → RR) → RR) (λa0 a1 _ a3 a4 a5 a6 a7 a8 a9 a10 a11 a12 a13 a14 a15 v k=>k (.mk a0 a1 v a3 a4 a5 a6 a7 a8 a9 a10 a11 a12 a13 a14 a15)) r v k)
  (λr v k=>Row.rec (motive:=λ_=>AV → (Row → RR) → RR) (λa0 a1 a2 _ a4 a5 a6 a7 a8 a9 a10 a11 a12 a13 a14 a15 v k=>k (.mk a0 a1 a2 v a4 a5 a6 a7 a8 a9 a10 a11 a12 a13 a14 a15)) r v k)
  (λr v k=>Row.rec (motive:=λ_=>AV → (Row → RR) → RR) (λa0 a1 a2 a3 _ a5 a6 a7 a8 a9 a10 a11 a12 a13 a14 a15 v k=>k (.mk a0 a1 a2 a3 v a5 a6 a7 a8 a9 a10 a11 a12 a13 a14 a15)) r v k)
  (λr v k=>Row.rec (motive:=λ_=>AV → (Row → RR) → RR) (λa0 a1 a2 a3 a4 _ a6 a7 a8 a9 a10 a11 a12 a13 a14 a15 v k=>k (.mk a0 a1 a2 a3 a4 v a6 a7 a8 a9 a10 a11 a12 a13 a14 a15)) r v k)
  (λr v k=>Row.rec (motive:=λ_=>AV → (Row → RR) → RR) (λa0 a1 a2 a3 a4 a5 _ a7 a8 a9 a10 a11 a12 a13 a14 a15 v k=>k (.mk a0 a1 a2 a3 a4 a5 v a7 a8 a9 a10 a11 a12 a13 a14 a15)) r v k)
  (λr v k=>Row.rec (motive:=λ_=>AV → (Row → RR) → RR) (λa0 a1 a2 a3 a4 a5 a6 _ a8 a9 a10 a11 a12 a13 a14 a15 v k=>k (.mk a0 a1 a2 a3 a4 a5 a6 v a8 a9 a10 a11 a12 a13 a14 a15)) r v k)
  (λr v k=>Row.rec (motive:=λ_=>AV → (Row → RR) → RR) (λa0 a1 a2 a3 a4 a5 a6 a7 _ a9 a10 a11 a12 a13 a14 a15 v k=>k (.mk a0 a1 a2 a3 a4 a5 a6 a7 v a9 a10 a11 a12 a13 a14 a15)) r v k)
  (λr v k=>Row.rec (motive:=λ_=>AV → (Row → RR) → RR) (λa0 a1 a2 a3 a4 a5 a6 a7 a8 _ a10 a11 a12 a13 a14 a15 v k=>k (.mk a0 a1 a2 a3 a4 a5 a6 a7 a8 v a10 a11 a12 a13 a14 a15)) r v k)
  (λr v k=>Row.rec (motive:=λ_=>AV → (Row → RR) → RR) (λa0 a1 a2 a3 a4 a5 a6 a7 a8 a9 _ a11 a12 a13 a14 a15 v k=>k (.mk a0 a1 a2 a3 a4 a5 a6 a7 a8 a9 v a11 a12 a13 a14 a15)) r v k)
  (λr v k=>Row.rec (motive:=λ_=>AV → (Row → RR) → RR) (λa0 a1 a2 a3 a4 a5 a6 a7 a8 a9 a10 _ a12 a13 a14 a15 v k=>k (.mk a0 a1 a2 a3 a4 a5 a6 a7 a8 a9 a10 v a12 a13 a14 a15)) r v k)
  (λr v k=>Row.rec (motive:=λ_=>AV → (Row → RR) → RR) (λa0 a1 a2 a3 a4 a5 a6 a7 a8 a9 a10 a11 _ a13 a14 a15 v k=>k (.mk a0 a1 a2 a3 a4 a5 a6 a7 a8 a9 a10 a11 v a13 a14 a15)) r v k)
  (λr v k=>Row.rec (motive:=λ_=>AV → (Row → RR) → RR) (λa0 a1 a2 a3 a4 a5 a6 a7 a8 a9 a10 a11 a12 _ a14 a15 v k=>k (.mk a0 a1 a2 a3 a4 a5 a6 a7 a8 a9 a10 a11 a12 v a14 a15)) r v k)
  (λr v k=>Row.rec (motive:=λ_=>AV → (Row → RR) → RR) (λa0 a1 a2 a3 a4 a5 a6 a7 a8 a9 a10 a11 a12 a13 _ a15 v k=>k (.mk a0 a1 a2 a3 a4 a5 a6 a7 a8 a9 a10 a11 a12 a13 v a15)) r v k)
  (λr v k=>Row.rec (motive:=λ_=>AV → (Row → RR) → RR) (λa0 a1 a2 a3 a4 a5 a6 a7 a8 a9 a10 a11 a12 a13 a14 _ v k=>k (.mk a0 a1 a2 a3 a4 a5 a6 a7 a8 a9 a10 a11 a12 a13 a14 v)) r v k)
  s r v k
noncomputable def rset (s : S16) (r : Row) (v : AV) : Row:=S16.rec (motive:=λ_=>Row)
  (Row.rec (motive:=λ_=>Row) (λ_ a1 a2 a3 a4 a5 a6 a7 a8 a9 a10 a11 a12 a13 a14 a15=>.mk v a1 a2 a3 a4 a5 a6 a7 a8 a9 a10 a11 a12 a13 a14 a15) r)
  (Row.rec (motive:=λ_=>Row) (λa0 _ a2 a3 a4 a5 a6 a7 a8 a9 a10 a11 a12 a13 a14 a15=>.mk a0 v a2 a3 a4 a5 a6 a7 a8 a9 a10 a11 a12 a13 a14 a15) r)
  (Row.rec (motive:=λ_=>Row) (λa0 a1 _ a3 a4 a5 a6 a7 a8 a9 a10 a11 a12 a13 a14 a15=>.mk a0 a1 v a3 a4 a5 a6 a7 a8 a9 a10 a11 a12 a13 a14 a15) r)
  (Row.rec (motive:=λ_=>Row) (λa0 a1 a2 _ a4 a5 a6 a7 a8 a9 a10 a11 a12 a13 a14 a15=>.mk a0 a1 a2 v a4 a5 a6 a7 a8 a9 a10 a11 a12 a13 a14 a15) r)
  (Row.rec (motive:=λ_=>Row) (λa0 a1 a2 a3 _ a5 a6 a7 a8 a9 a10 a11 a12 a13 a14 a15=>.mk a0 a1 a2 a3 v a5 a6 a7 a8 a9 a10 a11 a12 a13 a14 a15) r)
  (Row.rec (motive:=λ_=>Row) (λa0 a1 a2 a3 a4 _ a6 a7 a8 a9 a10 a11 a12 a13 a14 a15=>.mk a0 a1 a2 a3 a4 v a6 a7 a8 a9 a10 a11 a12 a13 a14 a15) r)
  (Row.rec (motive:=λ_=>Row) (λa0 a1 a2 a3 a4 a5 _ a7 a8 a9 a10 a11 a12 a13 a14 a15=>.mk a0 a1 a2 a3 a4 a5 v a7 a8 a9 a10 a11 a12 a13 a14 a15) r)
  (Row.rec (motive:=λ_=>Row) (λa0 a1 a2 a3 a4 a5 a6 _ a8 a9 a10 a11 a12 a13 a14 a15=>.mk a0 a1 a2 a3 a4 a5 a6 v a8 a9 a10 a11 a12 a13 a14 a15) r)
  (Row.rec (motive:=λ_=>Row) (λa0 a1 a2 a3 a4 a5 a6 a7 _ a9 a10 a11 a12 a13 a14 a15=>.mk a0 a1 a2 a3 a4 a5 a6 a7 v a9 a10 a11 a12 a13 a14 a15) r)
  (Row.rec (motive:=λ_=>Row) (λa0 a1 a2 a3 a4 a5 a6 a7 a8 _ a10 a11 a12 a13 a14 a15=>.mk a0 a1 a2 a3 a4 a5 a6 a7 a8 v a10 a11 a12 a13 a14 a15) r)
  (Row.rec (motive:=λ_=>Row) (λa0 a1 a2 a3 a4 a5 a6 a7 a8 a9 _ a11 a12 a13 a14 a15=>.mk a0 a1 a2 a3 a4 a5 a6 a7 a8 a9 v a11 a12 a13 a14 a15) r)
  (Row.rec (motive:=λ_=>Row) (λa0 a1 a2 a3 a4 a5 a6 a7 a8 a9 a10 _ a12 a13 a14 a15=>.mk a0 a1 a2 a3 a4 a5 a6 a7 a8 a9 a10 v a12 a13 a14 a15) r)
  (Row.rec (motive:=λ_=>Row) (λa0 a1 a2 a3 a4 a5 a6 a7 a8 a9 a10 a11 _ a13 a14 a15=>.mk a0 a1 a2 a3 a4 a5 a6 a7 a8 a9 a10 a11 v a13 a14 a15) r)
  (Row.rec (motive:=λ_=>Row) (λa0 a1 a2 a3 a4 a5 a6 a7 a8 a9 a10 a11 a12 _ a14 a15=>.mk a0 a1 a2 a3 a4 a5 a6 a7 a8 a9 a10 a11 a12 v a14 a15) r)
  (Row.rec (motive:=λ_=>Row) (λa0 a1 a2 a3 a4 a5 a6 a7 a8 a9 a10 a11 a12 a13 _ a15=>.mk a0 a1 a2 a3 a4 a5 a6 a7 a8 a9 a10 a11 a12 a13 v a15) r)
  (Row.rec (motive:=λ_=>Row) (λa0 a1 a2 a3 a4 a5 a6 a7 a8 a9 a10 a11 a12 a13 a14 _=>.mk a0 a1 a2 a3 a4 a5 a6 a7 a8 a9 a10 a11 a12 a13 a14 v) r)
  s
noncomputable def tg (s : S16) (t : T2) : Row:=S16.rec (motive:=λ_=>T2 → Row)
  (λt=>T2.rec (motive:=λ_=>Row) (λr0 _ _ _ _ _ _ _ _ _ _ _ _ _ _ _=>r0) t)
  (λt=>T2.rec (motive:=λ_=>Row) (λ_ r1 _ _ _ _ _ _ _ _ _ _ _ _ _ _=>r1) t)
  (λt=>T2.rec (motive:=λ_=>Row) (λ_ _ r2 _ _ _ _ _ _ _ _ _ _ _ _ _=>r2) t)
  (λt=>T2.rec (motive:=λ_=>Row) (λ_ _ _ r3 _ _ _ _ _ _ _ _ _ _ _ _=>r3) t)
  (λt=>T2.rec (motive:=λ_=>Row) (λ_ _ _ _ r4 _ _ _ _ _ _ _ _ _ _ _=>r4) t)
  (λt=>T2.rec (motive:=λ_=>Row) (λ_ _ _ _ _ r5 _ _ _ _ _ _ _ _ _ _=>r5) t)
  (λt=>T2.rec (motive:=λ_=>Row) (λ_ _ _ _ _ _ r6 _ _ _ _ _ _ _ _ _=>r6) t)
  (λt=>T2.rec (motive:=λ_=>Row) (λ_ _ _ _ _ _ _ r7 _ _ _ _ _ _ _ _=>r7) t)
  (λt=>T2.rec (motive:=λ_=>Row) (λ_ _ _ _ _ _ _ _ r8 _ _ _ _ _ _ _=>r8) t)
  (λt=>T2.rec (motive:=λ_=>Row) (λ_ _ _ _ _ _ _ _ _ r9 _ _ _ _ _ _=>r9) t)
  (λt=>T2.rec (motive:=λ_=>Row) (λ_ _ _ _ _ _ _ _ _ _ r10 _ _ _ _ _=>r10) t)
  (λt=>T2.rec (motive:=λ_=>Row) (λ_ _ _ _ _ _ _ _ _ _ _ r11 _ _ _ _=>r11) t)
  (λt=>T2.rec (motive:=λ_=>Row) (λ_ _ _ _ _ _ _ _ _ _ _ _ r12 _ _ _=>r12) t)
  (λt=>T2.rec (motive:=λ_=>Row) (λ_ _ _ _ _ _ _ _ _ _ _ _ _ r13 _ _=>r13) t)
  (λt=>T2.rec (motive:=λ_=>Row) (λ_ _ _ _ _ _ _ _ _ _ _ _ _ _ r14 _=>r14) t)
  (λt=>T2.rec (motive:=λ_=>Row) (λ_ _ _ _ _ _ _ _ _ _ _ _ _ _ _ r15=>r15) t)
  s t
noncomputable def ts (s : S16) (t : T2) (r : Row) (k : T2 → RR) : RR:=S16.rec (motive:=λ_=>T2 → Row → (T2 → RR) → RR)
  (λt r k=>T2.rec (motive:=λ_=>Row → (T2 → RR) → RR) (λ_ r1 r2 r3 r4 r5 r6 r7 r8 r9 r10 r11 r12 r13 r14 r15 r k=>k (.mk r r1 r2 r3 r4 r5 r6 r7 r8 r9 r10 r11 r12 r13 r14 r15)) t r k)
  (λt r k=>T2.rec (motive:=λ_=>Row → (T2 → RR) → RR) (λr0 _ r2 r3 r4 r5 r6 r7 r8 r9 r10 r11 r12 r13 r14 r15 r k=>k (.mk r0 r r2 r3 r4 r5 r6 r7 r8 r9 r10 r11 r12 r13 r14 r15)) t r k)
  (λt r k=>T2.rec (motive:=λ_=>Row → (T2 → RR) → RR) (λr0 r1 _ r3 r4 r5 r6 r7 r8 r9 r10 r11 r12 r13 r14 r15 r k=>k (.mk r0 r1 r r3 r4 r5 r6 r7 r8 r9 r10 r11 r12 r13 r14 r15)) t r k)
  (λt r k=>T2.rec (motive:=λ_=>Row → (T2 → RR) → RR) (λr0 r1 r2 _ r4 r5 r6 r7 r8 r9 r10 r11 r12 r13 r14 r15 r k=>k (.mk r0 r1 r2 r r4 r5 r6 r7 r8 r9 r10 r11 r12 r13 r14 r15)) t r k)
  (λt r k=>T2.rec (motive:=λ_=>Row → (T2 → RR) → RR) (λr0 r1 r2 r3 _ r5 r6 r7 r8 r9 r10 r11 r12 r13 r14 r15 r k=>k (.mk r0 r1 r2 r3 r r5 r6 r7 r8 r9 r10 r11 r12 r13 r14 r15)) t r k)
  (λt r k=>T2.rec (motive:=λ_=>Row → (T2 → RR) → RR) (λr0 r1 r2 r3 r4 _ r6 r7 r8 r9 r10 r11 r12 r13 r14 r15 r k=>k (.mk r0 r1 r2 r3 r4 r r6 r7 r8 r9 r10 r11 r12 r13 r14 r15)) t r k)
  (λt r k=>T2.rec (motive:=λ_=>Row → (T2 → RR) → RR) (λr0 r1 r2 r3 r4 r5 _ r7 r8 r9 r10 r11 r12 r13 r14 r15 r k=>k (.mk r0 r1 r2 r3 r4 r5 r r7 r8 r9 r10 r11 r12 r13 r14 r15)) t r k)
  (λt r k=>T2.rec (motive:=λ_=>Row → (T2 → RR) → RR) (λr0 r1 r2 r3 r4 r5 r6 _ r8 r9 r10 r11 r12 r13 r14 r15 r k=>k (.mk r0 r1 r2 r3 r4 r5 r6 r r8 r9 r10 r11 r12 r13 r14 r15)) t r k)
  (λt r k=>T2.rec (motive:=λ_=>Row → (T2 → RR) → RR) (λr0 r1 r2 r3 r4 r5 r6 r7 _ r9 r10 r11 r12 r13 r14 r15 r k=>k (.mk r0 r1 r2 r3 r4 r5 r6 r7 r r9 r10 r11 r12 r13 r14 r15)) t r k)
  (λt r k=>T2.rec (motive:=λ_=>Row → (T2 → RR) → RR) (λr0 r1 r2 r3 r4 r5 r6 r7 r8 _ r10 r11 r12 r13 r14 r15 r k=>k (.mk r0 r1 r2 r3 r4 r5 r6 r7 r8 r r10 r11 r12 r13 r14 r15)) t r k)
  (λt r k=>T2.rec (motive:=λ_=>Row → (T2 → RR) → RR) (λr0 r1 r2 r3 r4 r5 r6 r7 r8 r9 _ r11 r12 r13 r14 r15 r k=>k (.mk r0 r1 r2 r3 r4 r5 r6 r7 r8 r9 r r11 r12 r13 r14 r15)) t r k)
  (λt r k=>T2.rec (motive:=λ_=>Row → (T2 → RR) → RR) (λr0 r1 r2 r3 r4 r5 r6 r7 r8 r9 r10 _ r12 r13 r14 r15 r k=>k (.mk r0 r1 r2 r3 r4 r5 r6 r7 r8 r9 r10 r r12 r13 r14 r15)) t r k)
  (λt r k=>T2.rec (motive:=λ_=>Row → (T2 → RR) → RR) (λr0 r1 r2 r3 r4 r5 r6 r7 r8 r9 r10 r11 _ r13 r14 r15 r k=>k (.mk r0 r1 r2 r3 r4 r5 r6 r7 r8 r9 r10 r11 r r13 r14 r15)) t r k)
  (λt r k=>T2.rec (motive:=λ_=>Row → (T2 → RR) → RR) (λr0 r1 r2 r3 r4 r5 r6 r7 r8 r9 r10 r11 r12 _ r14 r15 r k=>k (.mk r0 r1 r2 r3 r4 r5 r6 r7 r8 r9 r10 r11 r12 r r14 r15)) t r k)
  (λt r k=>T2.rec (motive:=λ_=>Row → (T2 → RR) → RR) (λr0 r1 r2 r3 r4 r5 r6 r7 r8 r9 r10 r11 r12 r13 _ r15 r k=>k (.mk r0 r1 r2 r3 r4 r5 r6 r7 r8 r9 r10 r11 r12 r13 r r15)) t r k)
  (λt r k=>T2.rec (motive:=λ_=>Row → (T2 → RR) → RR) (λr0 r1 r2 r3 r4 r5 r6 r7 r8 r9 r10 r11 r12 r13 r14 _ r k=>k (.mk r0 r1 r2 r3 r4 r5 r6 r7 r8 r9 r10 r11 r12 r13 r14 r)) t r k)
  s t r k
noncomputable def tset (s : S16) (t : T2) (r : Row) : T2:=S16.rec (motive:=λ_=>T2)
  (T2.rec (motive:=λ_=>T2) (λ_ r1 r2 r3 r4 r5 r6 r7 r8 r9 r10 r11 r12 r13 r14 r15=>.mk r r1 r2 r3 r4 r5 r6 r7 r8 r9 r10 r11 r12 r13 r14 r15) t)
  (T2.rec (motive:=λ_=>T2) (λr0 _ r2 r3 r4 r5 r6 r7 r8 r9 r10 r11 r12 r13 r14 r15=>.mk r0 r r2 r3 r4 r5 r6 r7 r8 r9 r10 r11 r12 r13 r14 r15) t)
  (T2.rec (motive:=λ_=>T2) (λr0 r1 _ r3 r4 r5 r6 r7 r8 r9 r10 r11 r12 r13 r14 r15=>.mk r0 r1 r r3 r4 r5 r6 r7 r8 r9 r10 r11 r12 r13 r14 r15) t)
  (T2.rec (motive:=λ_=>T2) (λr0 r1 r2 _ r4 r5 r6 r7 r8 r9 r10 r11 r12 r13 r14 r15=>.mk r0 r1 r2 r r4 r5 r6 r7 r8 r9 r10 r11 r12 r13 r14 r15) t)
  (T2.rec (motive:=λ_=>T2) (λr0 r1 r2 r3 _ r5 r6 r7 r8 r9 r10 r11 r12 r13 r14 r15=>.mk r0 r1 r2 r3 r r5 r6 r7 r8 r9 r10 r11 r12 r13 r14 r15) t)
  (T2.rec (motive:=λ_=>T2) (λr0 r1 r2 r3 r4 _ r6 r7 r8 r9 r10 r11 r12 r13 r14 r15=>.mk r0 r1 r2 r3 r4 r r6 r7 r8 r9 r10 r11 r12 r13 r14 r15) t)
  (T2.rec (motive:=λ_=>T2) (λr0 r1 r2 r3 r4 r5 _ r7 r8 r9 r10 r11 r12 r13 r14 r15=>.mk r0 r1 r2 r3 r4 r5 r r7 r8 r9 r10 r11 r12 r13 r14 r15) t)
  (T2.rec (motive:=λ_=>T2) (λr0 r1 r2 r3 r4 r5 r6 _ r8 r9 r10 r11 r12 r13 r14 r15=>.mk r0 r1 r2 r3 r4 r5 r6 r r8 r9 r10 r11 r12 r13 r14 r15) t)
  (T2.rec (motive:=λ_=>T2) (λr0 r1 r2 r3 r4 r5 r6 r7 _ r9 r10 r11 r12 r13 r14 r15=>.mk r0 r1 r2 r3 r4 r5 r6 r7 r r9 r10 r11 r12 r13 r14 r15) t)
  (T2.rec (motive:=λ_=>T2) (λr0 r1 r2 r3 r4 r5 r6 r7 r8 _ r10 r11 r12 r13 r14 r15=>.mk r0 r1 r2 r3 r4 r5 r6 r7 r8 r r10 r11 r12 r13 r14 r15) t)
  (T2.rec (motive:=λ_=>T2) (λr0 r1 r2 r3 r4 r5 r6 r7 r8 r9 _ r11 r12 r13 r14 r15=>.mk r0 r1 r2 r3 r4 r5 r6 r7 r8 r9 r r11 r12 r13 r14 r15) t)
  (T2.rec (motive:=λ_=>T2) (λr0 r1 r2 r3 r4 r5 r6 r7 r8 r9 r10 _ r12 r13 r14 r15=>.mk r0 r1 r2 r3 r4 r5 r6 r7 r8 r9 r10 r r12 r13 r14 r15) t)
  (T2.rec (motive:=λ_=>T2) (λr0 r1 r2 r3 r4 r5 r6 r7 r8 r9 r10 r11 _ r13 r14 r15=>.mk r0 r1 r2 r3 r4 r5 r6 r7 r8 r9 r10 r11 r r13 r14 r15) t)
  (T2.rec (motive:=λ_=>T2) (λr0 r1 r2 r3 r4 r5 r6 r7 r8 r9 r10 r11 r12 _ r14 r15=>.mk r0 r1 r2 r3 r4 r5 r6 r7 r8 r9 r10 r11 r12 r r14 r15) t)
  (T2.rec (motive:=λ_=>T2) (λr0 r1 r2 r3 r4 r5 r6 r7 r8 r9 r10 r11 r12 r13 _ r15=>.mk r0 r1 r2 r3 r4 r5 r6 r7 r8 r9 r10 r11 r12 r13 r r15) t)
  (T2.rec (motive:=λ_=>T2) (λr0 r1 r2 r3 r4 r5 r6 r7 r8 r9 r10 r11 r12 r13 r14 _=>.mk r0 r1 r2 r3 r4 r5 r6 r7 r8 r9 r10 r11 r12 r13 r14 r) t)
  s
noncomputable def get2 (q r : S16) (t : T2) : AV:=rg r (tg q t)
noncomputable def set2 (q r : S16) (t : T2) (v : AV) (k : T2 → RR) : RR:=rs r (tg q t) v λrow=>ts q t row k
noncomputable def set2p (q r : S16) (t : T2) (v : AV) : T2:=tset q t (rset r (tg q t) v)
theorem rs_eq (s : S16) (r : Row) (v : AV) (k : Row → RR) : rs s r v k = k (rset s r v):=by cases s <;> cases r <;> rfl
theorem ts_eq (s : S16) (t : T2) (r : Row) (k : T2 → RR) : ts s t r k = k (tset s t r):=by cases s <;> cases t <;> rfl
theorem set2_eq (q r : S16) (t : T2) (v : AV) (k : T2 → RR) : set2 q r t v k = k (set2p q r t v):=by unfold set2; rw [rs_eq,ts_eq]; rfl
theorem rg_same (s : S16) (r : Row) (v : AV) : rg s (rset s r v) = v:=by cases s <;> cases r <;> rfl
theorem tg_same (s : S16) (t : T2) (r : Row) : tg s (tset s t r) = r:=by cases s <;> cases t <;> rfl
theorem rg_ne {s s' : S16} (h : s ≠ s') (r : Row) (v : AV) : rg s (rset s' r v) = rg s r:=by cases r; cases s <;> cases s' <;> first | rfl | exact (h rfl).elim
theorem tg_ne {s s' : S16} (h : s ≠ s') (t : T2) (r : Row) : tg s (tset s' t r) = tg s t:=by cases t; cases s <;> cases s' <;> first | rfl | exact (h rfl).elim
theorem S16.inj {s s' : S16} (h : s.n = s'.n) : s = s':=by cases s <;> cases s' <;> first | rfl | (cases h; done)
theorem S16.lt (s : S16) : s.n < 16:=by cases s <;> decide
def S16.of (n : Nat) : S16:=match n with
  | 0=>.s0
  | 1=>.s1
  | 2=>.s2
  | 3=>.s3
  | 4=>.s4
  | 5=>.s5
  | 6=>.s6
  | 7=>.s7
  | 8=>.s8
  | 9=>.s9
  | 10=>.s10
  | 11=>.s11
  | 12=>.s12
  | 13=>.s13
  | 14=>.s14
  | _=>.s15
theorem S16.n_of {n : Nat} (h : n < 16) : (S16.of n).n = n:=by
  rcases (show n = 0 ∨ n = 1 ∨ n = 2 ∨ n = 3 ∨ n = 4 ∨ n = 5 ∨ n = 6 ∨ n = 7 ∨ n = 8 ∨ n = 9 ∨ n = 10 ∨ n = 11 ∨ n = 12 ∨ n = 13 ∨ n = 14 ∨ n = 15 by omega) with h | h | h | h | h | h | h | h | h | h | h | h | h | h | h | h <;> subst h <;> rfl
end Go.Ev
namespace Go.Ev
inductive Fm where
  | mk (a0 a1 a2 a3 a4 a5 a6 a7 : AV) (x : T2)
abbrev GT:=Fm → AV
abbrev ST:=Fm → AV → (Fm → RR) → RR
abbrev HC:=Orc RR → CallT RR → Fz → Fm → St → Nat → (AExit → Fm → St → Nat → RR) → RR
def rowU : Row:=.mk (.one .un) (.one .un) (.one .un) (.one .un) (.one .un) (.one .un) (.one .un) (.one .un) (.one .un) (.one .un) (.one .un) (.one .un) (.one .un) (.one .un) (.one .un) (.one .un)
def t2U : T2:=.mk rowU rowU rowU rowU rowU rowU rowU rowU rowU rowU rowU rowU rowU rowU rowU rowU
noncomputable def d0 : GT:=λt=>Fm.rec (motive:=λ_=>AV) (λa0 _ _ _ _ _ _ _ _=>a0) t
noncomputable def d1 : GT:=λt=>Fm.rec (motive:=λ_=>AV) (λ_ a1 _ _ _ _ _ _ _=>a1) t
noncomputable def d2 : GT:=λt=>Fm.rec (motive:=λ_=>AV) (λ_ _ a2 _ _ _ _ _ _=>a2) t
noncomputable def d3 : GT:=λt=>Fm.rec (motive:=λ_=>AV) (λ_ _ _ a3 _ _ _ _ _=>a3) t
noncomputable def d4 : GT:=λt=>Fm.rec (motive:=λ_=>AV) (λ_ _ _ _ a4 _ _ _ _=>a4) t
noncomputable def d5 : GT:=λt=>Fm.rec (motive:=λ_=>AV) (λ_ _ _ _ _ a5 _ _ _=>a5) t
noncomputable def d6 : GT:=λt=>Fm.rec (motive:=λ_=>AV) (λ_ _ _ _ _ _ a6 _ _=>a6) t
noncomputable def d7 : GT:=λt=>Fm.rec (motive:=λ_=>AV) (λ_ _ _ _ _ _ _ a7 _=>a7) t
noncomputable def sd0 : ST:=λt v k=>Fm.rec (motive:=λ_=>AV → (Fm → RR) → RR) (λ_ a1 a2 a3 a4 a5 a6 a7 x v k=>k (.mk v a1 a2 a3 a4 a5 a6 a7 x)) t v k
noncomputable def sd1 : ST:=λt v k=>Fm.rec (motive:=λ_=>AV → (Fm → RR) → RR) (λa0 _ a2 a3 a4 a5 a6 a7 x v k=>k (.mk a0 v a2 a3 a4 a5 a6 a7 x)) t v k
noncomputable def sd2 : ST:=λt v k=>Fm.rec (motive:=λ_=>AV → (Fm → RR) → RR) (λa0 a1 _ a3 a4 a5 a6 a7 x v k=>k (.mk a0 a1 v a3 a4 a5 a6 a7 x)) t v k
noncomputable def sd3 : ST:=λt v k=>Fm.rec (motive:=λ_=>AV → (Fm → RR) → RR) (λa0 a1 a2 _ a4 a5 a6 a7 x v k=>k (.mk a0 a1 a2 v a4 a5 a6 a7 x)) t v k
noncomputable def sd4 : ST:=λt v k=>Fm.rec (motive:=λ_=>AV → (Fm → RR) → RR) (λa0 a1 a2 a3 _ a5 a6 a7 x v k=>k (.mk a0 a1 a2 a3 v a5 a6 a7 x)) t v k
noncomputable def sd5 : ST:=λt v k=>Fm.rec (motive:=λ_=>AV → (Fm → RR) → RR) (λa0 a1 a2 a3 a4 _ a6 a7 x v k=>k (.mk a0 a1 a2 a3 a4 v a6 a7 x)) t v k
noncomputable def sd6 : ST:=λt v k=>Fm.rec (motive:=λ_=>AV → (Fm → RR) → RR) (λa0 a1 a2 a3 a4 a5 _ a7 x v k=>k (.mk a0 a1 a2 a3 a4 a5 v a7 x)) t v k
noncomputable def sd7 : ST:=λt v k=>Fm.rec (motive:=λ_=>AV → (Fm → RR) → RR) (λa0 a1 a2 a3 a4 a5 a6 _ x v k=>k (.mk a0 a1 a2 a3 a4 a5 a6 v x)) t v k
noncomputable def e0_0 : GT:=λt=>Fm.rec (motive:=λ_=>AV) (λ_ _ _ _ _ _ _ _ x=>T2.rec (motive:=λ_=>AV) (λr0 _ _ _ _ _ _ _ _ _ _ _ _ _ _ _=>Row.rec (motive:=λ_=>AV) (λb0 _ _ _ _ _ _ _ _ _ _ _ _ _ _ _=>b0) r0) x) t
noncomputable def e0_1 : GT:=λt=>Fm.rec (motive:=λ_=>AV) (λ_ _ _ _ _ _ _ _ x=>T2.rec (motive:=λ_=>AV) (λr0 _ _ _ _ _ _ _ _ _ _ _ _ _ _ _=>Row.rec (motive:=λ_=>AV) (λ_ b1 _ _ _ _ _ _ _ _ _ _ _ _ _ _=>b1) r0) x) t
noncomputable def e0_2 : GT:=λt=>Fm.rec (motive:=λ_=>AV) (λ_ _ _ _ _ _ _ _ x=>T2.rec (motive:=λ_=>AV) (λr0 _ _ _ _ _ _ _ _ _ _ _ _ _ _ _=>Row.rec (motive:=λ_=>AV) (λ_ _ b2 _ _ _ _ _ _ _ _ _ _ _ _ _=>b2) r0) x) t
noncomputable def e0_3 : GT:=λt=>Fm.rec (motive:=λ_=>AV) (λ_ _ _ _ _ _ _ _ x=>T2.rec (motive:=λ_=>AV) (λr0 _ _ _ _ _ _ _ _ _ _ _ _ _ _ _=>Row.rec (motive:=λ_=>AV) (λ_ _ _ b3 _ _ _ _ _ _ _ _ _ _ _ _=>b3) r0) x) t
noncomputable def e0_4 : GT:=λt=>Fm.rec (motive:=λ_=>AV) (λ_ _ _ _ _ _ _ _ x=>T2.rec (motive:=λ_=>AV) (λr0 _ _ _ _ _ _ _ _ _ _ _ _ _ _ _=>Row.rec (motive:=λ_=>AV) (λ_ _ _ _ b4 _ _ _ _ _ _ _ _ _ _ _=>b4) r0) x) t
noncomputable def e0_5 : GT:=λt=>Fm.rec (motive:=λ_=>AV) (λ_ _ _ _ _ _ _ _ x=>T2.rec (motive:=λ_=>AV) (λr0 _ _ _ _ _ _ _ _ _ _ _ _ _ _ _=>Row.rec (motive:=λ_=>AV) (λ_ _ _ _ _ b5 _ _ _ _ _ _ _ _ _ _=>b5) r0) x) t
noncomputable def e0_6 : GT:=λt=>Fm.rec (motive:=λ_=>AV) (λ_ _ _ _ _ _ _ _ x=>T2.rec (motive:=λ_=>AV) (λr0 _ _ _ _ _ _ _ _ _ _ _ _ _ _ _=>Row.rec (motive:=λ_=>AV) (λ_ _ _ _ _ _ b6 _ _ _ _ _ _ _ _ _=>b6) r0) x) t
noncomputable def e0_7 : GT:=λt=>Fm.rec (motive:=λ_=>AV) (λ_ _ _ _ _ _ _ _ x=>T2.rec (motive:=λ_=>AV) (λr0 _ _ _ _ _ _ _ _ _ _ _ _ _ _ _=>Row.rec (motive:=λ_=>AV) (λ_ _ _ _ _ _ _ b7 _ _ _ _ _ _ _ _=>b7) r0) x) t
noncomputable def e0_8 : GT:=λt=>Fm.rec (motive:=λ_=>AV) (λ_ _ _ _ _ _ _ _ x=>T2.rec (motive:=λ_=>AV) (λr0 _ _ _ _ _ _ _ _ _ _ _ _ _ _ _=>Row.rec (motive:=λ_=>AV) (λ_ _ _ _ _ _ _ _ b8 _ _ _ _ _ _ _=>b8) r0) x) t
noncomputable def e0_9 : GT:=λt=>Fm.rec (motive:=λ_=>AV) (λ_ _ _ _ _ _ _ _ x=>T2.rec (motive:=λ_=>AV) (λr0 _ _ _ _ _ _ _ _ _ _ _ _ _ _ _=>Row.rec (motive:=λ_=>AV) (λ_ _ _ _ _ _ _ _ _ b9 _ _ _ _ _ _=>b9) r0) x) t
noncomputable def e0_10 : GT:=λt=>Fm.rec (motive:=λ_=>AV) (λ_ _ _ _ _ _ _ _ x=>T2.rec (motive:=λ_=>AV) (λr0 _ _ _ _ _ _ _ _ _ _ _ _ _ _ _=>Row.rec (motive:=λ_=>AV) (λ_ _ _ _ _ _ _ _ _ _ b10 _ _ _ _ _=>b10) r0) x) t
noncomputable def e0_11 : GT:=λt=>Fm.rec (motive:=λ_=>AV) (λ_ _ _ _ _ _ _ _ x=>T2.rec (motive:=λ_=>AV) (λr0 _ _ _ _ _ _ _ _ _ _ _ _ _ _ _=>Row.rec (motive:=λ_=>AV) (λ_ _ _ _ _ _ _ _ _ _ _ b11 _ _ _ _=>b11) r0) x) t
noncomputable def e0_12 : GT:=λt=>Fm.rec (motive:=λ_=>AV) (λ_ _ _ _ _ _ _ _ x=>T2.rec (motive:=λ_=>AV) (λr0 _ _ _ _ _ _ _ _ _ _ _ _ _ _ _=>Row.rec (motive:=λ_=>AV) (λ_ _ _ _ _ _ _ _ _ _ _ _ b12 _ _ _=>b12) r0) x) t
noncomputable def e0_13 : GT:=λt=>Fm.rec (motive:=λ_=>AV) (λ_ _ _ _ _ _ _ _ x=>T2.rec (motive:=λ_=>AV) (λr0 _ _ _ _ _ _ _ _ _ _ _ _ _ _ _=>Row.rec (motive:=λ_=>AV) (λ_ _ _ _ _ _ _ _ _ _ _ _ _ b13 _ _=>b13) r0) x) t
noncomputable def e0_14 : GT:=λt=>Fm.rec (motive:=λ_=>AV) (λ_ _ _ _ _ _ _ _ x=>T2.rec (motive:=λ_=>AV) (λr0 _ _ _ _ _ _ _ _ _ _ _ _ _ _ _=>Row.rec (motive:=λ_=>AV) (λ_ _ _ _ _ _ _ _ _ _ _ _ _ _ b14 _=>b14) r0) x) t
noncomputable def e0_15 : GT:=λt=>Fm.rec (motive:=λ_=>AV) (λ_ _ _ _ _ _ _ _ x=>T2.rec (motive:=λ_=>AV) (λr0 _ _ _ _ _ _ _ _ _ _ _ _ _ _ _=>Row.rec (motive:=λ_=>AV) (λ_ _ _ _ _ _ _ _ _ _ _ _ _ _ _ b15=>b15) r0) x) t
noncomputable def e1_0 : GT:=λt=>Fm.rec (motive:=λ_=>AV) (λ_ _ _ _ _ _ _ _ x=>T2.rec (motive:=λ_=>AV) (λ_ r1 _ _ _ _ _ _ _ _ _ _ _ _ _ _=>Row.rec (motive:=λ_=>AV) (λb0 _ _ _ _ _ _ _ _ _ _ _ _ _ _ _=>b0) r1) x) t
noncomputable def e1_1 : GT:=λt=>Fm.rec (motive:=λ_=>AV) (λ_ _ _ _ _ _ _ _ x=>T2.rec (motive:=λ_=>AV) (λ_ r1 _ _ _ _ _ _ _ _ _ _ _ _ _ _=>Row.rec (motive:=λ_=>AV) (λ_ b1 _ _ _ _ _ _ _ _ _ _ _ _ _ _=>b1) r1) x) t
noncomputable def e1_2 : GT:=λt=>Fm.rec (motive:=λ_=>AV) (λ_ _ _ _ _ _ _ _ x=>T2.rec (motive:=λ_=>AV) (λ_ r1 _ _ _ _ _ _ _ _ _ _ _ _ _ _=>Row.rec (motive:=λ_=>AV) (λ_ _ b2 _ _ _ _ _ _ _ _ _ _ _ _ _=>b2) r1) x) t
noncomputable def e1_3 : GT:=λt=>Fm.rec (motive:=λ_=>AV) (λ_ _ _ _ _ _ _ _ x=>T2.rec (motive:=λ_=>AV) (λ_ r1 _ _ _ _ _ _ _ _ _ _ _ _ _ _=>Row.rec (motive:=λ_=>AV) (λ_ _ _ b3 _ _ _ _ _ _ _ _ _ _ _ _=>b3) r1) x) t
noncomputable def e1_4 : GT:=λt=>Fm.rec (motive:=λ_=>AV) (λ_ _ _ _ _ _ _ _ x=>T2.rec (motive:=λ_=>AV) (λ_ r1 _ _ _ _ _ _ _ _ _ _ _ _ _ _=>Row.rec (motive:=λ_=>AV) (λ_ _ _ _ b4 _ _ _ _ _ _ _ _ _ _ _=>b4) r1) x) t
noncomputable def e1_5 : GT:=λt=>Fm.rec (motive:=λ_=>AV) (λ_ _ _ _ _ _ _ _ x=>T2.rec (motive:=λ_=>AV) (λ_ r1 _ _ _ _ _ _ _ _ _ _ _ _ _ _=>Row.rec (motive:=λ_=>AV) (λ_ _ _ _ _ b5 _ _ _ _ _ _ _ _ _ _=>b5) r1) x) t
noncomputable def e1_6 : GT:=λt=>Fm.rec (motive:=λ_=>AV) (λ_ _ _ _ _ _ _ _ x=>T2.rec (motive:=λ_=>AV) (λ_ r1 _ _ _ _ _ _ _ _ _ _ _ _ _ _=>Row.rec (motive:=λ_=>AV) (λ_ _ _ _ _ _ b6 _ _ _ _ _ _ _ _ _=>b6) r1) x) t
noncomputable def e1_7 : GT:=λt=>Fm.rec (motive:=λ_=>AV) (λ_ _ _ _ _ _ _ _ x=>T2.rec (motive:=λ_=>AV) (λ_ r1 _ _ _ _ _ _ _ _ _ _ _ _ _ _=>Row.rec (motive:=λ_=>AV) (λ_ _ _ _ _ _ _ b7 _ _ _ _ _ _ _ _=>b7) r1) x) t
noncomputable def e1_8 : GT:=λt=>Fm.rec (motive:=λ_=>AV) (λ_ _ _ _ _ _ _ _ x=>T2.rec (motive:=λ_=>AV) (λ_ r1 _ _ _ _ _ _ _ _ _ _ _ _ _ _=>Row.rec (motive:=λ_=>AV) (λ_ _ _ _ _ _ _ _ b8 _ _ _ _ _ _ _=>b8) r1) x) t
noncomputable def e1_9 : GT:=λt=>Fm.rec (motive:=λ_=>AV) (λ_ _ _ _ _ _ _ _ x=>T2.rec (motive:=λ_=>AV) (λ_ r1 _ _ _ _ _ _ _ _ _ _ _ _ _ _=>Row.rec (motive:=λ_=>AV) (λ_ _ _ _ _ _ _ _ _ b9 _ _ _ _ _ _=>b9) r1) x) t
noncomputable def e1_10 : GT:=λt=>Fm.rec (motive:=λ_=>AV) (λ_ _ _ _ _ _ _ _ x=>T2.rec (motive:=λ_=>AV) (λ_ r1 _ _ _ _ _ _ _ _ _ _ _ _ _ _=>Row.rec (motive:=λ_=>AV) (λ_ _ _ _ _ _ _ _ _ _ b10 _ _ _ _ _=>b10) r1) x) t
noncomputable def e1_11 : GT:=λt=>Fm.rec (motive:=λ_=>AV) (λ_ _ _ _ _ _ _ _ x=>T2.rec (motive:=λ_=>AV) (λ_ r1 _ _ _ _ _ _ _ _ _ _ _ _ _ _=>Row.rec (motive:=λ_=>AV) (λ_ _ _ _ _ _ _ _ _ _ _ b11 _ _ _ _=>b11) r1) x) t
noncomputable def e1_12 : GT:=λt=>Fm.rec (motive:=λ_=>AV) (λ_ _ _ _ _ _ _ _ x=>T2.rec (motive:=λ_=>AV) (λ_ r1 _ _ _ _ _ _ _ _ _ _ _ _ _ _=>Row.rec (motive:=λ_=>AV) (λ_ _ _ _ _ _ _ _ _ _ _ _ b12 _ _ _=>b12) r1) x) t
noncomputable def e1_13 : GT:=λt=>Fm.rec (motive:=λ_=>AV) (λ_ _ _ _ _ _ _ _ x=>T2.rec (motive:=λ_=>AV) (λ_ r1 _ _ _ _ _ _ _ _ _ _ _ _ _ _=>Row.rec (motive:=λ_=>AV) (λ_ _ _ _ _ _ _ _ _ _ _ _ _ b13 _ _=>b13) r1) x) t
noncomputable def e1_14 : GT:=λt=>Fm.rec (motive:=λ_=>AV) (λ_ _ _ _ _ _ _ _ x=>T2.rec (motive:=λ_=>AV) (λ_ r1 _ _ _ _ _ _ _ _ _ _ _ _ _ _=>Row.rec (motive:=λ_=>AV) (λ_ _ _ _ _ _ _ _ _ _ _ _ _ _ b14 _=>b14) r1) x) t
noncomputable def e1_15 : GT:=λt=>Fm.rec (motive:=λ_=>AV) (λ_ _ _ _ _ _ _ _ x=>T2.rec (motive:=λ_=>AV) (λ_ r1 _ _ _ _ _ _ _ _ _ _ _ _ _ _=>Row.rec (motive:=λ_=>AV) (λ_ _ _ _ _ _ _ _ _ _ _ _ _ _ _ b15=>b15) r1) x) t
noncomputable def far (f : T2 → Row) (g : Row → AV) : GT:=λt=>Fm.rec (motive:=λ_=>AV) (λ_ _ _ _ _ _ _ _ x=>g (f x)) t
noncomputable def fr2 (x : T2) : Row:=T2.rec (motive:=λ_=>Row) (λ_ _ r2 _ _ _ _ _ _ _ _ _ _ _ _ _=>r2) x
noncomputable def fr3 (x : T2) : Row:=T2.rec (motive:=λ_=>Row) (λ_ _ _ r3 _ _ _ _ _ _ _ _ _ _ _ _=>r3) x
noncomputable def fr4 (x : T2) : Row:=T2.rec (motive:=λ_=>Row) (λ_ _ _ _ r4 _ _ _ _ _ _ _ _ _ _ _=>r4) x
noncomputable def fr5 (x : T2) : Row:=T2.rec (motive:=λ_=>Row) (λ_ _ _ _ _ r5 _ _ _ _ _ _ _ _ _ _=>r5) x
noncomputable def fr6 (x : T2) : Row:=T2.rec (motive:=λ_=>Row) (λ_ _ _ _ _ _ r6 _ _ _ _ _ _ _ _ _=>r6) x
noncomputable def fr7 (x : T2) : Row:=T2.rec (motive:=λ_=>Row) (λ_ _ _ _ _ _ _ r7 _ _ _ _ _ _ _ _=>r7) x
noncomputable def fr8 (x : T2) : Row:=T2.rec (motive:=λ_=>Row) (λ_ _ _ _ _ _ _ _ r8 _ _ _ _ _ _ _=>r8) x
noncomputable def fr9 (x : T2) : Row:=T2.rec (motive:=λ_=>Row) (λ_ _ _ _ _ _ _ _ _ r9 _ _ _ _ _ _=>r9) x
noncomputable def fr10 (x : T2) : Row:=T2.rec (motive:=λ_=>Row) (λ_ _ _ _ _ _ _ _ _ _ r10 _ _ _ _ _=>r10) x
noncomputable def fr11 (x : T2) : Row:=T2.rec (motive:=λ_=>Row) (λ_ _ _ _ _ _ _ _ _ _ _ r11 _ _ _ _=>r11) x
noncomputable def fr12 (x : T2) : Row:=T2.rec (motive:=λ_=>Row) (λ_ _ _ _ _ _ _ _ _ _ _ _ r12 _ _ _=>r12) x
noncomputable def fr13 (x : T2) : Row:=T2.rec (motive:=λ_=>Row) (λ_ _ _ _ _ _ _ _ _ _ _ _ _ r13 _ _=>r13) x
noncomputable def fr14 (x : T2) : Row:=T2.rec (motive:=λ_=>Row) (λ_ _ _ _ _ _ _ _ _ _ _ _ _ _ r14 _=>r14) x
noncomputable def fr15 (x : T2) : Row:=T2.rec (motive:=λ_=>Row) (λ_ _ _ _ _ _ _ _ _ _ _ _ _ _ _ r15=>r15) x
noncomputable def fc0 (x : Row) : AV:=Row.rec (motive:=λ_=>AV) (λb0 _ _ _ _ _ _ _ _ _ _ _ _ _ _ _=>b0) x
noncomputable def fc1 (x : Row) : AV:=Row.rec (motive:=λ_=>AV) (λ_ b1 _ _ _ _ _ _ _ _ _ _ _ _ _ _=>b1) x
noncomputable def fc2 (x : Row) : AV:=Row.rec (motive:=λ_=>AV) (λ_ _ b2 _ _ _ _ _ _ _ _ _ _ _ _ _=>b2) x
noncomputable def fc3 (x : Row) : AV:=Row.rec (motive:=λ_=>AV) (λ_ _ _ b3 _ _ _ _ _ _ _ _ _ _ _ _=>b3) x
noncomputable def fc4 (x : Row) : AV:=Row.rec (motive:=λ_=>AV) (λ_ _ _ _ b4 _ _ _ _ _ _ _ _ _ _ _=>b4) x
noncomputable def fc5 (x : Row) : AV:=Row.rec (motive:=λ_=>AV) (λ_ _ _ _ _ b5 _ _ _ _ _ _ _ _ _ _=>b5) x
noncomputable def fc6 (x : Row) : AV:=Row.rec (motive:=λ_=>AV) (λ_ _ _ _ _ _ b6 _ _ _ _ _ _ _ _ _=>b6) x
noncomputable def fc7 (x : Row) : AV:=Row.rec (motive:=λ_=>AV) (λ_ _ _ _ _ _ _ b7 _ _ _ _ _ _ _ _=>b7) x
noncomputable def fc8 (x : Row) : AV:=Row.rec (motive:=λ_=>AV) (λ_ _ _ _ _ _ _ _ b8 _ _ _ _ _ _ _=>b8) x
noncomputable def fc9 (x : Row) : AV:=Row.rec (motive:=λ_=>AV) (λ_ _ _ _ _ _ _ _ _ b9 _ _ _ _ _ _=>b9) x
noncomputable def fc10 (x : Row) : AV:=Row.rec (motive:=λ_=>AV) (λ_ _ _ _ _ _ _ _ _ _ b10 _ _ _ _ _=>b10) x
noncomputable def fc11 (x : Row) : AV:=Row.rec (motive:=λ_=>AV) (λ_ _ _ _ _ _ _ _ _ _ _ b11 _ _ _ _=>b11) x
noncomputable def fc12 (x : Row) : AV:=Row.rec (motive:=λ_=>AV) (λ_ _ _ _ _ _ _ _ _ _ _ _ b12 _ _ _=>b12) x
noncomputable def fc13 (x : Row) : AV:=Row.rec (motive:=λ_=>AV) (λ_ _ _ _ _ _ _ _ _ _ _ _ _ b13 _ _=>b13) x
noncomputable def fc14 (x : Row) : AV:=Row.rec (motive:=λ_=>AV) (λ_ _ _ _ _ _ _ _ _ _ _ _ _ _ b14 _=>b14) x
noncomputable def fc15 (x : Row) : AV:=Row.rec (motive:=λ_=>AV) (λ_ _ _ _ _ _ _ _ _ _ _ _ _ _ _ b15=>b15) x
noncomputable def e2_0:=far fr2 fc0
noncomputable def e2_1:=far fr2 fc1
noncomputable def e2_2:=far fr2 fc2
noncomputable def e2_3:=far fr2 fc3
noncomputable def e2_4:=far fr2 fc4
noncomputable def e2_5:=far fr2 fc5
noncomputable def e2_6:=far fr2 fc6
noncomputable def e2_7:=far fr2 fc7
noncomputable def e2_8:=far fr2 fc8
noncomputable def e2_9:=far fr2 fc9
noncomputable def e2_10:=far fr2 fc10
noncomputable def e2_11:=far fr2 fc11
noncomputable def e2_12:=far fr2 fc12
noncomputable def e2_13:=far fr2 fc13
noncomputable def e2_14:=far fr2 fc14
noncomputable def e2_15:=far fr2 fc15
noncomputable def e3_0:=far fr3 fc0
noncomputable def e3_1:=far fr3 fc1
noncomputable def e3_2:=far fr3 fc2
noncomputable def e3_3:=far fr3 fc3
noncomputable def e3_4:=far fr3 fc4
noncomputable def e3_5:=far fr3 fc5
noncomputable def e3_6:=far fr3 fc6
noncomputable def e3_7:=far fr3 fc7
noncomputable def e3_8:=far fr3 fc8
noncomputable def e3_9:=far fr3 fc9
noncomputable def e3_10:=far fr3 fc10
noncomputable def e3_11:=far fr3 fc11
noncomputable def e3_12:=far fr3 fc12
noncomputable def e3_13:=far fr3 fc13
noncomputable def e3_14:=far fr3 fc14
noncomputable def e3_15:=far fr3 fc15
noncomputable def e4_0:=far fr4 fc0
noncomputable def e4_1:=far fr4 fc1
noncomputable def e4_2:=far fr4 fc2
noncomputable def e4_3:=far fr4 fc3
noncomputable def e4_4:=far fr4 fc4
noncomputable def e4_5:=far fr4 fc5
noncomputable def e4_6:=far fr4 fc6
noncomputable def e4_7:=far fr4 fc7
noncomputable def e4_8:=far fr4 fc8
noncomputable def e4_9:=far fr4 fc9
noncomputable def e4_10:=far fr4 fc10
noncomputable def e4_11:=far fr4 fc11
noncomputable def e4_12:=far fr4 fc12
noncomputable def e4_13:=far fr4 fc13
noncomputable def e4_14:=far fr4 fc14
noncomputable def e4_15:=far fr4 fc15
noncomputable def e5_0:=far fr5 fc0
noncomputable def e5_1:=far fr5 fc1
noncomputable def e5_2:=far fr5 fc2
noncomputable def e5_3:=far fr5 fc3
noncomputable def e5_4:=far fr5 fc4
noncomputable def e5_5:=far fr5 fc5
noncomputable def e5_6:=far fr5 fc6
noncomputable def e5_7:=far fr5 fc7
noncomputable def e5_8:=far fr5 fc8
noncomputable def e5_9:=far fr5 fc9
noncomputable def e5_10:=far fr5 fc10
noncomputable def e5_11:=far fr5 fc11
noncomputable def e5_12:=far fr5 fc12
noncomputable def e5_13:=far fr5 fc13
noncomputable def e5_14:=far fr5 fc14
noncomputable def e5_15:=far fr5 fc15
noncomputable def e6_0:=far fr6 fc0
noncomputable def e6_1:=far fr6 fc1
noncomputable def e6_2:=far fr6 fc2
noncomputable def e6_3:=far fr6 fc3
noncomputable def e6_4:=far fr6 fc4
noncomputable def e6_5:=far fr6 fc5
noncomputable def e6_6:=far fr6 fc6
noncomputable def e6_7:=far fr6 fc7
noncomputable def e6_8:=far fr6 fc8
noncomputable def e6_9:=far fr6 fc9
noncomputable def e6_10:=far fr6 fc10
noncomputable def e6_11:=far fr6 fc11
noncomputable def e6_12:=far fr6 fc12
noncomputable def e6_13:=far fr6 fc13
noncomputable def e6_14:=far fr6 fc14
noncomputable def e6_15:=far fr6 fc15
noncomputable def e7_0:=far fr7 fc0
noncomputable def e7_1:=far fr7 fc1
noncomputable def e7_2:=far fr7 fc2
noncomputable def e7_3:=far fr7 fc3
noncomputable def e7_4:=far fr7 fc4
noncomputable def e7_5:=far fr7 fc5
noncomputable def e7_6:=far fr7 fc6
noncomputable def e7_7:=far fr7 fc7
noncomputable def e7_8:=far fr7 fc8
noncomputable def e7_9:=far fr7 fc9
noncomputable def e7_10:=far fr7 fc10
noncomputable def e7_11:=far fr7 fc11
noncomputable def e7_12:=far fr7 fc12
noncomputable def e7_13:=far fr7 fc13
noncomputable def e7_14:=far fr7 fc14
noncomputable def e7_15:=far fr7 fc15
noncomputable def e8_0:=far fr8 fc0
noncomputable def e8_1:=far fr8 fc1
noncomputable def e8_2:=far fr8 fc2
noncomputable def e8_3:=far fr8 fc3
noncomputable def e8_4:=far fr8 fc4
noncomputable def e8_5:=far fr8 fc5
noncomputable def e8_6:=far fr8 fc6
noncomputable def e8_7:=far fr8 fc7
noncomputable def e8_8:=far fr8 fc8
noncomputable def e8_9:=far fr8 fc9
noncomputable def e8_10:=far fr8 fc10
noncomputable def e8_11:=far fr8 fc11
noncomputable def e8_12:=far fr8 fc12
noncomputable def e8_13:=far fr8 fc13
noncomputable def e8_14:=far fr8 fc14
noncomputable def e8_15:=far fr8 fc15
noncomputable def e9_0:=far fr9 fc0
noncomputable def e9_1:=far fr9 fc1
noncomputable def e9_2:=far fr9 fc2
noncomputable def e9_3:=far fr9 fc3
noncomputable def e9_4:=far fr9 fc4
noncomputable def e9_5:=far fr9 fc5
noncomputable def e9_6:=far fr9 fc6
noncomputable def e9_7:=far fr9 fc7
noncomputable def e9_8:=far fr9 fc8
noncomputable def e9_9:=far fr9 fc9
noncomputable def e9_10:=far fr9 fc10
noncomputable def e9_11:=far fr9 fc11
noncomputable def e9_12:=far fr9 fc12
noncomputable def e9_13:=far fr9 fc13
noncomputable def e9_14:=far fr9 fc14
noncomputable def e9_15:=far fr9 fc15
noncomputable def e10_0:=far fr10 fc0
noncomputable def e10_1:=far fr10 fc1
noncomputable def e10_2:=far fr10 fc2
noncomputable def e10_3:=far fr10 fc3
noncomputable def e10_4:=far fr10 fc4
noncomputable def e10_5:=far fr10 fc5
noncomputable def e10_6:=far fr10 fc6
noncomputable def e10_7:=far fr10 fc7
noncomputable def e10_8:=far fr10 fc8
noncomputable def e10_9:=far fr10 fc9
noncomputable def e10_10:=far fr10 fc10
noncomputable def e10_11:=far fr10 fc11
noncomputable def e10_12:=far fr10 fc12
noncomputable def e10_13:=far fr10 fc13
noncomputable def e10_14:=far fr10 fc14
noncomputable def e10_15:=far fr10 fc15
noncomputable def e11_0:=far fr11 fc0
noncomputable def e11_1:=far fr11 fc1
noncomputable def e11_2:=far fr11 fc2
noncomputable def e11_3:=far fr11 fc3
noncomputable def e11_4:=far fr11 fc4
noncomputable def e11_5:=far fr11 fc5
noncomputable def e11_6:=far fr11 fc6
noncomputable def e11_7:=far fr11 fc7
noncomputable def e11_8:=far fr11 fc8
noncomputable def e11_9:=far fr11 fc9
noncomputable def e11_10:=far fr11 fc10
noncomputable def e11_11:=far fr11 fc11
noncomputable def e11_12:=far fr11 fc12
noncomputable def e11_13:=far fr11 fc13
noncomputable def e11_14:=far fr11 fc14
noncomputable def e11_15:=far fr11 fc15
noncomputable def e12_0:=far fr12 fc0
noncomputable def e12_1:=far fr12 fc1
noncomputable def e12_2:=far fr12 fc2
noncomputable def e12_3:=far fr12 fc3
noncomputable def e12_4:=far fr12 fc4
noncomputable def e12_5:=far fr12 fc5
noncomputable def e12_6:=far fr12 fc6
noncomputable def e12_7:=far fr12 fc7
noncomputable def e12_8:=far fr12 fc8
noncomputable def e12_9:=far fr12 fc9
noncomputable def e12_10:=far fr12 fc10
noncomputable def e12_11:=far fr12 fc11
noncomputable def e12_12:=far fr12 fc12
noncomputable def e12_13:=far fr12 fc13
noncomputable def e12_14:=far fr12 fc14
noncomputable def e12_15:=far fr12 fc15
noncomputable def e13_0:=far fr13 fc0
noncomputable def e13_1:=far fr13 fc1
noncomputable def e13_2:=far fr13 fc2
noncomputable def e13_3:=far fr13 fc3
noncomputable def e13_4:=far fr13 fc4
noncomputable def e13_5:=far fr13 fc5
noncomputable def e13_6:=far fr13 fc6
noncomputable def e13_7:=far fr13 fc7
noncomputable def e13_8:=far fr13 fc8
noncomputable def e13_9:=far fr13 fc9
noncomputable def e13_10:=far fr13 fc10
noncomputable def e13_11:=far fr13 fc11
noncomputable def e13_12:=far fr13 fc12
noncomputable def e13_13:=far fr13 fc13
noncomputable def e13_14:=far fr13 fc14
noncomputable def e13_15:=far fr13 fc15
noncomputable def e14_0:=far fr14 fc0
noncomputable def e14_1:=far fr14 fc1
noncomputable def e14_2:=far fr14 fc2
noncomputable def e14_3:=far fr14 fc3
noncomputable def e14_4:=far fr14 fc4
noncomputable def e14_5:=far fr14 fc5
noncomputable def e14_6:=far fr14 fc6
noncomputable def e14_7:=far fr14 fc7
noncomputable def e14_8:=far fr14 fc8
noncomputable def e14_9:=far fr14 fc9
noncomputable def e14_10:=far fr14 fc10
noncomputable def e14_11:=far fr14 fc11
noncomputable def e14_12:=far fr14 fc12
noncomputable def e14_13:=far fr14 fc13
noncomputable def e14_14:=far fr14 fc14
noncomputable def e14_15:=far fr14 fc15
noncomputable def e15_0:=far fr15 fc0
noncomputable def e15_1:=far fr15 fc1
noncomputable def e15_2:=far fr15 fc2
noncomputable def e15_3:=far fr15 fc3
noncomputable def e15_4:=far fr15 fc4
noncomputable def e15_5:=far fr15 fc5
noncomputable def e15_6:=far fr15 fc6
noncomputable def e15_7:=far fr15 fc7
noncomputable def e15_8:=far fr15 fc8
noncomputable def e15_9:=far fr15 fc9
noncomputable def e15_10:=far fr15 fc10
noncomputable def e15_11:=far fr15 fc11
noncomputable def e15_12:=far fr15 fc12
noncomputable def e15_13:=far fr15 fc13
noncomputable def e15_14:=far fr15 fc14
noncomputable def e15_15:=far fr15 fc15
noncomputable def put2 (i j : S16) : ST:=λt v k=>Fm.rec (motive:=λ_=>AV → (Fm → RR) → RR) (λa0 a1 a2 a3 a4 a5 a6 a7 x v k=>set2 i j x v λx=>k (.mk a0 a1 a2 a3 a4 a5 a6 a7 x)) t v k
noncomputable def se0_0:=put2 .s0 .s0
noncomputable def se0_1:=put2 .s0 .s1
noncomputable def se0_2:=put2 .s0 .s2
noncomputable def se0_3:=put2 .s0 .s3
noncomputable def se0_4:=put2 .s0 .s4
noncomputable def se0_5:=put2 .s0 .s5
noncomputable def se0_6:=put2 .s0 .s6
noncomputable def se0_7:=put2 .s0 .s7
noncomputable def se0_8:=put2 .s0 .s8
noncomputable def se0_9:=put2 .s0 .s9
noncomputable def se0_10:=put2 .s0 .s10
noncomputable def se0_11:=put2 .s0 .s11
noncomputable def se0_12:=put2 .s0 .s12
noncomputable def se0_13:=put2 .s0 .s13
noncomputable def se0_14:=put2 .s0 .s14
noncomputable def se0_15:=put2 .s0 .s15
noncomputable def se1_0:=put2 .s1 .s0
noncomputable def se1_1:=put2 .s1 .s1
noncomputable def se1_2:=put2 .s1 .s2
noncomputable def se1_3:=put2 .s1 .s3
noncomputable def se1_4:=put2 .s1 .s4
noncomputable def se1_5:=put2 .s1 .s5
noncomputable def se1_6:=put2 .s1 .s6
noncomputable def se1_7:=put2 .s1 .s7
noncomputable def se1_8:=put2 .s1 .s8
noncomputable def se1_9:=put2 .s1 .s9
noncomputable def se1_10:=put2 .s1 .s10
noncomputable def se1_11:=put2 .s1 .s11
noncomputable def se1_12:=put2 .s1 .s12
noncomputable def se1_13:=put2 .s1 .s13
noncomputable def se1_14:=put2 .s1 .s14
noncomputable def se1_15:=put2 .s1 .s15
noncomputable def se2_0:=put2 .s2 .s0
noncomputable def se2_1:=put2 .s2 .s1
noncomputable def se2_2:=put2 .s2 .s2
noncomputable def se2_3:=put2 .s2 .s3
noncomputable def se2_4:=put2 .s2 .s4
noncomputable def se2_5:=put2 .s2 .s5
noncomputable def se2_6:=put2 .s2 .s6
noncomputable def se2_7:=put2 .s2 .s7
noncomputable def se2_8:=put2 .s2 .s8
noncomputable def se2_9:=put2 .s2 .s9
noncomputable def se2_10:=put2 .s2 .s10
noncomputable def se2_11:=put2 .s2 .s11
noncomputable def se2_12:=put2 .s2 .s12
noncomputable def se2_13:=put2 .s2 .s13
noncomputable def se2_14:=put2 .s2 .s14
noncomputable def se2_15:=put2 .s2 .s15
noncomputable def se3_0:=put2 .s3 .s0
noncomputable def se3_1:=put2 .s3 .s1
noncomputable def se3_2:=put2 .s3 .s2
noncomputable def se3_3:=put2 .s3 .s3
noncomputable def se3_4:=put2 .s3 .s4
noncomputable def se3_5:=put2 .s3 .s5
noncomputable def se3_6:=put2 .s3 .s6
noncomputable def se3_7:=put2 .s3 .s7
noncomputable def se3_8:=put2 .s3 .s8
noncomputable def se3_9:=put2 .s3 .s9
noncomputable def se3_10:=put2 .s3 .s10
noncomputable def se3_11:=put2 .s3 .s11
noncomputable def se3_12:=put2 .s3 .s12
noncomputable def se3_13:=put2 .s3 .s13
noncomputable def se3_14:=put2 .s3 .s14
noncomputable def se3_15:=put2 .s3 .s15
noncomputable def se4_0:=put2 .s4 .s0
noncomputable def se4_1:=put2 .s4 .s1
noncomputable def se4_2:=put2 .s4 .s2
noncomputable def se4_3:=put2 .s4 .s3
noncomputable def se4_4:=put2 .s4 .s4
noncomputable def se4_5:=put2 .s4 .s5
noncomputable def se4_6:=put2 .s4 .s6
noncomputable def se4_7:=put2 .s4 .s7
noncomputable def se4_8:=put2 .s4 .s8
noncomputable def se4_9:=put2 .s4 .s9
noncomputable def se4_10:=put2 .s4 .s10
noncomputable def se4_11:=put2 .s4 .s11
noncomputable def se4_12:=put2 .s4 .s12
noncomputable def se4_13:=put2 .s4 .s13
noncomputable def se4_14:=put2 .s4 .s14
noncomputable def se4_15:=put2 .s4 .s15
noncomputable def se5_0:=put2 .s5 .s0
noncomputable def se5_1:=put2 .s5 .s1
noncomputable def se5_2:=put2 .s5 .s2
noncomputable def se5_3:=put2 .s5 .s3
noncomputable def se5_4:=put2 .s5 .s4
noncomputable def se5_5:=put2 .s5 .s5
noncomputable def se5_6:=put2 .s5 .s6
noncomputable def se5_7:=put2 .s5 .s7
noncomputable def se5_8:=put2 .s5 .s8
noncomputable def se5_9:=put2 .s5 .s9
noncomputable def se5_10:=put2 .s5 .s10
noncomputable def se5_11:=put2 .s5 .s11
noncomputable def se5_12:=put2 .s5 .s12
noncomputable def se5_13:=put2 .s5 .s13
noncomputable def se5_14:=put2 .s5 .s14
noncomputable def se5_15:=put2 .s5 .s15
noncomputable def se6_0:=put2 .s6 .s0
noncomputable def se6_1:=put2 .s6 .s1
noncomputable def se6_2:=put2 .s6 .s2
noncomputable def se6_3:=put2 .s6 .s3
noncomputable def se6_4:=put2 .s6 .s4
noncomputable def se6_5:=put2 .s6 .s5
noncomputable def se6_6:=put2 .s6 .s6
noncomputable def se6_7:=put2 .s6 .s7
noncomputable def se6_8:=put2 .s6 .s8
noncomputable def se6_9:=put2 .s6 .s9
noncomputable def se6_10:=put2 .s6 .s10
noncomputable def se6_11:=put2 .s6 .s11
noncomputable def se6_12:=put2 .s6 .s12
noncomputable def se6_13:=put2 .s6 .s13
noncomputable def se6_14:=put2 .s6 .s14
noncomputable def se6_15:=put2 .s6 .s15
noncomputable def se7_0:=put2 .s7 .s0
noncomputable def se7_1:=put2 .s7 .s1
noncomputable def se7_2:=put2 .s7 .s2
noncomputable def se7_3:=put2 .s7 .s3
noncomputable def se7_4:=put2 .s7 .s4
noncomputable def se7_5:=put2 .s7 .s5
noncomputable def se7_6:=put2 .s7 .s6
noncomputable def se7_7:=put2 .s7 .s7
noncomputable def se7_8:=put2 .s7 .s8
noncomputable def se7_9:=put2 .s7 .s9
noncomputable def se7_10:=put2 .s7 .s10
noncomputable def se7_11:=put2 .s7 .s11
noncomputable def se7_12:=put2 .s7 .s12
noncomputable def se7_13:=put2 .s7 .s13
noncomputable def se7_14:=put2 .s7 .s14
noncomputable def se7_15:=put2 .s7 .s15
noncomputable def se8_0:=put2 .s8 .s0
noncomputable def se8_1:=put2 .s8 .s1
noncomputable def se8_2:=put2 .s8 .s2
noncomputable def se8_3:=put2 .s8 .s3
noncomputable def se8_4:=put2 .s8 .s4
noncomputable def se8_5:=put2 .s8 .s5
noncomputable def se8_6:=put2 .s8 .s6
noncomputable def se8_7:=put2 .s8 .s7
noncomputable def se8_8:=put2 .s8 .s8
noncomputable def se8_9:=put2 .s8 .s9
noncomputable def se8_10:=put2 .s8 .s10
noncomputable def se8_11:=put2 .s8 .s11
noncomputable def se8_12:=put2 .s8 .s12
noncomputable def se8_13:=put2 .s8 .s13
noncomputable def se8_14:=put2 .s8 .s14
noncomputable def se8_15:=put2 .s8 .s15
noncomputable def se9_0:=put2 .s9 .s0
noncomputable def se9_1:=put2 .s9 .s1
noncomputable def se9_2:=put2 .s9 .s2
noncomputable def se9_3:=put2 .s9 .s3
noncomputable def se9_4:=put2 .s9 .s4
noncomputable def se9_5:=put2 .s9 .s5
noncomputable def se9_6:=put2 .s9 .s6
noncomputable def se9_7:=put2 .s9 .s7
noncomputable def se9_8:=put2 .s9 .s8
noncomputable def se9_9:=put2 .s9 .s9
noncomputable def se9_10:=put2 .s9 .s10
noncomputable def se9_11:=put2 .s9 .s11
noncomputable def se9_12:=put2 .s9 .s12
noncomputable def se9_13:=put2 .s9 .s13
noncomputable def se9_14:=put2 .s9 .s14
noncomputable def se9_15:=put2 .s9 .s15
noncomputable def se10_0:=put2 .s10 .s0
noncomputable def se10_1:=put2 .s10 .s1
noncomputable def se10_2:=put2 .s10 .s2
noncomputable def se10_3:=put2 .s10 .s3
noncomputable def se10_4:=put2 .s10 .s4
noncomputable def se10_5:=put2 .s10 .s5
noncomputable def se10_6:=put2 .s10 .s6
noncomputable def se10_7:=put2 .s10 .s7
noncomputable def se10_8:=put2 .s10 .s8
noncomputable def se10_9:=put2 .s10 .s9
noncomputable def se10_10:=put2 .s10 .s10
noncomputable def se10_11:=put2 .s10 .s11
noncomputable def se10_12:=put2 .s10 .s12
noncomputable def se10_13:=put2 .s10 .s13
noncomputable def se10_14:=put2 .s10 .s14
noncomputable def se10_15:=put2 .s10 .s15
noncomputable def se11_0:=put2 .s11 .s0
noncomputable def se11_1:=put2 .s11 .s1
noncomputable def se11_2:=put2 .s11 .s2
noncomputable def se11_3:=put2 .s11 .s3
noncomputable def se11_4:=put2 .s11 .s4
noncomputable def se11_5:=put2 .s11 .s5
noncomputable def se11_6:=put2 .s11 .s6
noncomputable def se11_7:=put2 .s11 .s7
noncomputable def se11_8:=put2 .s11 .s8
noncomputable def se11_9:=put2 .s11 .s9
noncomputable def se11_10:=put2 .s11 .s10
noncomputable def se11_11:=put2 .s11 .s11
noncomputable def se11_12:=put2 .s11 .s12
noncomputable def se11_13:=put2 .s11 .s13
noncomputable def se11_14:=put2 .s11 .s14
noncomputable def se11_15:=put2 .s11 .s15
noncomputable def se12_0:=put2 .s12 .s0
noncomputable def se12_1:=put2 .s12 .s1
noncomputable def se12_2:=put2 .s12 .s2
noncomputable def se12_3:=put2 .s12 .s3
noncomputable def se12_4:=put2 .s12 .s4
noncomputable def se12_5:=put2 .s12 .s5
noncomputable def se12_6:=put2 .s12 .s6
noncomputable def se12_7:=put2 .s12 .s7
noncomputable def se12_8:=put2 .s12 .s8
noncomputable def se12_9:=put2 .s12 .s9
noncomputable def se12_10:=put2 .s12 .s10
noncomputable def se12_11:=put2 .s12 .s11
noncomputable def se12_12:=put2 .s12 .s12
noncomputable def se12_13:=put2 .s12 .s13
noncomputable def se12_14:=put2 .s12 .s14
noncomputable def se12_15:=put2 .s12 .s15
noncomputable def se13_0:=put2 .s13 .s0
noncomputable def se13_1:=put2 .s13 .s1
noncomputable def se13_2:=put2 .s13 .s2
noncomputable def se13_3:=put2 .s13 .s3
noncomputable def se13_4:=put2 .s13 .s4
noncomputable def se13_5:=put2 .s13 .s5
noncomputable def se13_6:=put2 .s13 .s6
noncomputable def se13_7:=put2 .s13 .s7
noncomputable def se13_8:=put2 .s13 .s8
noncomputable def se13_9:=put2 .s13 .s9
noncomputable def se13_10:=put2 .s13 .s10
noncomputable def se13_11:=put2 .s13 .s11
noncomputable def se13_12:=put2 .s13 .s12
noncomputable def se13_13:=put2 .s13 .s13
noncomputable def se13_14:=put2 .s13 .s14
noncomputable def se13_15:=put2 .s13 .s15
noncomputable def se14_0:=put2 .s14 .s0
noncomputable def se14_1:=put2 .s14 .s1
noncomputable def se14_2:=put2 .s14 .s2
noncomputable def se14_3:=put2 .s14 .s3
noncomputable def se14_4:=put2 .s14 .s4
noncomputable def se14_5:=put2 .s14 .s5
noncomputable def se14_6:=put2 .s14 .s6
noncomputable def se14_7:=put2 .s14 .s7
noncomputable def se14_8:=put2 .s14 .s8
noncomputable def se14_9:=put2 .s14 .s9
noncomputable def se14_10:=put2 .s14 .s10
noncomputable def se14_11:=put2 .s14 .s11
noncomputable def se14_12:=put2 .s14 .s12
noncomputable def se14_13:=put2 .s14 .s13
noncomputable def se14_14:=put2 .s14 .s14
noncomputable def se14_15:=put2 .s14 .s15
noncomputable def se15_0:=put2 .s15 .s0
noncomputable def se15_1:=put2 .s15 .s1
noncomputable def se15_2:=put2 .s15 .s2
noncomputable def se15_3:=put2 .s15 .s3
noncomputable def se15_4:=put2 .s15 .s4
noncomputable def se15_5:=put2 .s15 .s5
noncomputable def se15_6:=put2 .s15 .s6
noncomputable def se15_7:=put2 .s15 .s7
noncomputable def se15_8:=put2 .s15 .s8
noncomputable def se15_9:=put2 .s15 .s9
noncomputable def se15_10:=put2 .s15 .s10
noncomputable def se15_11:=put2 .s15 .s11
noncomputable def se15_12:=put2 .s15 .s12
noncomputable def se15_13:=put2 .s15 .s13
noncomputable def se15_14:=put2 .s15 .s14
noncomputable def se15_15:=put2 .s15 .s15
noncomputable def fAV (v : AV) (k : AV → RR) : RR:=AV.rec (motive:=λ_=>(AV → RR) → RR) (λs k=>k (.one s)) (λl k=>k (.ag l)) (λl k=>k (.tp l)) v k
noncomputable def keq (a b : IntKind) : Bool:=IntKind.rec (motive:=λ_=>IntKind → Bool)
  (λb=>IntKind.rec (motive:=λ_=>Bool) true false false false false false false false b)
  (λb=>IntKind.rec (motive:=λ_=>Bool) false true false false false false false false b)
  (λb=>IntKind.rec (motive:=λ_=>Bool) false false true false false false false false b)
  (λb=>IntKind.rec (motive:=λ_=>Bool) false false false true false false false false b)
  (λb=>IntKind.rec (motive:=λ_=>Bool) false false false false true false false false b)
  (λb=>IntKind.rec (motive:=λ_=>Bool) false false false false false true false false b)
  (λb=>IntKind.rec (motive:=λ_=>Bool) false false false false false false true false b)
  (λb=>IntKind.rec (motive:=λ_=>Bool) false false false false false false false true b)
  a b
noncomputable def lim (a : IntKind) : Nat:=IntKind.rec (motive:=λ_=>Nat) 127 32767 2147483647 9223372036854775807 255 65535 4294967295 18446744073709551615 a
noncomputable def ltF (a b : Int) : Bool:=Int.rec (motive:=λ_=>Int → Bool)
  (λm b=>Int.rec (motive:=λ_=>Nat → Bool) (λn m=>Nat.ble (Nat.succ m) n) (λ_ _=>false) b m)
  (λm b=>Int.rec (motive:=λ_=>Nat → Bool) (λ_ _=>true) (λn m=>Nat.ble (Nat.succ n) m) b m) a b
noncomputable def eqF (a b : Int) : Bool:=Int.rec (motive:=λ_=>Int → Bool)
  (λm b=>Int.rec (motive:=λ_=>Nat → Bool) (λn m=>Nat.beq m n) (λ_ _=>false) b m)
  (λm b=>Int.rec (motive:=λ_=>Nat → Bool) (λ_ _=>false) (λn m=>Nat.beq m n) b m) a b
noncomputable def fitN (s : Nat) (kd : IntKind) (no : RR) (k : Int → RR) : RR :=
  Nat.rec (motive:=λ_=>IntKind → RR → (Int → RR) → RR) (λ_ _ k=>k (Int.ofNat 0)) (λp _ kd no k=>Bool.rec (motive:=λ_=>RR) no (k (Int.ofNat (Nat.succ p))) (Nat.ble (Nat.succ p) (lim kd))) s kd no k
noncomputable def addF (a b : Int) (kd : IntKind) (no : RR) (k : Int → RR) : RR:=Int.rec (motive:=λ_=>Int → IntKind → RR → (Int → RR) → RR)
  (λm b kd no k=>Int.rec (motive:=λ_=>Nat → IntKind → RR → (Int → RR) → RR) (λn m kd no k=>fitN (Nat.add m n) kd no k) (λ_ _ _ no _=>no) b m kd no k)
  (λ_ _ _ no _=>no) a b kd no k
noncomputable def subF (a b : Int) (kd : IntKind) (no : RR) (k : Int → RR) : RR:=Int.rec (motive:=λ_=>Int → IntKind → RR → (Int → RR) → RR)
  (λm b kd no k=>Int.rec (motive:=λ_=>Nat → IntKind → RR → (Int → RR) → RR) (λn m kd no k=>Bool.rec (motive:=λ_=>RR) no (fitN (Nat.sub m n) kd no k) (Nat.ble n m)) (λ_ _ _ no _=>no) b m kd no k)
  (λ_ _ _ no _=>no) a b kd no k
noncomputable def yesF (b : Bool) (k : AV → RR) : RR:=Bool.rec (motive:=λ_=>(AV → RR) → RR) (λk=>k (.one (.bool false))) (λk=>k (.one (.bool true))) b k
noncomputable def notF (b : Bool) (k : AV → RR) : RR:=Bool.rec (motive:=λ_=>(AV → RR) → RR) (λk=>k (.one (.bool true))) (λk=>k (.one (.bool false))) b k
noncomputable def anyBin (op : BinOp) (x y : AV) (orc : Orc RR) (k : AV → RR) : RR:=oBin orc zz [] [] 0 op (.c x) (.c y) λv _ _=>k v
noncomputable def p1_add (kd : IntKind) (a : Int) (y : AV) (orc : Orc RR) (k : AV → RR) : RR := AV.rec (motive := fun _ => IntKind → Int → Orc RR → (AV → RR) → RR)
    (λs kd a orc k=>SV.rec (motive:=λ_=>IntKind → Int → Orc RR → (AV → RR) → RR)
      (λ_ _ _ _=>zz)
      (λkd' b kd a _ k=>Bool.rec (motive:=λ_=>RR) zz (addF a b kd (binI .add kd a b zz λr=>k (.one r)) λx=>k (.one (.int kd x))) (keq kd kd'))
      (λ_ _ _ _ _=>zz)
      (λ_ _ _ _ _ _=>zz)
      (λ_ _ _ _=>zz)
      (λ_ _ _ _=>zz)
      (λ_ _ _ _=>zz)
      (λ_ _ _ _ _ _=>zz)
      (λ_ _ _ _ _ _ _ _ _=>zz)
      (λ_ _ _ _=>zz)
      (λ_ _ _ _=>zz)
      (λ_ _ _ _ _ _=>zz)
      (λkd' j kd a orc k=>anyBin .add (.one (.int kd a)) (.one (.sym kd' j)) orc k)
      (λ_ _ _ _=>zz)
      (λ_ _ _ _ _=>zz)
      (λ_ _ _ _=>zz)
      (λ_ _ _ _ _=>zz) s kd a orc k)
    (λ_ _ _ _ _=>zz) (λ_ _ _ _ _=>zz) y kd a orc k
noncomputable def p_add (x y : AV) (orc : Orc RR) (k : AV → RR) : RR := AV.rec (motive := fun _ => AV → Orc RR → (AV → RR) → RR)
    (λs y orc k=>SV.rec (motive:=λ_=>AV → Orc RR → (AV → RR) → RR)
      (λ_ _ _=>zz)
      (λkd a y orc k=>p1_add kd a y orc k)
      (λ_ _ _ _=>zz)
      (λ_ _ _ _ _=>zz)
      (λ_ _ _=>zz)
      (λ_ _ _=>zz)
      (λ_ _ _=>zz)
      (λ_ _ _ _ _=>zz)
      (λ_ _ _ _ _ _ _ _=>zz)
      (λ_ _ _=>zz)
      (λ_ _ _=>zz)
      (λ_ _ _ _ _=>zz)
      (λkd i y orc k=>anyBin .add (.one (.sym kd i)) y orc k)
      (λ_ _ _=>zz)
      (λ_ _ _ _=>zz)
      (λ_ _ _=>zz)
      (λ_ _ _ _=>zz) s y orc k)
    (λ_ _ _ _=>zz) (λ_ _ _ _=>zz) x y orc k
noncomputable def p1_sub (kd : IntKind) (a : Int) (y : AV) (orc : Orc RR) (k : AV → RR) : RR := AV.rec (motive := fun _ => IntKind → Int → Orc RR → (AV → RR) → RR)
    (λs kd a orc k=>SV.rec (motive:=λ_=>IntKind → Int → Orc RR → (AV → RR) → RR)
      (λ_ _ _ _=>zz)
      (λkd' b kd a _ k=>Bool.rec (motive:=λ_=>RR) zz (subF a b kd (binI .sub kd a b zz λr=>k (.one r)) λx=>k (.one (.int kd x))) (keq kd kd'))
      (λ_ _ _ _ _=>zz)
      (λ_ _ _ _ _ _=>zz)
      (λ_ _ _ _=>zz)
      (λ_ _ _ _=>zz)
      (λ_ _ _ _=>zz)
      (λ_ _ _ _ _ _=>zz)
      (λ_ _ _ _ _ _ _ _ _=>zz)
      (λ_ _ _ _=>zz)
      (λ_ _ _ _=>zz)
      (λ_ _ _ _ _ _=>zz)
      (λkd' j kd a orc k=>anyBin .sub (.one (.int kd a)) (.one (.sym kd' j)) orc k)
      (λ_ _ _ _=>zz)
      (λ_ _ _ _ _=>zz)
      (λ_ _ _ _=>zz)
      (λ_ _ _ _ _=>zz) s kd a orc k)
    (λ_ _ _ _ _=>zz) (λ_ _ _ _ _=>zz) y kd a orc k
noncomputable def p_sub (x y : AV) (orc : Orc RR) (k : AV → RR) : RR := AV.rec (motive := fun _ => AV → Orc RR → (AV → RR) → RR)
    (λs y orc k=>SV.rec (motive:=λ_=>AV → Orc RR → (AV → RR) → RR)
      (λ_ _ _=>zz)
      (λkd a y orc k=>p1_sub kd a y orc k)
      (λ_ _ _ _=>zz)
      (λ_ _ _ _ _=>zz)
      (λ_ _ _=>zz)
      (λ_ _ _=>zz)
      (λ_ _ _=>zz)
      (λ_ _ _ _ _=>zz)
      (λ_ _ _ _ _ _ _ _=>zz)
      (λ_ _ _=>zz)
      (λ_ _ _=>zz)
      (λ_ _ _ _ _=>zz)
      (λkd i y orc k=>anyBin .sub (.one (.sym kd i)) y orc k)
      (λ_ _ _=>zz)
      (λ_ _ _ _=>zz)
      (λ_ _ _=>zz)
      (λ_ _ _ _=>zz) s y orc k)
    (λ_ _ _ _=>zz) (λ_ _ _ _=>zz) x y orc k
noncomputable def p1_mul (kd : IntKind) (a : Int) (y : AV) (orc : Orc RR) (k : AV → RR) : RR := AV.rec (motive := fun _ => IntKind → Int → Orc RR → (AV → RR) → RR)
    (λs kd a orc k=>SV.rec (motive:=λ_=>IntKind → Int → Orc RR → (AV → RR) → RR)
      (λ_ _ _ _=>zz)
      (λkd' b kd a _ k=>Bool.rec (motive:=λ_=>RR) zz (binI .mul kd a b zz λr=>k (.one r)) (keq kd kd'))
      (λ_ _ _ _ _=>zz)
      (λ_ _ _ _ _ _=>zz)
      (λ_ _ _ _=>zz)
      (λ_ _ _ _=>zz)
      (λ_ _ _ _=>zz)
      (λ_ _ _ _ _ _=>zz)
      (λ_ _ _ _ _ _ _ _ _=>zz)
      (λ_ _ _ _=>zz)
      (λ_ _ _ _=>zz)
      (λ_ _ _ _ _ _=>zz)
      (λkd' j kd a orc k=>anyBin .mul (.one (.int kd a)) (.one (.sym kd' j)) orc k)
      (λ_ _ _ _=>zz)
      (λ_ _ _ _ _=>zz)
      (λ_ _ _ _=>zz)
      (λ_ _ _ _ _=>zz) s kd a orc k)
    (λ_ _ _ _ _=>zz) (λ_ _ _ _ _=>zz) y kd a orc k
noncomputable def p_mul (x y : AV) (orc : Orc RR) (k : AV → RR) : RR := AV.rec (motive := fun _ => AV → Orc RR → (AV → RR) → RR)
    (λs y orc k=>SV.rec (motive:=λ_=>AV → Orc RR → (AV → RR) → RR)
      (λ_ _ _=>zz)
      (λkd a y orc k=>p1_mul kd a y orc k)
      (λ_ _ _ _=>zz)
      (λ_ _ _ _ _=>zz)
      (λ_ _ _=>zz)
      (λ_ _ _=>zz)
      (λ_ _ _=>zz)
      (λ_ _ _ _ _=>zz)
      (λ_ _ _ _ _ _ _ _=>zz)
      (λ_ _ _=>zz)
      (λ_ _ _=>zz)
      (λ_ _ _ _ _=>zz)
      (λkd i y orc k=>anyBin .mul (.one (.sym kd i)) y orc k)
      (λ_ _ _=>zz)
      (λ_ _ _ _=>zz)
      (λ_ _ _=>zz)
      (λ_ _ _ _=>zz) s y orc k)
    (λ_ _ _ _=>zz) (λ_ _ _ _=>zz) x y orc k
noncomputable def p1_quo (kd : IntKind) (a : Int) (y : AV) (orc : Orc RR) (k : AV → RR) : RR := AV.rec (motive := fun _ => IntKind → Int → Orc RR → (AV → RR) → RR)
    (λs kd a orc k=>SV.rec (motive:=λ_=>IntKind → Int → Orc RR → (AV → RR) → RR)
      (λ_ _ _ _=>zz)
      (λkd' b kd a _ k=>Bool.rec (motive:=λ_=>RR) zz (binI .quo kd a b zz λr=>k (.one r)) (keq kd kd'))
      (λ_ _ _ _ _=>zz)
      (λ_ _ _ _ _ _=>zz)
      (λ_ _ _ _=>zz)
      (λ_ _ _ _=>zz)
      (λ_ _ _ _=>zz)
      (λ_ _ _ _ _ _=>zz)
      (λ_ _ _ _ _ _ _ _ _=>zz)
      (λ_ _ _ _=>zz)
      (λ_ _ _ _=>zz)
      (λ_ _ _ _ _ _=>zz)
      (λkd' j kd a orc k=>anyBin .quo (.one (.int kd a)) (.one (.sym kd' j)) orc k)
      (λ_ _ _ _=>zz)
      (λ_ _ _ _ _=>zz)
      (λ_ _ _ _=>zz)
      (λ_ _ _ _ _=>zz) s kd a orc k)
    (λ_ _ _ _ _=>zz) (λ_ _ _ _ _=>zz) y kd a orc k
noncomputable def p_quo (x y : AV) (orc : Orc RR) (k : AV → RR) : RR := AV.rec (motive := fun _ => AV → Orc RR → (AV → RR) → RR)
    (λs y orc k=>SV.rec (motive:=λ_=>AV → Orc RR → (AV → RR) → RR)
      (λ_ _ _=>zz)
      (λkd a y orc k=>p1_quo kd a y orc k)
      (λ_ _ _ _=>zz)
      (λ_ _ _ _ _=>zz)
      (λ_ _ _=>zz)
      (λ_ _ _=>zz)
      (λ_ _ _=>zz)
      (λ_ _ _ _ _=>zz)
      (λ_ _ _ _ _ _ _ _=>zz)
      (λ_ _ _=>zz)
      (λ_ _ _=>zz)
      (λ_ _ _ _ _=>zz)
      (λkd i y orc k=>anyBin .quo (.one (.sym kd i)) y orc k)
      (λ_ _ _=>zz)
      (λ_ _ _ _=>zz)
      (λ_ _ _=>zz)
      (λ_ _ _ _=>zz) s y orc k)
    (λ_ _ _ _=>zz) (λ_ _ _ _=>zz) x y orc k
noncomputable def p1_rem (kd : IntKind) (a : Int) (y : AV) (orc : Orc RR) (k : AV → RR) : RR := AV.rec (motive := fun _ => IntKind → Int → Orc RR → (AV → RR) → RR)
    (λs kd a orc k=>SV.rec (motive:=λ_=>IntKind → Int → Orc RR → (AV → RR) → RR)
      (λ_ _ _ _=>zz)
      (λkd' b kd a _ k=>Bool.rec (motive:=λ_=>RR) zz (binI .rem kd a b zz λr=>k (.one r)) (keq kd kd'))
      (λ_ _ _ _ _=>zz)
      (λ_ _ _ _ _ _=>zz)
      (λ_ _ _ _=>zz)
      (λ_ _ _ _=>zz)
      (λ_ _ _ _=>zz)
      (λ_ _ _ _ _ _=>zz)
      (λ_ _ _ _ _ _ _ _ _=>zz)
      (λ_ _ _ _=>zz)
      (λ_ _ _ _=>zz)
      (λ_ _ _ _ _ _=>zz)
      (λkd' j kd a orc k=>anyBin .rem (.one (.int kd a)) (.one (.sym kd' j)) orc k)
      (λ_ _ _ _=>zz)
      (λ_ _ _ _ _=>zz)
      (λ_ _ _ _=>zz)
      (λ_ _ _ _ _=>zz) s kd a orc k)
    (λ_ _ _ _ _=>zz) (λ_ _ _ _ _=>zz) y kd a orc k
noncomputable def p_rem (x y : AV) (orc : Orc RR) (k : AV → RR) : RR := AV.rec (motive := fun _ => AV → Orc RR → (AV → RR) → RR)
    (λs y orc k=>SV.rec (motive:=λ_=>AV → Orc RR → (AV → RR) → RR)
      (λ_ _ _=>zz)
      (λkd a y orc k=>p1_rem kd a y orc k)
      (λ_ _ _ _=>zz)
      (λ_ _ _ _ _=>zz)
      (λ_ _ _=>zz)
      (λ_ _ _=>zz)
      (λ_ _ _=>zz)
      (λ_ _ _ _ _=>zz)
      (λ_ _ _ _ _ _ _ _=>zz)
      (λ_ _ _=>zz)
      (λ_ _ _=>zz)
      (λ_ _ _ _ _=>zz)
      (λkd i y orc k=>anyBin .rem (.one (.sym kd i)) y orc k)
      (λ_ _ _=>zz)
      (λ_ _ _ _=>zz)
      (λ_ _ _=>zz)
      (λ_ _ _ _=>zz) s y orc k)
    (λ_ _ _ _=>zz) (λ_ _ _ _=>zz) x y orc k
noncomputable def p1_and (kd : IntKind) (a : Int) (y : AV) (orc : Orc RR) (k : AV → RR) : RR := AV.rec (motive := fun _ => IntKind → Int → Orc RR → (AV → RR) → RR)
    (λs kd a orc k=>SV.rec (motive:=λ_=>IntKind → Int → Orc RR → (AV → RR) → RR)
      (λ_ _ _ _=>zz)
      (λkd' b kd a _ k=>Bool.rec (motive:=λ_=>RR) zz (binI .and kd a b zz λr=>k (.one r)) (keq kd kd'))
      (λ_ _ _ _ _=>zz)
      (λ_ _ _ _ _ _=>zz)
      (λ_ _ _ _=>zz)
      (λ_ _ _ _=>zz)
      (λ_ _ _ _=>zz)
      (λ_ _ _ _ _ _=>zz)
      (λ_ _ _ _ _ _ _ _ _=>zz)
      (λ_ _ _ _=>zz)
      (λ_ _ _ _=>zz)
      (λ_ _ _ _ _ _=>zz)
      (λkd' j kd a orc k=>anyBin .and (.one (.int kd a)) (.one (.sym kd' j)) orc k)
      (λ_ _ _ _=>zz)
      (λ_ _ _ _ _=>zz)
      (λ_ _ _ _=>zz)
      (λ_ _ _ _ _=>zz) s kd a orc k)
    (λ_ _ _ _ _=>zz) (λ_ _ _ _ _=>zz) y kd a orc k
noncomputable def p_and (x y : AV) (orc : Orc RR) (k : AV → RR) : RR := AV.rec (motive := fun _ => AV → Orc RR → (AV → RR) → RR)
    (λs y orc k=>SV.rec (motive:=λ_=>AV → Orc RR → (AV → RR) → RR)
      (λ_ _ _=>zz)
      (λkd a y orc k=>p1_and kd a y orc k)
      (λ_ _ _ _=>zz)
      (λ_ _ _ _ _=>zz)
      (λ_ _ _=>zz)
      (λ_ _ _=>zz)
      (λ_ _ _=>zz)
      (λ_ _ _ _ _=>zz)
      (λ_ _ _ _ _ _ _ _=>zz)
      (λ_ _ _=>zz)
      (λ_ _ _=>zz)
      (λ_ _ _ _ _=>zz)
      (λkd i y orc k=>anyBin .and (.one (.sym kd i)) y orc k)
      (λ_ _ _=>zz)
      (λ_ _ _ _=>zz)
      (λ_ _ _=>zz)
      (λ_ _ _ _=>zz) s y orc k)
    (λ_ _ _ _=>zz) (λ_ _ _ _=>zz) x y orc k
noncomputable def p1_or (kd : IntKind) (a : Int) (y : AV) (orc : Orc RR) (k : AV → RR) : RR := AV.rec (motive := fun _ => IntKind → Int → Orc RR → (AV → RR) → RR)
    (λs kd a orc k=>SV.rec (motive:=λ_=>IntKind → Int → Orc RR → (AV → RR) → RR)
      (λ_ _ _ _=>zz)
      (λkd' b kd a _ k=>Bool.rec (motive:=λ_=>RR) zz (binI .or kd a b zz λr=>k (.one r)) (keq kd kd'))
      (λ_ _ _ _ _=>zz)
      (λ_ _ _ _ _ _=>zz)
      (λ_ _ _ _=>zz)
      (λ_ _ _ _=>zz)
      (λ_ _ _ _=>zz)
      (λ_ _ _ _ _ _=>zz)
      (λ_ _ _ _ _ _ _ _ _=>zz)
      (λ_ _ _ _=>zz)
      (λ_ _ _ _=>zz)
      (λ_ _ _ _ _ _=>zz)
      (λkd' j kd a orc k=>anyBin .or (.one (.int kd a)) (.one (.sym kd' j)) orc k)
      (λ_ _ _ _=>zz)
      (λ_ _ _ _ _=>zz)
      (λ_ _ _ _=>zz)
      (λ_ _ _ _ _=>zz) s kd a orc k)
    (λ_ _ _ _ _=>zz) (λ_ _ _ _ _=>zz) y kd a orc k
noncomputable def p_or (x y : AV) (orc : Orc RR) (k : AV → RR) : RR := AV.rec (motive := fun _ => AV → Orc RR → (AV → RR) → RR)
    (λs y orc k=>SV.rec (motive:=λ_=>AV → Orc RR → (AV → RR) → RR)
      (λ_ _ _=>zz)
      (λkd a y orc k=>p1_or kd a y orc k)
      (λ_ _ _ _=>zz)
      (λ_ _ _ _ _=>zz)
      (λ_ _ _=>zz)
      (λ_ _ _=>zz)
      (λ_ _ _=>zz)
      (λ_ _ _ _ _=>zz)
      (λ_ _ _ _ _ _ _ _=>zz)
      (λ_ _ _=>zz)
      (λ_ _ _=>zz)
      (λ_ _ _ _ _=>zz)
      (λkd i y orc k=>anyBin .or (.one (.sym kd i)) y orc k)
      (λ_ _ _=>zz)
      (λ_ _ _ _=>zz)
      (λ_ _ _=>zz)
      (λ_ _ _ _=>zz) s y orc k)
    (λ_ _ _ _=>zz) (λ_ _ _ _=>zz) x y orc k
noncomputable def p1_xor (kd : IntKind) (a : Int) (y : AV) (orc : Orc RR) (k : AV → RR) : RR := AV.rec (motive := fun _ => IntKind → Int → Orc RR → (AV → RR) → RR)
    (λs kd a orc k=>SV.rec (motive:=λ_=>IntKind → Int → Orc RR → (AV → RR) → RR)
      (λ_ _ _ _=>zz)
      (λkd' b kd a _ k=>Bool.rec (motive:=λ_=>RR) zz (binI .xor kd a b zz λr=>k (.one r)) (keq kd kd'))
      (λ_ _ _ _ _=>zz)
      (λ_ _ _ _ _ _=>zz)
      (λ_ _ _ _=>zz)
      (λ_ _ _ _=>zz)
      (λ_ _ _ _=>zz)
      (λ_ _ _ _ _ _=>zz)
      (λ_ _ _ _ _ _ _ _ _=>zz)
      (λ_ _ _ _=>zz)
      (λ_ _ _ _=>zz)
      (λ_ _ _ _ _ _=>zz)
      (λkd' j kd a orc k=>anyBin .xor (.one (.int kd a)) (.one (.sym kd' j)) orc k)
      (λ_ _ _ _=>zz)
      (λ_ _ _ _ _=>zz)
      (λ_ _ _ _=>zz)
      (λ_ _ _ _ _=>zz) s kd a orc k)
    (λ_ _ _ _ _=>zz) (λ_ _ _ _ _=>zz) y kd a orc k
noncomputable def p_xor (x y : AV) (orc : Orc RR) (k : AV → RR) : RR := AV.rec (motive := fun _ => AV → Orc RR → (AV → RR) → RR)
    (λs y orc k=>SV.rec (motive:=λ_=>AV → Orc RR → (AV → RR) → RR)
      (λ_ _ _=>zz)
      (λkd a y orc k=>p1_xor kd a y orc k)
      (λ_ _ _ _=>zz)
      (λ_ _ _ _ _=>zz)
      (λ_ _ _=>zz)
      (λ_ _ _=>zz)
      (λ_ _ _=>zz)
      (λ_ _ _ _ _=>zz)
      (λ_ _ _ _ _ _ _ _=>zz)
      (λ_ _ _=>zz)
      (λ_ _ _=>zz)
      (λ_ _ _ _ _=>zz)
      (λkd i y orc k=>anyBin .xor (.one (.sym kd i)) y orc k)
      (λ_ _ _=>zz)
      (λ_ _ _ _=>zz)
      (λ_ _ _=>zz)
      (λ_ _ _ _=>zz) s y orc k)
    (λ_ _ _ _=>zz) (λ_ _ _ _=>zz) x y orc k
noncomputable def p1_shl (kd : IntKind) (a : Int) (y : AV) (orc : Orc RR) (k : AV → RR) : RR := AV.rec (motive := fun _ => IntKind → Int → Orc RR → (AV → RR) → RR)
    (λs kd a orc k=>SV.rec (motive:=λ_=>IntKind → Int → Orc RR → (AV → RR) → RR)
      (λ_ _ _ _=>zz)
      (λkd' b kd a _ k=>Bool.rec (motive:=λ_=>RR) zz (binI .shl kd a b zz λr=>k (.one r)) (keq kd kd'))
      (λ_ _ _ _ _=>zz)
      (λ_ _ _ _ _ _=>zz)
      (λ_ _ _ _=>zz)
      (λ_ _ _ _=>zz)
      (λ_ _ _ _=>zz)
      (λ_ _ _ _ _ _=>zz)
      (λ_ _ _ _ _ _ _ _ _=>zz)
      (λ_ _ _ _=>zz)
      (λ_ _ _ _=>zz)
      (λ_ _ _ _ _ _=>zz)
      (λkd' j kd a orc k=>anyBin .shl (.one (.int kd a)) (.one (.sym kd' j)) orc k)
      (λ_ _ _ _=>zz)
      (λ_ _ _ _ _=>zz)
      (λ_ _ _ _=>zz)
      (λ_ _ _ _ _=>zz) s kd a orc k)
    (λ_ _ _ _ _=>zz) (λ_ _ _ _ _=>zz) y kd a orc k
noncomputable def p_shl (x y : AV) (orc : Orc RR) (k : AV → RR) : RR := AV.rec (motive := fun _ => AV → Orc RR → (AV → RR) → RR)
    (λs y orc k=>SV.rec (motive:=λ_=>AV → Orc RR → (AV → RR) → RR)
      (λ_ _ _=>zz)
      (λkd a y orc k=>p1_shl kd a y orc k)
      (λ_ _ _ _=>zz)
      (λ_ _ _ _ _=>zz)
      (λ_ _ _=>zz)
      (λ_ _ _=>zz)
      (λ_ _ _=>zz)
      (λ_ _ _ _ _=>zz)
      (λ_ _ _ _ _ _ _ _=>zz)
      (λ_ _ _=>zz)
      (λ_ _ _=>zz)
      (λ_ _ _ _ _=>zz)
      (λkd i y orc k=>anyBin .shl (.one (.sym kd i)) y orc k)
      (λ_ _ _=>zz)
      (λ_ _ _ _=>zz)
      (λ_ _ _=>zz)
      (λ_ _ _ _=>zz) s y orc k)
    (λ_ _ _ _=>zz) (λ_ _ _ _=>zz) x y orc k
noncomputable def p1_shr (kd : IntKind) (a : Int) (y : AV) (orc : Orc RR) (k : AV → RR) : RR := AV.rec (motive := fun _ => IntKind → Int → Orc RR → (AV → RR) → RR)
    (λs kd a orc k=>SV.rec (motive:=λ_=>IntKind → Int → Orc RR → (AV → RR) → RR)
      (λ_ _ _ _=>zz)
      (λkd' b kd a _ k=>Bool.rec (motive:=λ_=>RR) zz (binI .shr kd a b zz λr=>k (.one r)) (keq kd kd'))
      (λ_ _ _ _ _=>zz)
      (λ_ _ _ _ _ _=>zz)
      (λ_ _ _ _=>zz)
      (λ_ _ _ _=>zz)
      (λ_ _ _ _=>zz)
      (λ_ _ _ _ _ _=>zz)
      (λ_ _ _ _ _ _ _ _ _=>zz)
      (λ_ _ _ _=>zz)
      (λ_ _ _ _=>zz)
      (λ_ _ _ _ _ _=>zz)
      (λkd' j kd a orc k=>anyBin .shr (.one (.int kd a)) (.one (.sym kd' j)) orc k)
      (λ_ _ _ _=>zz)
      (λ_ _ _ _ _=>zz)
      (λ_ _ _ _=>zz)
      (λ_ _ _ _ _=>zz) s kd a orc k)
    (λ_ _ _ _ _=>zz) (λ_ _ _ _ _=>zz) y kd a orc k
noncomputable def p_shr (x y : AV) (orc : Orc RR) (k : AV → RR) : RR := AV.rec (motive := fun _ => AV → Orc RR → (AV → RR) → RR)
    (λs y orc k=>SV.rec (motive:=λ_=>AV → Orc RR → (AV → RR) → RR)
      (λ_ _ _=>zz)
      (λkd a y orc k=>p1_shr kd a y orc k)
      (λ_ _ _ _=>zz)
      (λ_ _ _ _ _=>zz)
      (λ_ _ _=>zz)
      (λ_ _ _=>zz)
      (λ_ _ _=>zz)
      (λ_ _ _ _ _=>zz)
      (λ_ _ _ _ _ _ _ _=>zz)
      (λ_ _ _=>zz)
      (λ_ _ _=>zz)
      (λ_ _ _ _ _=>zz)
      (λkd i y orc k=>anyBin .shr (.one (.sym kd i)) y orc k)
      (λ_ _ _=>zz)
      (λ_ _ _ _=>zz)
      (λ_ _ _=>zz)
      (λ_ _ _ _=>zz) s y orc k)
    (λ_ _ _ _=>zz) (λ_ _ _ _=>zz) x y orc k
noncomputable def p1_andNot (kd : IntKind) (a : Int) (y : AV) (orc : Orc RR) (k : AV → RR) : RR := AV.rec (motive := fun _ => IntKind → Int → Orc RR → (AV → RR) → RR)
    (λs kd a orc k=>SV.rec (motive:=λ_=>IntKind → Int → Orc RR → (AV → RR) → RR)
      (λ_ _ _ _=>zz)
      (λkd' b kd a _ k=>Bool.rec (motive:=λ_=>RR) zz (binI .andNot kd a b zz λr=>k (.one r)) (keq kd kd'))
      (λ_ _ _ _ _=>zz)
      (λ_ _ _ _ _ _=>zz)
      (λ_ _ _ _=>zz)
      (λ_ _ _ _=>zz)
      (λ_ _ _ _=>zz)
      (λ_ _ _ _ _ _=>zz)
      (λ_ _ _ _ _ _ _ _ _=>zz)
      (λ_ _ _ _=>zz)
      (λ_ _ _ _=>zz)
      (λ_ _ _ _ _ _=>zz)
      (λkd' j kd a orc k=>anyBin .andNot (.one (.int kd a)) (.one (.sym kd' j)) orc k)
      (λ_ _ _ _=>zz)
      (λ_ _ _ _ _=>zz)
      (λ_ _ _ _=>zz)
      (λ_ _ _ _ _=>zz) s kd a orc k)
    (λ_ _ _ _ _=>zz) (λ_ _ _ _ _=>zz) y kd a orc k
noncomputable def p_andNot (x y : AV) (orc : Orc RR) (k : AV → RR) : RR := AV.rec (motive := fun _ => AV → Orc RR → (AV → RR) → RR)
    (λs y orc k=>SV.rec (motive:=λ_=>AV → Orc RR → (AV → RR) → RR)
      (λ_ _ _=>zz)
      (λkd a y orc k=>p1_andNot kd a y orc k)
      (λ_ _ _ _=>zz)
      (λ_ _ _ _ _=>zz)
      (λ_ _ _=>zz)
      (λ_ _ _=>zz)
      (λ_ _ _=>zz)
      (λ_ _ _ _ _=>zz)
      (λ_ _ _ _ _ _ _ _=>zz)
      (λ_ _ _=>zz)
      (λ_ _ _=>zz)
      (λ_ _ _ _ _=>zz)
      (λkd i y orc k=>anyBin .andNot (.one (.sym kd i)) y orc k)
      (λ_ _ _=>zz)
      (λ_ _ _ _=>zz)
      (λ_ _ _=>zz)
      (λ_ _ _ _=>zz) s y orc k)
    (λ_ _ _ _=>zz) (λ_ _ _ _=>zz) x y orc k
noncomputable def p1_eql (kd : IntKind) (a : Int) (y : AV) (orc : Orc RR) (k : AV → RR) : RR := AV.rec (motive := fun _ => IntKind → Int → Orc RR → (AV → RR) → RR)
    (λs kd a orc k=>SV.rec (motive:=λ_=>IntKind → Int → Orc RR → (AV → RR) → RR)
      (λ_ _ _ _=>zz)
      (λkd' b kd a _ k=>Bool.rec (motive:=λ_=>RR) zz (yesF (eqF a b) k) (keq kd kd'))
      (λ_ _ _ _ _=>zz)
      (λ_ _ _ _ _ _=>zz)
      (λ_ _ _ _=>zz)
      (λ_ _ _ _=>zz)
      (λ_ _ _ _=>zz)
      (λ_ _ _ _ _ _=>zz)
      (λ_ _ _ _ _ _ _ _ _=>zz)
      (λ_ _ _ _=>zz)
      (λ_ _ _ _=>zz)
      (λ_ _ _ _ _ _=>zz)
      (λkd' j kd a orc k=>anyBin .eql (.one (.int kd a)) (.one (.sym kd' j)) orc k)
      (λ_ _ _ _=>zz)
      (λ_ _ _ _ _=>zz)
      (λ_ _ _ _=>zz)
      (λ_ _ _ _ _=>zz) s kd a orc k)
    (λ_ _ _ _ _=>zz) (λ_ _ _ _ _=>zz) y kd a orc k
noncomputable def p_eql (x y : AV) (orc : Orc RR) (k : AV → RR) : RR := AV.rec (motive := fun _ => AV → Orc RR → (AV → RR) → RR)
    (λs y orc k=>SV.rec (motive:=λ_=>AV → Orc RR → (AV → RR) → RR)
      (λ_ _ _=>zz)
      (λkd a y orc k=>p1_eql kd a y orc k)
      (λ_ _ _ _=>zz)
      (λ_ _ _ _ _=>zz)
      (λ_ _ _=>zz)
      (λ_ _ _=>zz)
      (λ_ _ _=>zz)
      (λ_ _ _ _ _=>zz)
      (λ_ _ _ _ _ _ _ _=>zz)
      (λ_ _ _=>zz)
      (λ_ _ _=>zz)
      (λ_ _ _ _ _=>zz)
      (λkd i y orc k=>anyBin .eql (.one (.sym kd i)) y orc k)
      (λ_ _ _=>zz)
      (λ_ _ _ _=>zz)
      (λ_ _ _=>zz)
      (λ_ _ _ _=>zz) s y orc k)
    (λ_ _ _ _=>zz) (λ_ _ _ _=>zz) x y orc k
noncomputable def p1_neq (kd : IntKind) (a : Int) (y : AV) (orc : Orc RR) (k : AV → RR) : RR := AV.rec (motive := fun _ => IntKind → Int → Orc RR → (AV → RR) → RR)
    (λs kd a orc k=>SV.rec (motive:=λ_=>IntKind → Int → Orc RR → (AV → RR) → RR)
      (λ_ _ _ _=>zz)
      (λkd' b kd a _ k=>Bool.rec (motive:=λ_=>RR) zz (notF (eqF a b) k) (keq kd kd'))
      (λ_ _ _ _ _=>zz)
      (λ_ _ _ _ _ _=>zz)
      (λ_ _ _ _=>zz)
      (λ_ _ _ _=>zz)
      (λ_ _ _ _=>zz)
      (λ_ _ _ _ _ _=>zz)
      (λ_ _ _ _ _ _ _ _ _=>zz)
      (λ_ _ _ _=>zz)
      (λ_ _ _ _=>zz)
      (λ_ _ _ _ _ _=>zz)
      (λkd' j kd a orc k=>anyBin .neq (.one (.int kd a)) (.one (.sym kd' j)) orc k)
      (λ_ _ _ _=>zz)
      (λ_ _ _ _ _=>zz)
      (λ_ _ _ _=>zz)
      (λ_ _ _ _ _=>zz) s kd a orc k)
    (λ_ _ _ _ _=>zz) (λ_ _ _ _ _=>zz) y kd a orc k
noncomputable def p_neq (x y : AV) (orc : Orc RR) (k : AV → RR) : RR := AV.rec (motive := fun _ => AV → Orc RR → (AV → RR) → RR)
    (λs y orc k=>SV.rec (motive:=λ_=>AV → Orc RR → (AV → RR) → RR)
      (λ_ _ _=>zz)
      (λkd a y orc k=>p1_neq kd a y orc k)
      (λ_ _ _ _=>zz)
      (λ_ _ _ _ _=>zz)
      (λ_ _ _=>zz)
      (λ_ _ _=>zz)
      (λ_ _ _=>zz)
      (λ_ _ _ _ _=>zz)
      (λ_ _ _ _ _ _ _ _=>zz)
      (λ_ _ _=>zz)
      (λ_ _ _=>zz)
      (λ_ _ _ _ _=>zz)
      (λkd i y orc k=>anyBin .neq (.one (.sym kd i)) y orc k)
      (λ_ _ _=>zz)
      (λ_ _ _ _=>zz)
      (λ_ _ _=>zz)
      (λ_ _ _ _=>zz) s y orc k)
    (λ_ _ _ _=>zz) (λ_ _ _ _=>zz) x y orc k
noncomputable def p1_lss (kd : IntKind) (a : Int) (y : AV) (orc : Orc RR) (k : AV → RR) : RR := AV.rec (motive := fun _ => IntKind → Int → Orc RR → (AV → RR) → RR)
    (λs kd a orc k=>SV.rec (motive:=λ_=>IntKind → Int → Orc RR → (AV → RR) → RR)
      (λ_ _ _ _=>zz)
      (λkd' b kd a _ k=>Bool.rec (motive:=λ_=>RR) zz (yesF (ltF a b) k) (keq kd kd'))
      (λ_ _ _ _ _=>zz)
      (λ_ _ _ _ _ _=>zz)
      (λ_ _ _ _=>zz)
      (λ_ _ _ _=>zz)
      (λ_ _ _ _=>zz)
      (λ_ _ _ _ _ _=>zz)
      (λ_ _ _ _ _ _ _ _ _=>zz)
      (λ_ _ _ _=>zz)
      (λ_ _ _ _=>zz)
      (λ_ _ _ _ _ _=>zz)
      (λkd' j kd a orc k=>anyBin .lss (.one (.int kd a)) (.one (.sym kd' j)) orc k)
      (λ_ _ _ _=>zz)
      (λ_ _ _ _ _=>zz)
      (λ_ _ _ _=>zz)
      (λ_ _ _ _ _=>zz) s kd a orc k)
    (λ_ _ _ _ _=>zz) (λ_ _ _ _ _=>zz) y kd a orc k
noncomputable def p_lss (x y : AV) (orc : Orc RR) (k : AV → RR) : RR := AV.rec (motive := fun _ => AV → Orc RR → (AV → RR) → RR)
    (λs y orc k=>SV.rec (motive:=λ_=>AV → Orc RR → (AV → RR) → RR)
      (λ_ _ _=>zz)
      (λkd a y orc k=>p1_lss kd a y orc k)
      (λ_ _ _ _=>zz)
      (λ_ _ _ _ _=>zz)
      (λ_ _ _=>zz)
      (λ_ _ _=>zz)
      (λ_ _ _=>zz)
      (λ_ _ _ _ _=>zz)
      (λ_ _ _ _ _ _ _ _=>zz)
      (λ_ _ _=>zz)
      (λ_ _ _=>zz)
      (λ_ _ _ _ _=>zz)
      (λkd i y orc k=>anyBin .lss (.one (.sym kd i)) y orc k)
      (λ_ _ _=>zz)
      (λ_ _ _ _=>zz)
      (λ_ _ _=>zz)
      (λ_ _ _ _=>zz) s y orc k)
    (λ_ _ _ _=>zz) (λ_ _ _ _=>zz) x y orc k
noncomputable def p1_leq (kd : IntKind) (a : Int) (y : AV) (orc : Orc RR) (k : AV → RR) : RR := AV.rec (motive := fun _ => IntKind → Int → Orc RR → (AV → RR) → RR)
    (λs kd a orc k=>SV.rec (motive:=λ_=>IntKind → Int → Orc RR → (AV → RR) → RR)
      (λ_ _ _ _=>zz)
      (λkd' b kd a _ k=>Bool.rec (motive:=λ_=>RR) zz (notF (ltF b a) k) (keq kd kd'))
      (λ_ _ _ _ _=>zz)
      (λ_ _ _ _ _ _=>zz)
      (λ_ _ _ _=>zz)
      (λ_ _ _ _=>zz)
      (λ_ _ _ _=>zz)
      (λ_ _ _ _ _ _=>zz)
      (λ_ _ _ _ _ _ _ _ _=>zz)
      (λ_ _ _ _=>zz)
      (λ_ _ _ _=>zz)
      (λ_ _ _ _ _ _=>zz)
      (λkd' j kd a orc k=>anyBin .leq (.one (.int kd a)) (.one (.sym kd' j)) orc k)
      (λ_ _ _ _=>zz)
      (λ_ _ _ _ _=>zz)
      (λ_ _ _ _=>zz)
      (λ_ _ _ _ _=>zz) s kd a orc k)
    (λ_ _ _ _ _=>zz) (λ_ _ _ _ _=>zz) y kd a orc k
noncomputable def p_leq (x y : AV) (orc : Orc RR) (k : AV → RR) : RR := AV.rec (motive := fun _ => AV → Orc RR → (AV → RR) → RR)
    (λs y orc k=>SV.rec (motive:=λ_=>AV → Orc RR → (AV → RR) → RR)
      (λ_ _ _=>zz)
      (λkd a y orc k=>p1_leq kd a y orc k)
      (λ_ _ _ _=>zz)
      (λ_ _ _ _ _=>zz)
      (λ_ _ _=>zz)
      (λ_ _ _=>zz)
      (λ_ _ _=>zz)
      (λ_ _ _ _ _=>zz)
      (λ_ _ _ _ _ _ _ _=>zz)
      (λ_ _ _=>zz)
      (λ_ _ _=>zz)
      (λ_ _ _ _ _=>zz)
      (λkd i y orc k=>anyBin .leq (.one (.sym kd i)) y orc k)
      (λ_ _ _=>zz)
      (λ_ _ _ _=>zz)
      (λ_ _ _=>zz)
      (λ_ _ _ _=>zz) s y orc k)
    (λ_ _ _ _=>zz) (λ_ _ _ _=>zz) x y orc k
noncomputable def p1_gtr (kd : IntKind) (a : Int) (y : AV) (orc : Orc RR) (k : AV → RR) : RR := AV.rec (motive := fun _ => IntKind → Int → Orc RR → (AV → RR) → RR)
    (λs kd a orc k=>SV.rec (motive:=λ_=>IntKind → Int → Orc RR → (AV → RR) → RR)
      (λ_ _ _ _=>zz)
      (λkd' b kd a _ k=>Bool.rec (motive:=λ_=>RR) zz (yesF (ltF b a) k) (keq kd kd'))
      (λ_ _ _ _ _=>zz)
      (λ_ _ _ _ _ _=>zz)
      (λ_ _ _ _=>zz)
      (λ_ _ _ _=>zz)
      (λ_ _ _ _=>zz)
      (λ_ _ _ _ _ _=>zz)
      (λ_ _ _ _ _ _ _ _ _=>zz)
      (λ_ _ _ _=>zz)
      (λ_ _ _ _=>zz)
      (λ_ _ _ _ _ _=>zz)
      (λkd' j kd a orc k=>anyBin .gtr (.one (.int kd a)) (.one (.sym kd' j)) orc k)
      (λ_ _ _ _=>zz)
      (λ_ _ _ _ _=>zz)
      (λ_ _ _ _=>zz)
      (λ_ _ _ _ _=>zz) s kd a orc k)
    (λ_ _ _ _ _=>zz) (λ_ _ _ _ _=>zz) y kd a orc k
noncomputable def p_gtr (x y : AV) (orc : Orc RR) (k : AV → RR) : RR := AV.rec (motive := fun _ => AV → Orc RR → (AV → RR) → RR)
    (λs y orc k=>SV.rec (motive:=λ_=>AV → Orc RR → (AV → RR) → RR)
      (λ_ _ _=>zz)
      (λkd a y orc k=>p1_gtr kd a y orc k)
      (λ_ _ _ _=>zz)
      (λ_ _ _ _ _=>zz)
      (λ_ _ _=>zz)
      (λ_ _ _=>zz)
      (λ_ _ _=>zz)
      (λ_ _ _ _ _=>zz)
      (λ_ _ _ _ _ _ _ _=>zz)
      (λ_ _ _=>zz)
      (λ_ _ _=>zz)
      (λ_ _ _ _ _=>zz)
      (λkd i y orc k=>anyBin .gtr (.one (.sym kd i)) y orc k)
      (λ_ _ _=>zz)
      (λ_ _ _ _=>zz)
      (λ_ _ _=>zz)
      (λ_ _ _ _=>zz) s y orc k)
    (λ_ _ _ _=>zz) (λ_ _ _ _=>zz) x y orc k
noncomputable def p1_geq (kd : IntKind) (a : Int) (y : AV) (orc : Orc RR) (k : AV → RR) : RR := AV.rec (motive := fun _ => IntKind → Int → Orc RR → (AV → RR) → RR)
    (λs kd a orc k=>SV.rec (motive:=λ_=>IntKind → Int → Orc RR → (AV → RR) → RR)
      (λ_ _ _ _=>zz)
      (λkd' b kd a _ k=>Bool.rec (motive:=λ_=>RR) zz (notF (ltF a b) k) (keq kd kd'))
      (λ_ _ _ _ _=>zz)
      (λ_ _ _ _ _ _=>zz)
      (λ_ _ _ _=>zz)
      (λ_ _ _ _=>zz)
      (λ_ _ _ _=>zz)
      (λ_ _ _ _ _ _=>zz)
      (λ_ _ _ _ _ _ _ _ _=>zz)
      (λ_ _ _ _=>zz)
      (λ_ _ _ _=>zz)
      (λ_ _ _ _ _ _=>zz)
      (λkd' j kd a orc k=>anyBin .geq (.one (.int kd a)) (.one (.sym kd' j)) orc k)
      (λ_ _ _ _=>zz)
      (λ_ _ _ _ _=>zz)
      (λ_ _ _ _=>zz)
      (λ_ _ _ _ _=>zz) s kd a orc k)
    (λ_ _ _ _ _=>zz) (λ_ _ _ _ _=>zz) y kd a orc k
noncomputable def p_geq (x y : AV) (orc : Orc RR) (k : AV → RR) : RR := AV.rec (motive := fun _ => AV → Orc RR → (AV → RR) → RR)
    (λs y orc k=>SV.rec (motive:=λ_=>AV → Orc RR → (AV → RR) → RR)
      (λ_ _ _=>zz)
      (λkd a y orc k=>p1_geq kd a y orc k)
      (λ_ _ _ _=>zz)
      (λ_ _ _ _ _=>zz)
      (λ_ _ _=>zz)
      (λ_ _ _=>zz)
      (λ_ _ _=>zz)
      (λ_ _ _ _ _=>zz)
      (λ_ _ _ _ _ _ _ _=>zz)
      (λ_ _ _=>zz)
      (λ_ _ _=>zz)
      (λ_ _ _ _ _=>zz)
      (λkd i y orc k=>anyBin .geq (.one (.sym kd i)) y orc k)
      (λ_ _ _=>zz)
      (λ_ _ _ _=>zz)
      (λ_ _ _=>zz)
      (λ_ _ _ _=>zz) s y orc k)
    (λ_ _ _ _=>zz) (λ_ _ _ _=>zz) x y orc k
noncomputable def plainF (k : List SV → RR) (cs : List SV) : RR := List.rec (motive := fun _ => (List SV → RR) → List SV → RR) (fun k cs => k cs) (fun h _ _ k cs => SV.rec (motive := fun _ => (List SV → RR) → List SV → RR)
      (λk cs=>k cs)
      (λ_ _ k cs=>k cs)
      (λ_ k cs=>k cs)
      (λ_ _ k cs=>k cs)
      (λk cs=>k cs)
      (λk cs=>k cs)
      (λk cs=>k cs)
      (λ_ _ k cs=>k cs)
      (λ_ _ _ _ _ k cs=>k cs)
      (λk cs=>k cs)
      (λk cs=>k cs)
      (λ_ _ k cs=>k cs)
      (λ_ _ k cs=>k cs)
      (λk cs=>k cs)
      (λ_ k cs=>k cs)
      (λk cs=>k cs)
      (λ_ _ _=>zz) h k cs) cs k cs
noncomputable def lookF (mu : St) (fz : Fz) (id : Nat) (k : List SV → RR) : RR:=List.rec (motive:=λ_=>Fz → Nat → (List SV → RR) → RR)
  (λfz id k=>Option.rec (motive:=λ_=>RR) zz (plainF k) (fz id))
  (λp _ ih fz id k=>Prod.rec (motive:=λ_=>(Fz → Nat → (List SV → RR) → RR) → Fz → Nat → (List SV → RR) → RR) (λi cs ih fz id k=>Bool.rec (motive:=λ_=>RR) (ih fz id k) (plainF k cs) (Nat.beq i id)) p ih fz id k) mu fz id k
noncomputable def withF (mu : St) (fz : Fz) : Fz:=λid=>List.rec (motive:=λ_=>Fz → Nat → Option (List SV))
  (λfz id=>fz id)
  (λp _ ih fz id=>Prod.rec (motive:=λ_=>(Fz → Nat → Option (List SV)) → Fz → Nat → Option (List SV)) (λi cs ih fz id=>Bool.rec (motive:=λ_=>Option (List SV)) (ih fz id) (some cs) (Nat.beq i id)) p ih fz id) mu fz id
noncomputable def nthF (l : List SV) (i : Nat) (k : SV → RR) : RR:=List.rec (motive:=λ_=>Nat → (SV → RR) → RR) (λ_ _=>zz)
  (λh _ ih i k=>Nat.rec (motive:=λ_=>SV → (Nat → (SV → RR) → RR) → (SV → RR) → RR) (λh _ k=>k h) (λj _ _ ih k=>ih j k) i h ih k) l i k
noncomputable def set1F (l : List SV) (i : Nat) (v : SV) (k : List SV → RR) : RR:=List.rec (motive:=λ_=>Nat → SV → (List SV → RR) → RR) (λ_ _ _=>zz)
  (λh t ih i v k=>Nat.rec (motive:=λ_=>RR) (k (v :: t)) (λj _=>ih j v λr=>k (h :: r)) i) l i v k
noncomputable def put1F (mu : St) (id off : Nat) (v : SV) (k : St → RR) : RR:=List.rec (motive:=λ_=>Nat → Nat → SV → (St → RR) → RR) (λ_ _ _ _=>zz)
  (λp t ih id off v k=>Prod.rec (motive:=λ_=>RR) (λi cs=>Bool.rec (motive:=λ_=>RR) (ih id off v λr=>k ((i,cs) :: r)) (plainF (λcs=>set1F cs off v λcs=>k ((i,cs) :: t)) cs) (Nat.beq i id)) p) mu id off v k
noncomputable def lenF (l : List SV) (m : Nat) : Bool:=List.rec (motive:=λ_=>Nat → Bool) (λm=>Nat.beq m 0) (λ_ _ ih m=>Nat.rec (motive:=λ_=>Bool) false (λj _=>ih j) m) l m
noncomputable def fitF (l : List SV) (m : Nat) (cs : List SV) : Bool:=List.rec (motive:=λ_=>Nat → List SV → Bool)
  (λm cs=>List.rec (motive:=λ_=>Bool) (Nat.beq m 0) (λ_ _ _=>false) cs)
  (λv _ ih m cs=>Nat.rec (motive:=λ_=>Bool) false (λj _=>List.rec (motive:=λ_=>Bool) false (λ_ r _=>Bool.rec (motive:=λ_=>Bool) false (ih j r) v.known) cs) m) l m cs
noncomputable def putF (mu : St) (id : Nat) (m : Nat) (l : List SV) (no : RR) (k : St → RR) : RR:=List.rec (motive:=λ_=>Nat → RR → (St → RR) → RR) (λ_ no _=>no)
  (λp t ih id no k=>Prod.rec (motive:=λ_=>RR) (λi cs=>Bool.rec (motive:=λ_=>RR) (ih id no λr=>k ((i,cs) :: r)) (Bool.rec (motive:=λ_=>RR) no (k ((i,l) :: t)) (Bool.rec (motive:=λ_=>Bool) (fitF l m cs) false (mkd cs))) (Nat.beq i id)) p) mu id no k
noncomputable def pLoad1 (x : AV) (fz : Fz) (mu : St) (k : AV → RR) : RR := AV.rec (motive := fun _ => Fz → St → (AV → RR) → RR)
    (λs fz mu k=>SV.rec (motive:=λ_=>Fz → St → (AV → RR) → RR)
      (λ_ _ _=>zz)
      (λ_ _ _ _ _=>zz)
      (λ_ _ _ _=>zz)
      (λ_ _ _ _ _=>zz)
      (λ_ _ _=>zz)
      (λ_ _ _=>zz)
      (λ_ _ _=>zz)
      (λid off fz mu k=>lookF mu fz id λcs=>nthF cs off λs=>k (.one s))
      (λ_ _ _ _ _ _ _ _=>zz)
      (λ_ _ _=>zz)
      (λ_ _ _=>zz)
      (λ_ _ _ _ _=>zz)
      (λ_ _ _ _ _=>zz)
      (λ_ _ _=>zz)
      (λ_ _ _ _=>zz)
      (λ_ _ _=>zz)
      (λ_ _ _ _=>zz) s fz mu k)
    (λ_ _ _ _=>zz) (λ_ _ _ _=>zz) x fz mu k
noncomputable def pLoad (agg : Bool) (m : Nat) (x : AV) (fz : Fz) (mu : St) (k : AV → RR) : RR := AV.rec (motive := fun _ => Bool → Nat → Fz → St → (AV → RR) → RR)
    (λs agg m fz mu k=>SV.rec (motive:=λ_=>Bool → Nat → Fz → St → (AV → RR) → RR)
      (λ_ _ _ _ _=>zz)
      (λ_ _ _ _ _ _ _=>zz)
      (λ_ _ _ _ _ _=>zz)
      (λ_ _ _ _ _ _ _=>zz)
      (λ_ _ _ _ _=>zz)
      (λ_ _ _ _ _=>zz)
      (λ_ _ _ _ _=>zz)
      (λid off agg m fz mu k=>lookF mu fz id λcs=>subK cs off m zz λr=>asRes agg r zz λv=>k v)
      (λ_ _ _ _ _ _ _ _ _ _=>zz)
      (λ_ _ _ _ _=>zz)
      (λ_ _ _ _ _=>zz)
      (λ_ _ _ _ _ _ _=>zz)
      (λ_ _ _ _ _ _ _=>zz)
      (λ_ _ _ _ _=>zz)
      (λ_ _ _ _ _ _=>zz)
      (λ_ _ _ _ _=>zz)
      (λ_ _ _ _ _ _=>zz) s agg m fz mu k)
    (λ_ _ _ _ _ _=>zz) (λ_ _ _ _ _ _=>zz) x agg m fz mu k
noncomputable def pLoadA (m : Nat) (x : AV) (fz : Fz) (mu : St) (k : AV → RR) : RR := AV.rec (motive := fun _ => Nat → Fz → St → (AV → RR) → RR)
    (λs m fz mu k=>SV.rec (motive:=λ_=>Nat → Fz → St → (AV → RR) → RR)
      (λ_ _ _ _=>zz)
      (λ_ _ _ _ _ _=>zz)
      (λ_ _ _ _ _=>zz)
      (λ_ _ _ _ _ _=>zz)
      (λ_ _ _ _=>zz)
      (λ_ _ _ _=>zz)
      (λ_ _ _ _=>zz)
      (λid off m fz mu k=>lookF mu fz id λcs=>Nat.rec (motive:=λ_=>RR) (Bool.rec (motive:=λ_=>RR) (subK cs 0 m zz λr=>k (.ag r)) (k (.ag cs)) (lenF cs m)) (λo _=>subK cs (Nat.succ o) m zz λr=>k (.ag r)) off)
      (λ_ _ _ _ _ _ _ _ _=>zz)
      (λ_ _ _ _=>zz)
      (λ_ _ _ _=>zz)
      (λ_ _ _ _ _ _=>zz)
      (λ_ _ _ _ _ _=>zz)
      (λ_ _ _ _=>zz)
      (λ_ _ _ _ _=>zz)
      (λ_ _ _ _=>zz)
      (λ_ _ _ _ _=>zz) s m fz mu k)
    (λ_ _ _ _ _=>zz) (λ_ _ _ _ _=>zz) x m fz mu k
noncomputable def qStore1 (x v : AV) (mu : St) (k : St → RR) : RR := AV.rec (motive := fun _ => AV → St → (St → RR) → RR)
    (λs v mu k=>SV.rec (motive:=λ_=>AV → St → (St → RR) → RR)
      (λ_ _ _=>zz)
      (λ_ _ _ _ _=>zz)
      (λ_ _ _ _=>zz)
      (λ_ _ _ _ _=>zz)
      (λ_ _ _=>zz)
      (λ_ _ _=>zz)
      (λ_ _ _=>zz)
      (λid off v mu k=>AV.rec (motive:=λ_=>RR) (λs=>Bool.rec (motive:=λ_=>RR) zz (put1F mu id off s k) s.known) (λl=>oStore zz [] mu 0 1 (.c (.one (.optr id off))) (.c (.ag l)) λ_ mu _=>k mu) (λ_=>zz) v)
      (λ_ _ _ _ _ _ _ _=>zz)
      (λ_ _ _=>zz)
      (λ_ _ _=>zz)
      (λ_ _ _ _ _=>zz)
      (λ_ _ _ _ _=>zz)
      (λ_ _ _=>zz)
      (λ_ _ _ _=>zz)
      (λ_ _ _=>zz)
      (λ_ _ _ _=>zz) s v mu k)
    (λ_ _ _ _=>zz) (λ_ _ _ _=>zz) x v mu k
noncomputable def anyStore (m : Nat) (x v : AV) (mu : St) (k : St → RR) : RR:=oStore zz [] mu 0 m (.c x) (.c v) λ_ mu _=>k mu
noncomputable def qStore (m : Nat) (x v : AV) (mu : St) (k : St → RR) : RR := AV.rec (motive := fun _ => Nat → AV → St → (St → RR) → RR)
    (λs m v mu k=>SV.rec (motive:=λ_=>Nat → AV → St → (St → RR) → RR)
      (λ_ _ _ _=>zz)
      (λ_ _ _ _ _ _=>zz)
      (λ_ _ _ _ _=>zz)
      (λ_ _ _ _ _ _=>zz)
      (λ_ _ _ _=>zz)
      (λ_ _ _ _=>zz)
      (λ_ _ _ _=>zz)
      (λid off m v mu k=>AV.rec (motive:=λ_=>RR) (λs=>anyStore m (.one (.optr id off)) (.one s) mu k) (λl=>Nat.rec (motive:=λ_=>RR) (putF mu id m l (anyStore m (.one (.optr id 0)) (.ag l) mu k) k) (λo _=>anyStore m (.one (.optr id (Nat.succ o))) (.ag l) mu k) off) (λ_=>zz) v)
      (λ_ _ _ _ _ _ _ _ _=>zz)
      (λ_ _ _ _=>zz)
      (λ_ _ _ _=>zz)
      (λ_ _ _ _ _ _=>zz)
      (λ_ _ _ _ _ _=>zz)
      (λ_ _ _ _=>zz)
      (λ_ _ _ _ _=>zz)
      (λ_ _ _ _=>zz)
      (λ_ _ _ _ _=>zz) s m v mu k)
    (λ_ _ _ _ _=>zz) (λ_ _ _ _ _=>zz) x m v mu k
noncomputable def pFaddr (off : Nat) (x : AV) (k : AV → RR) : RR := AV.rec (motive := fun _ => Nat → (AV → RR) → RR)
    (λs off k=>SV.rec (motive:=λ_=>Nat → (AV → RR) → RR)
      (λ_ _=>zz)
      (λ_ _ _ _=>zz)
      (λ_ _ _=>zz)
      (λ_ _ _ _=>zz)
      (λ_ _=>zz)
      (λ_ _=>zz)
      (λ_ _=>zz)
      (λid o off k=>fN (Nat.add o off) λo=>k (.one (.optr id o)))
      (λ_ _ _ _ _ _ _=>zz)
      (λ_ _=>zz)
      (λ_ _=>zz)
      (λ_ _ _ _=>zz)
      (λ_ _ _ _=>zz)
      (λ_ _=>zz)
      (λ_ _ _=>zz)
      (λ_ _=>zz)
      (λ_ _ _=>zz) s off k)
    (λ_ _ _=>zz) (λ_ _ _=>zz) x off k
noncomputable def pNilc (x : AV) (k : AV → RR) : RR := AV.rec (motive := fun _ => (AV → RR) → RR)
    (λs k=>SV.rec (motive:=λ_=>(AV → RR) → RR)
      (λ_=>zz)
      (λ_ _ _=>zz)
      (λ_ _=>zz)
      (λ_ _ _=>zz)
      (λ_=>zz)
      (λ_=>zz)
      (λ_=>zz)
      (λid o k=>k (.one (.optr id o)))
      (λ_ _ _ _ _ _=>zz)
      (λ_=>zz)
      (λ_=>zz)
      (λf cs k=>k (.one (.fn f cs)))
      (λ_ _ _=>zz)
      (λ_=>zz)
      (λ_ _=>zz)
      (λ_=>zz)
      (λ_ _=>zz) s k)
    (λ_ _=>zz) (λ_ _=>zz) x k
noncomputable def pNot (x : AV) (k : AV → RR) : RR := AV.rec (motive := fun _ => (AV → RR) → RR)
    (λs k=>SV.rec (motive:=λ_=>(AV → RR) → RR)
      (λ_=>zz)
      (λ_ _ _=>zz)
      (λb k=>notF b k)
      (λ_ _ _=>zz)
      (λ_=>zz)
      (λ_=>zz)
      (λ_=>zz)
      (λ_ _ _=>zz)
      (λ_ _ _ _ _ _=>zz)
      (λ_=>zz)
      (λ_=>zz)
      (λ_ _ _=>zz)
      (λ_ _ _=>zz)
      (λ_=>zz)
      (λ_ _=>zz)
      (λ_=>zz)
      (λ_ _=>zz) s k)
    (λ_ _=>zz) (λ_ _=>zz) x k
noncomputable def pLenS (x : AV) (k : AV → RR) : RR := AV.rec (motive := fun _ => (AV → RR) → RR)
    (λs k=>SV.rec (motive:=λ_=>(AV → RR) → RR)
      (λ_=>zz)
      (λ_ _ _=>zz)
      (λ_ _=>zz)
      (λl _ k=>k (.one (.int .i64 (.ofNat l))))
      (λ_=>zz)
      (λ_=>zz)
      (λ_=>zz)
      (λ_ _ _=>zz)
      (λ_ _ _ _ _ _=>zz)
      (λ_=>zz)
      (λ_=>zz)
      (λ_ _ _=>zz)
      (λ_ _ _=>zz)
      (λ_=>zz)
      (λ_ _=>zz)
      (λ_=>zz)
      (λ_ _=>zz) s k)
    (λ_ _=>zz) (λ_ _=>zz) x k
noncomputable def pLen (x : AV) (k : AV → RR) : RR := AV.rec (motive := fun _ => (AV → RR) → RR)
    (λs k=>SV.rec (motive:=λ_=>(AV → RR) → RR)
      (λ_=>zz)
      (λ_ _ _=>zz)
      (λ_ _=>zz)
      (λ_ _ _=>zz)
      (λk=>k (.one (.int .i64 (.ofNat 0))))
      (λ_=>zz)
      (λ_=>zz)
      (λ_ _ _=>zz)
      (λ_ _ len _ _ k=>k (.one (.int .i64 (.ofNat len))))
      (λk=>k (.one (.int .i64 (.ofNat 0))))
      (λk=>k (.one (.int .i64 (.ofNat 0))))
      (λ_ _ _=>zz)
      (λ_ _ _=>zz)
      (λ_=>zz)
      (λ_ _=>zz)
      (λ_=>zz)
      (λ_ _=>zz) s k)
    (λ_ _=>zz) (λ_ _=>zz) x k
noncomputable def pPick (c a b : AV) (k : AV → RR) : RR := AV.rec (motive := fun _ => AV → AV → (AV → RR) → RR)
    (λs a b k=>SV.rec (motive:=λ_=>AV → AV → (AV → RR) → RR)
      (λ_ _ _=>zz)
      (λ_ _ _ _ _=>zz)
      (λt a b k=>Bool.rec (motive:=λ_=>RR) (fAV b k) (fAV a k) t)
      (λ_ _ _ _ _=>zz)
      (λ_ _ _=>zz)
      (λ_ _ _=>zz)
      (λ_ _ _=>zz)
      (λ_ _ _ _ _=>zz)
      (λ_ _ _ _ _ _ _ _=>zz)
      (λ_ _ _=>zz)
      (λ_ _ _=>zz)
      (λ_ _ _ _ _=>zz)
      (λ_ _ _ _ _=>zz)
      (λ_ _ _=>zz)
      (λ_ _ _ _=>zz)
      (λ_ _ _=>zz)
      (λ_ _ _ _=>zz) s a b k)
    (λ_ _ _ _=>zz) (λ_ _ _ _=>zz) c a b k
noncomputable def pExtr (x : AV) (i : Nat) (k : AV → RR) : RR:=AV.rec (motive:=λ_=>Nat → (AV → RR) → RR) (λ_ _ _=>zz) (λ_ _ _=>zz) (λps i k=>nthK ps i zz λc=>CV.rec (motive:=λ_=>RR) (λs=>k (.one s)) (λl=>k (.ag l)) c) x i k
noncomputable def pIaddr2 (s : Nat) (x : AV) (j : Nat) (k : AV → RR) : RR := AV.rec (motive := fun _ => Nat → Nat → (AV → RR) → RR)
    (λv s j k=>SV.rec (motive:=λ_=>Nat → Nat → (AV → RR) → RR)
      (λ_ _ _=>zz)
      (λ_ _ _ _ _=>zz)
      (λ_ _ _ _=>zz)
      (λ_ _ _ _ _=>zz)
      (λ_ _ _=>zz)
      (λ_ _ _=>zz)
      (λ_ _ _=>zz)
      (λ_ _ _ _ _=>zz)
      (λid off len _ s' s j k=>Bool.rec (motive:=λ_=>RR) zz (Bool.rec (motive:=λ_=>RR) zz (fN (Nat.add off (Nat.mul j s)) λo=>k (.one (.optr id o))) (Nat.ble (Nat.succ j) len)) (Nat.beq s' s))
      (λ_ _ _=>zz)
      (λ_ _ _=>zz)
      (λ_ _ _ _ _=>zz)
      (λ_ _ _ _ _=>zz)
      (λ_ _ _=>zz)
      (λ_ _ _ _=>zz)
      (λ_ _ _=>zz)
      (λ_ _ _ _=>zz) v s j k)
    (λ_ _ _ _=>zz) (λ_ _ _ _=>zz) x s j k
noncomputable def pIaddr (s : Nat) (x i : AV) (k : AV → RR) : RR := AV.rec (motive := fun _ => Nat → AV → (AV → RR) → RR)
    (λv s x k=>SV.rec (motive:=λ_=>Nat → AV → (AV → RR) → RR)
      (λ_ _ _=>zz)
      (λ_ i s x k=>Int.rec (motive:=λ_=>RR) (λj=>pIaddr2 s x j k) (λ_=>zz) i)
      (λ_ _ _ _=>zz)
      (λ_ _ _ _ _=>zz)
      (λ_ _ _=>zz)
      (λ_ _ _=>zz)
      (λ_ _ _=>zz)
      (λ_ _ _ _ _=>zz)
      (λ_ _ _ _ _ _ _ _=>zz)
      (λ_ _ _=>zz)
      (λ_ _ _=>zz)
      (λ_ _ _ _ _=>zz)
      (λ_ _ _ _ _=>zz)
      (λ_ _ _=>zz)
      (λ_ _ _ _=>zz)
      (λ_ _ _=>zz)
      (λ_ _ _ _=>zz) v s x k)
    (λ_ _ _ _=>zz) (λ_ _ _ _=>zz) i s x k
noncomputable def forceV (x : AV) (orc : Orc RR) (k : AV → RR) : RR := AV.rec (motive := fun _ => Orc RR → (AV → RR) → RR)
    (λs orc k=>SV.rec (motive:=λ_=>Orc RR → (AV → RR) → RR)
      (λ_ k=>k (.one (.un)))
      (λz0 z1 _ k=>k (.one (.int z0 z1)))
      (λz0 _ k=>k (.one (.bool z0)))
      (λz0 z1 _ k=>k (.one (.str z0 z1)))
      (λ_ k=>k (.one (.nsl)))
      (λ_ k=>k (.one (.npt)))
      (λ_ k=>k (.one (.nfn)))
      (λz0 z1 _ k=>k (.one (.optr z0 z1)))
      (λz0 z1 z2 z3 z4 _ k=>k (.one (.osl z0 z1 z2 z3 z4)))
      (λ_ k=>k (.one (.esl)))
      (λ_ k=>k (.one (.zsl)))
      (λz0 z1 _ k=>k (.one (.fn z0 z1)))
      (λkd i orc k=>orc.force i λv=>fI v λv=>k (.one (.int kd v)))
      (λ_ k=>k (.one (.nmp)))
      (λz0 _ k=>k (.one (.mp z0)))
      (λ_ k=>k (.one (.nif)))
      (λz0 _ k=>k (.one (.mk z0))) s orc k)
    (λl _ k=>k (.ag l)) (λl _ k=>k (.tp l)) x orc k
noncomputable def qAlloc (zero : List SV) (mu : St) (n : Nat) (k : KT RR) : RR:=fN (Nat.succ n) λm=>k (.one (.optr n 0)) ((n,zero) :: mu) m
noncomputable def qBox (x : AV) (mu : St) (n : Nat) (k : KT RR) : RR:=oBox zz [] mu n (.c x) k
noncomputable def qCallR (orc : Orc RR) (call : CallT RR) (g : Nat) (vs : List AV) (fz : Fz) (mu : St) (n : Nat) (k : KT RR) : RR:=call g vs (withF mu fz) [] n λv new n'=>sweepG orc.sw n v new λnew=>joinK new mu λmu=>k v mu n'
noncomputable def qOth (orc : Orc RR) (call : CallT RR) (fz : Fz) (mu : St) (n : Nat) (ro : Bool) (op : AOp) (k : KT RR) : RR:=aop orc zz call fz [] mu n ro op k
noncomputable def wantF (v : AV) (want : Bool) (yes no : RR) : RR:=AV.rec (motive:=λ_=>Bool → RR → RR → RR)
  (fun s want yes no => SV.rec (motive := fun _ => Bool → RR → RR → RR)
      (λ_ _ _=>zz)
      (λ_ _ _ _ _=>zz)
      (λb want yes no=>Bool.rec (motive:=λ_=>RR) (Bool.rec (motive:=λ_=>RR) yes no want) (Bool.rec (motive:=λ_=>RR) no yes want) b)
      (λ_ _ _ _ _=>zz)
      (λ_ _ _=>zz)
      (λ_ _ _=>zz)
      (λ_ _ _=>zz)
      (λ_ _ _ _ _=>zz)
      (λ_ _ _ _ _ _ _ _=>zz)
      (λ_ _ _=>zz)
      (λ_ _ _=>zz)
      (λ_ _ _ _ _=>zz)
      (λ_ _ _ _ _=>zz)
      (λ_ _ _=>zz)
      (λ_ _ _ _=>zz)
      (λ_ _ _=>zz)
      (λ_ _ _ _=>zz) s want yes no)
  (λ_ _ _ _=>zz) (λl _ _ no=>List.rec (motive:=λ_=>RR) no (λ_ _ _=>zz) l) v want yes no
noncomputable def gd (g : AV) (want : Bool) (f : KT RR → RR) (mu : St) (n : Nat) (J : KT RR) : RR:=wantF g want (f J) (J noVal mu n)
noncomputable def gdD (g : AV) (want : Bool) (mu : St) (ad : List St) (n : Nat) (f : (AV → St → List St → Nat → RR) → RR) (J : AV → St → List St → Nat → RR) : RR:=wantF g want (f J) (J noVal mu ad n)
noncomputable def vIf (c : AV) (a b : RR) : RR:=AV.rec (motive:=λ_=>RR → RR → RR)
  (fun s a b => SV.rec (motive := fun _ => RR → RR → RR)
      (λ_ _=>zz)
      (λ_ _ _ _=>zz)
      (λy a b=>Bool.rec (motive:=λ_=>RR) b a y)
      (λ_ _ _ _=>zz)
      (λ_ _=>zz)
      (λ_ _=>zz)
      (λ_ _=>zz)
      (λ_ _ _ _=>zz)
      (λ_ _ _ _ _ _ _=>zz)
      (λ_ _=>zz)
      (λ_ _=>zz)
      (λ_ _ _ _=>zz)
      (λ_ _ _ _=>zz)
      (λ_ _=>zz)
      (λ_ _ _=>zz)
      (λ_ _=>zz)
      (λ_ _ _=>zz) s a b)
  (λ_ _ _=>zz) (λ_ _ _=>zz) c a b
noncomputable def onward (next : Fm → St → Nat → RR) (k : AExit → Fm → St → Nat → RR) : AExit → Fm → St → Nat → RR:=λe t mu n=>AExit.rec (motive:=λ_=>RR) (next t mu n) (λid=>k (.exit id) t mu n) (k .ret t mu n) e
noncomputable def inBlk (id : Nat) (next : Fm → St → Nat → RR) (k : AExit → Fm → St → Nat → RR) : AExit → Fm → St → Nat → RR:=λe t mu n=>AExit.rec (motive:=λ_=>RR) (next t mu n) (λid'=>Bool.rec (motive:=λ_=>RR) (k (.exit id') t mu n) (next t mu n) (Nat.beq id' id)) (k .ret t mu n) e
noncomputable def cNorm : HC:=λ_ _ _ t mu n k=>k .normal t mu n
noncomputable def cRet : HC:=λ_ _ _ t mu n k=>k .ret t mu n
noncomputable def cExit (id : Nat) : HC:=λ_ _ _ t mu n k=>k (.exit id) t mu n
noncomputable def cBad : HC:=λ_ _ _ _ _ _ _=>zz
noncomputable def tIf (c : AV) (a b : HC) : HC:=λorc call fz t mu n k=>vIf c (a orc call fz t mu n k) (b orc call fz t mu n k)
noncomputable def tIfN (c : AV) (a b next : HC) : HC:=λorc call fz t mu n k=>(λk=>vIf c (a orc call fz t mu n k) (b orc call fz t mu n k)) (onward (next orc call fz · · · k) k)
noncomputable def tTest (c : AV) (id : Nat) (next : HC) : HC:=λorc call fz t mu n k=>vIf c (next orc call fz t mu n k) (k (.exit id) t mu n)
noncomputable def cIf (c : GT) (a b : HC) : HC:=λorc call fz t mu n k=>tIf (c t) a b orc call fz t mu n k
noncomputable def cIfN (c : GT) (a b next : HC) : HC:=λorc call fz t mu n k=>tIfN (c t) a b next orc call fz t mu n k
noncomputable def cTest (c : GT) (id : Nat) (next : HC) : HC:=λorc call fz t mu n k=>tTest (c t) id next orc call fz t mu n k
noncomputable def cBlk (id : Nat) (a next : HC) : HC:=λorc call fz t mu n k=>a orc call fz t mu n (inBlk id (next orc call fz · · · k) k)
noncomputable def loopK (a : HC) (orc : Orc RR) (call : CallT RR) (fz : Fz) (fuel : Nat) : Fm → St → Nat → (AExit → Fm → St → Nat → RR) → RR :=
  Nat.rec (motive:=λ_=>Fm → St → Nat → (AExit → Fm → St → Nat → RR) → RR) (λ_ _ _ _=>zz) (λ_ ih t mu n k=>a orc call fz t mu n (onward (ih · · · k) k)) fuel
noncomputable def cLoop (a next : HC) : HC:=λorc call fz t mu n k=>loopK a orc call fz 100000 t mu n (onward (next orc call fz · · · k) k)
abbrev OF:=Fz → St → Nat → KT RR → RR
noncomputable def dr0 (f : OF) (n : Nat) (J : AV → Nat → RR) : RR:=f (λ_=>none) [] n λv new n=>List.rec (motive:=λ_=>RR) (J v n) (λ_ _ _=>zz) new
noncomputable def dr1 (f : OF) (anc : List Nat) (i : Nat) (fz : Fz) (mu : St) (ad : List St) (n : Nat) (J : AV → List St → Nat → RR) : RR:=f (with' (adsOf ad anc) (with' mu fz)) [] n λv new n=>setK ad i new λad=>J v ad n
noncomputable def dM (x : AV) (n : Nat) (J : AV → Nat → RR) : RR:=dr0 (λ_ mu n k=>k x mu n) n J
noncomputable def dP (f : (AV → RR) → RR) (n : Nat) (J : AV → Nat → RR) : RR:=dr0 (λ_ mu n k=>f λv=>k v mu n) n J
noncomputable def dL (f : Fz → St → (AV → RR) → RR) (anc : List Nat) (i : Nat) (fz : Fz) (mu : St) (ad : List St) (n : Nat) (J : AV → List St → Nat → RR) : RR:=dr1 (λfz mu n k=>f fz mu λv=>k v mu n) anc i fz mu ad n J
noncomputable def dr2 (f : OF) (anc : List Nat) (fz : Fz) (mu : St) (ad : List St) (n : Nat) (J : AV → St → List St → Nat → RR) : RR:=joinK (adsOf ad anc) mu λmu=>clearK anc ad λad=>f fz mu n λv mu n=>J v mu ad n
noncomputable def dr3 (f : OF) (i : Nat) (ad : List St) (n : Nat) (J : AV → List St → Nat → RR) : RR:=f (λ_=>none) [] n λv new n=>setK ad i new λad=>J v ad n
noncomputable def dr4 (f : OF) (anc : List Nat) (i : Nat) (ad : List St) (n : Nat) (J : AV → List St → Nat → RR) : RR:=joinK (nth [] ad i) (adsOf ad anc) λown=>f (λ_=>none) own n λv new n=>clearK anc ad λad=>setK ad i new λad=>J v ad n
noncomputable def apS (x : AV) (i : Nat) (mu : St) (ad : List St) (J : St → List St → RR) : RR:=setApart x i mu ad J
abbrev RF:=Fz → Fm → St → (AV → RR) → RR
noncomputable def rTmp (g : GT) : RF:=λ_ t _ k=>fAV (g t) k
noncomputable def rCell (v : AV) (agg : Bool) (m : Nat) (fz : Fz) (mu : St) (k : AV → RR) : RR:=v.onOne zz λs=>s.onPtr zz λid off=>lookAll fz mu id zz λcs=>subK cs off m zz λc=>asRes agg c zz k
abbrev IF:=List AV → (Fm → RR) → RR
noncomputable def init0 : IF:=λl k=>List.rec (motive:=λ_=>(Fm → RR) → RR) (λk=>k (.mk (.one .un) (.one .un) (.one .un) (.one .un) (.one .un) (.one .un) (.one .un) (.one .un) t2U)) (λ_ _ _ _=>zz) l k
noncomputable def init1 : IF:=λl k=>List.rec (motive:=λ_=>(Fm → RR) → RR) (λ_=>zz) (λa0 l _ k=>List.rec (motive:=λ_=>(Fm → RR) → RR) (λk=>k (.mk a0 (.one .un) (.one .un) (.one .un) (.one .un) (.one .un) (.one .un) (.one .un) t2U)) (λ_ _ _ _=>zz) l k) l k
noncomputable def init2 : IF:=λl k=>List.rec (motive:=λ_=>(Fm → RR) → RR) (λ_=>zz) (λa0 l _ k=>List.rec (motive:=λ_=>(Fm → RR) → RR) (λ_=>zz) (λa1 l _ k=>List.rec (motive:=λ_=>(Fm → RR) → RR) (λk=>k (.mk a0 a1 (.one .un) (.one .un) (.one .un) (.one .un) (.one .un) (.one .un) t2U)) (λ_ _ _ _=>zz) l k) l k) l k
noncomputable def init3 : IF:=λl k=>List.rec (motive:=λ_=>(Fm → RR) → RR) (λ_=>zz) (λa0 l _ k=>List.rec (motive:=λ_=>(Fm → RR) → RR) (λ_=>zz) (λa1 l _ k=>List.rec (motive:=λ_=>(Fm → RR) → RR) (λ_=>zz) (λa2 l _ k=>List.rec (motive:=λ_=>(Fm → RR) → RR) (λk=>k (.mk a0 a1 a2 (.one .un) (.one .un) (.one .un) (.one .un) (.one .un) t2U)) (λ_ _ _ _=>zz) l k) l k) l k) l k
noncomputable def init4 : IF:=λl k=>List.rec (motive:=λ_=>(Fm → RR) → RR) (λ_=>zz) (λa0 l _ k=>List.rec (motive:=λ_=>(Fm → RR) → RR) (λ_=>zz) (λa1 l _ k=>List.rec (motive:=λ_=>(Fm → RR) → RR) (λ_=>zz) (λa2 l _ k=>List.rec (motive:=λ_=>(Fm → RR) → RR) (λ_=>zz) (λa3 l _ k=>List.rec (motive:=λ_=>(Fm → RR) → RR) (λk=>k (.mk a0 a1 a2 a3 (.one .un) (.one .un) (.one .un) (.one .un) t2U)) (λ_ _ _ _=>zz) l k) l k) l k) l k) l k
noncomputable def init5 : IF:=λl k=>List.rec (motive:=λ_=>(Fm → RR) → RR) (λ_=>zz) (λa0 l _ k=>List.rec (motive:=λ_=>(Fm → RR) → RR) (λ_=>zz) (λa1 l _ k=>List.rec (motive:=λ_=>(Fm → RR) → RR) (λ_=>zz) (λa2 l _ k=>List.rec (motive:=λ_=>(Fm → RR) → RR) (λ_=>zz) (λa3 l _ k=>List.rec (motive:=λ_=>(Fm → RR) → RR) (λ_=>zz) (λa4 l _ k=>List.rec (motive:=λ_=>(Fm → RR) → RR) (λk=>k (.mk a0 a1 a2 a3 a4 (.one .un) (.one .un) (.one .un) t2U)) (λ_ _ _ _=>zz) l k) l k) l k) l k) l k) l k
noncomputable def init6 : IF:=λl k=>List.rec (motive:=λ_=>(Fm → RR) → RR) (λ_=>zz) (λa0 l _ k=>List.rec (motive:=λ_=>(Fm → RR) → RR) (λ_=>zz) (λa1 l _ k=>List.rec (motive:=λ_=>(Fm → RR) → RR) (λ_=>zz) (λa2 l _ k=>List.rec (motive:=λ_=>(Fm → RR) → RR) (λ_=>zz) (λa3 l _ k=>List.rec (motive:=λ_=>(Fm → RR) → RR) (λ_=>zz) (λa4 l _ k=>List.rec (motive:=λ_=>(Fm → RR) → RR) (λ_=>zz) (λa5 l _ k=>List.rec (motive:=λ_=>(Fm → RR) → RR) (λk=>k (.mk a0 a1 a2 a3 a4 a5 (.one .un) (.one .un) t2U)) (λ_ _ _ _=>zz) l k) l k) l k) l k) l k) l k) l k
noncomputable def init7 : IF:=λl k=>List.rec (motive:=λ_=>(Fm → RR) → RR) (λ_=>zz) (λa0 l _ k=>List.rec (motive:=λ_=>(Fm → RR) → RR) (λ_=>zz) (λa1 l _ k=>List.rec (motive:=λ_=>(Fm → RR) → RR) (λ_=>zz) (λa2 l _ k=>List.rec (motive:=λ_=>(Fm → RR) → RR) (λ_=>zz) (λa3 l _ k=>List.rec (motive:=λ_=>(Fm → RR) → RR) (λ_=>zz) (λa4 l _ k=>List.rec (motive:=λ_=>(Fm → RR) → RR) (λ_=>zz) (λa5 l _ k=>List.rec (motive:=λ_=>(Fm → RR) → RR) (λ_=>zz) (λa6 l _ k=>List.rec (motive:=λ_=>(Fm → RR) → RR) (λk=>k (.mk a0 a1 a2 a3 a4 a5 a6 (.one .un) t2U)) (λ_ _ _ _=>zz) l k) l k) l k) l k) l k) l k) l k) l k
noncomputable def init8 : IF:=λl k=>List.rec (motive:=λ_=>(Fm → RR) → RR) (λ_=>zz) (λa0 l _ k=>List.rec (motive:=λ_=>(Fm → RR) → RR) (λ_=>zz) (λa1 l _ k=>List.rec (motive:=λ_=>(Fm → RR) → RR) (λ_=>zz) (λa2 l _ k=>List.rec (motive:=λ_=>(Fm → RR) → RR) (λ_=>zz) (λa3 l _ k=>List.rec (motive:=λ_=>(Fm → RR) → RR) (λ_=>zz) (λa4 l _ k=>List.rec (motive:=λ_=>(Fm → RR) → RR) (λ_=>zz) (λa5 l _ k=>List.rec (motive:=λ_=>(Fm → RR) → RR) (λ_=>zz) (λa6 l _ k=>List.rec (motive:=λ_=>(Fm → RR) → RR) (λ_=>zz) (λa7 l _ k=>List.rec (motive:=λ_=>(Fm → RR) → RR) (λk=>k (.mk a0 a1 a2 a3 a4 a5 a6 a7 t2U)) (λ_ _ _ _=>zz) l k) l k) l k) l k) l k) l k) l k) l k) l k
inductive HFunc where
  | mk (init : IF) (res : RF) (body : HC) (gc : Bool)
inductive HTree where
  | nil
  | node (k : Nat) (f : HFunc) (l r : HTree)
noncomputable def HTree.find (t : HTree) (f : Nat) : Option HFunc :=
  HTree.rec (motive:=λ_=>Nat → Option HFunc) (λ_=>none) (λk v _ _ ihl ihr f=>Bool.rec (motive:=λ_=>Option HFunc) (Bool.rec (motive:=λ_=>Option HFunc) (ihr f) (ihl f) (Nat.ble f k)) (some v) (Nat.beq f k)) t f
noncomputable def ends (res : RF) (fz : Fz) (k : AV → St → Nat → RR) : AExit → Fm → St → Nat → RR:=λe t mu n =>
  AExit.rec (motive:=λ_=>RR) (res fz t mu λv=>k v mu n) (λ_=>zz) (res fz t mu λv=>k v mu n) e
noncomputable def gcK (gc : Bool) (n0 : Nat) (k : KT RR) : KT RR:=Bool.rec (motive:=λ_=>KT RR) k (λv mu n=>sweepK n0 v mu λmu=>k v mu n) gc
noncomputable def hcall (orc : Orc RR) (K : Nat → Option (Contract RR)) (F : Nat → Option HFunc) (depth : Nat) : CallT RR :=
  Nat.rec (motive:=λ_=>CallT RR) (λ_ _ _ _ _ _=>zz)
    (λ_ ih f args fz mu n k=>Option.rec (motive:=λ_=>RR)
      (Option.rec (motive:=λ_=>RR) zz (λfn=>HFunc.rec (motive:=λ_=>RR) (λinit res body gc=>init args λt=>body orc ih fz t mu n (ends res fz (gcK gc n k))) fn) (F f))
      (λc=>c args fz mu n k) (K f)) depth
end Go.Ev
namespace Go.Ev
theorem fAV_eq (v : AV) (k : AV → RR) : fAV v k = k v:=by cases v <;> rfl
theorem keq_eq (a b : IntKind) : keq a b = IntKind.eqb a b:=by cases a <;> cases b <;> rfl
theorem ltF_eq (a b : Int) : ltF a b = ltI a b:=by cases a <;> cases b <;> rfl
theorem eqF_eq (a b : Int) : eqF a b = eqI a b:=by cases a <;> cases b <;> rfl
theorem wrap_lim {kd : IntKind} {n : Nat} (h : n ≤ lim kd) : kd.wrap (n : Int) = n:=by
  cases kd <;> simp only [lim] at h <;> simp [IntKind.wrap,IntKind.bits,IntKind.signed] <;> omega
theorem fitN_eq {s : Nat} {kd : IntKind} {k : Int → RR} {no : RR} (h : no = k (kd.wrap (s : Int))) : fitN s kd no k = k (kd.wrap (s : Int)):=by
  cases s with
  | zero =>
    have : kd.wrap ((0 : Nat) : Int) = (0 : Nat):=wrap_lim (Nat.zero_le _)
    rw [this]; rfl
  | succ p =>
    show Bool.rec (motive:=λ_=>RR) no (k (Int.ofNat (Nat.succ p))) (Nat.ble (Nat.succ p) (lim kd)) = _
    cases e : Nat.ble (Nat.succ p) (lim kd) with
    | false=>exact h
    | true=>rw [wrap_lim (Nat.le_of_ble_eq_true e)]; rfl
theorem addF_eq {a b : Int} {kd : IntKind} {k : Int → RR} {no : RR} (h : no = k (kd.wrap (a + b))) : addF a b kd no k = k (kd.wrap (a + b)):=by
  cases a with
  | negSucc m=>exact h
  | ofNat m=>cases b with
    | negSucc n=>exact h
    | ofNat n=>exact fitN_eq h
theorem subF_eq {a b : Int} {kd : IntKind} {k : Int → RR} {no : RR} (h : no = k (kd.wrap (a - b))) : subF a b kd no k = k (kd.wrap (a - b)):=by
  cases a with
  | negSucc m=>exact h
  | ofNat m=>cases b with
    | negSucc n=>exact h
    | ofNat n =>
      show Bool.rec (motive:=λ_=>RR) no (fitN (Nat.sub m n) kd no k) (Nat.ble n m) = _
      cases e : Nat.ble n m with
      | false=>exact h
      | true =>
        have h1:=Nat.le_of_ble_eq_true e
        have h2 : Int.ofNat m - Int.ofNat n = ((m - n : Nat) : Int):=by simp; omega
        rw [h2] at h ⊢
        exact fitN_eq h
theorem p_add_eq (x y : AV) (orc : Orc RR) (mu : St) (n : Nat) (k : KT RR) : (p_add x y orc λv=>k v mu n) = oBin orc zz [] mu n .add (.c x) (.c y) k:=by
  cases x with
  | ag l=>rfl
  | tp l=>rfl
  | one s =>
    cases s with
    | int kd a =>
      cases y with
      | ag l=>rfl
      | tp l=>rfl
      | one u =>
        cases u with
        | int kd' b =>
          show Bool.rec (motive:=λ_=>RR) zz (addF a b kd (binI .add kd a b zz λr=>k (.one r) mu n) λx=>k (.one (.int kd x)) mu n) (keq kd kd') = cond (IntKind.eqb kd kd') (binI .add kd a b zz λr=>k (.one r) mu n) zz
          have e : binI .add kd a b zz (λr=>k (.one r) mu n) = k (.one (.int kd (kd.wrap (a + b)))) mu n:=by
            show wrapK kd (Int.add a b) (λx=>k (.one (.int kd x)) mu n) = _
            rw [wrapK_eq]; rfl
          rw [keq_eq,addF_eq (k:=λx=>k (.one (.int kd x)) mu n) e,e]
          cases IntKind.eqb kd kd' <;> rfl
        | _=>rfl
    | sym kd i=>rfl
    | _ =>
      cases y with
      | ag l=>rfl
      | tp l=>rfl
      | one u=>cases u <;> rfl
theorem p_sub_eq (x y : AV) (orc : Orc RR) (mu : St) (n : Nat) (k : KT RR) : (p_sub x y orc λv=>k v mu n) = oBin orc zz [] mu n .sub (.c x) (.c y) k:=by
  cases x with
  | ag l=>rfl
  | tp l=>rfl
  | one s =>
    cases s with
    | int kd a =>
      cases y with
      | ag l=>rfl
      | tp l=>rfl
      | one u =>
        cases u with
        | int kd' b =>
          show Bool.rec (motive:=λ_=>RR) zz (subF a b kd (binI .sub kd a b zz λr=>k (.one r) mu n) λx=>k (.one (.int kd x)) mu n) (keq kd kd') = cond (IntKind.eqb kd kd') (binI .sub kd a b zz λr=>k (.one r) mu n) zz
          have e : binI .sub kd a b zz (λr=>k (.one r) mu n) = k (.one (.int kd (kd.wrap (a - b)))) mu n:=by
            show wrapK kd (Int.sub a b) (λx=>k (.one (.int kd x)) mu n) = _
            rw [wrapK_eq]; rfl
          rw [keq_eq,subF_eq (k:=λx=>k (.one (.int kd x)) mu n) e,e]
          cases IntKind.eqb kd kd' <;> rfl
        | _=>rfl
    | sym kd i=>rfl
    | _ =>
      cases y with
      | ag l=>rfl
      | tp l=>rfl
      | one u=>cases u <;> rfl
theorem p_mul_eq (x y : AV) (orc : Orc RR) (mu : St) (n : Nat) (k : KT RR) : (p_mul x y orc λv=>k v mu n) = oBin orc zz [] mu n .mul (.c x) (.c y) k:=by
  cases x with
  | ag l=>rfl
  | tp l=>rfl
  | one s =>
    cases s with
    | int kd a =>
      cases y with
      | ag l=>rfl
      | tp l=>rfl
      | one u =>
        cases u with
        | int kd' b =>
          show Bool.rec (motive:=λ_=>RR) zz (binI .mul kd a b zz λr=>k (.one r) mu n) (keq kd kd') = cond (IntKind.eqb kd kd') (binI .mul kd a b zz λr=>k (.one r) mu n) zz
          rw [keq_eq]
          cases IntKind.eqb kd kd' <;> rfl
        | _=>rfl
    | sym kd i=>rfl
    | _ =>
      cases y with
      | ag l=>rfl
      | tp l=>rfl
      | one u=>cases u <;> rfl
theorem p_quo_eq (x y : AV) (orc : Orc RR) (mu : St) (n : Nat) (k : KT RR) : (p_quo x y orc λv=>k v mu n) = oBin orc zz [] mu n .quo (.c x) (.c y) k:=by
  cases x with
  | ag l=>rfl
  | tp l=>rfl
  | one s =>
    cases s with
    | int kd a =>
      cases y with
      | ag l=>rfl
      | tp l=>rfl
      | one u =>
        cases u with
        | int kd' b =>
          show Bool.rec (motive:=λ_=>RR) zz (binI .quo kd a b zz λr=>k (.one r) mu n) (keq kd kd') = cond (IntKind.eqb kd kd') (binI .quo kd a b zz λr=>k (.one r) mu n) zz
          rw [keq_eq]
          cases IntKind.eqb kd kd' <;> rfl
        | _=>rfl
    | sym kd i=>rfl
    | _ =>
      cases y with
      | ag l=>rfl
      | tp l=>rfl
      | one u=>cases u <;> rfl
theorem p_rem_eq (x y : AV) (orc : Orc RR) (mu : St) (n : Nat) (k : KT RR) : (p_rem x y orc λv=>k v mu n) = oBin orc zz [] mu n .rem (.c x) (.c y) k:=by
  cases x with
  | ag l=>rfl
  | tp l=>rfl
  | one s =>
    cases s with
    | int kd a =>
      cases y with
      | ag l=>rfl
      | tp l=>rfl
      | one u =>
        cases u with
        | int kd' b =>
          show Bool.rec (motive:=λ_=>RR) zz (binI .rem kd a b zz λr=>k (.one r) mu n) (keq kd kd') = cond (IntKind.eqb kd kd') (binI .rem kd a b zz λr=>k (.one r) mu n) zz
          rw [keq_eq]
          cases IntKind.eqb kd kd' <;> rfl
        | _=>rfl
    | sym kd i=>rfl
    | _ =>
      cases y with
      | ag l=>rfl
      | tp l=>rfl
      | one u=>cases u <;> rfl
theorem p_and_eq (x y : AV) (orc : Orc RR) (mu : St) (n : Nat) (k : KT RR) : (p_and x y orc λv=>k v mu n) = oBin orc zz [] mu n .and (.c x) (.c y) k:=by
  cases x with
  | ag l=>rfl
  | tp l=>rfl
  | one s =>
    cases s with
    | int kd a =>
      cases y with
      | ag l=>rfl
      | tp l=>rfl
      | one u =>
        cases u with
        | int kd' b =>
          show Bool.rec (motive:=λ_=>RR) zz (binI .and kd a b zz λr=>k (.one r) mu n) (keq kd kd') = cond (IntKind.eqb kd kd') (binI .and kd a b zz λr=>k (.one r) mu n) zz
          rw [keq_eq]
          cases IntKind.eqb kd kd' <;> rfl
        | _=>rfl
    | sym kd i=>rfl
    | _ =>
      cases y with
      | ag l=>rfl
      | tp l=>rfl
      | one u=>cases u <;> rfl
theorem p_or_eq (x y : AV) (orc : Orc RR) (mu : St) (n : Nat) (k : KT RR) : (p_or x y orc λv=>k v mu n) = oBin orc zz [] mu n .or (.c x) (.c y) k:=by
  cases x with
  | ag l=>rfl
  | tp l=>rfl
  | one s =>
    cases s with
    | int kd a =>
      cases y with
      | ag l=>rfl
      | tp l=>rfl
      | one u =>
        cases u with
        | int kd' b =>
          show Bool.rec (motive:=λ_=>RR) zz (binI .or kd a b zz λr=>k (.one r) mu n) (keq kd kd') = cond (IntKind.eqb kd kd') (binI .or kd a b zz λr=>k (.one r) mu n) zz
          rw [keq_eq]
          cases IntKind.eqb kd kd' <;> rfl
        | _=>rfl
    | sym kd i=>rfl
    | _ =>
      cases y with
      | ag l=>rfl
      | tp l=>rfl
      | one u=>cases u <;> rfl
theorem p_xor_eq (x y : AV) (orc : Orc RR) (mu : St) (n : Nat) (k : KT RR) : (p_xor x y orc λv=>k v mu n) = oBin orc zz [] mu n .xor (.c x) (.c y) k:=by
  cases x with
  | ag l=>rfl
  | tp l=>rfl
  | one s =>
    cases s with
    | int kd a =>
      cases y with
      | ag l=>rfl
      | tp l=>rfl
      | one u =>
        cases u with
        | int kd' b =>
          show Bool.rec (motive:=λ_=>RR) zz (binI .xor kd a b zz λr=>k (.one r) mu n) (keq kd kd') = cond (IntKind.eqb kd kd') (binI .xor kd a b zz λr=>k (.one r) mu n) zz
          rw [keq_eq]
          cases IntKind.eqb kd kd' <;> rfl
        | _=>rfl
    | sym kd i=>rfl
    | _ =>
      cases y with
      | ag l=>rfl
      | tp l=>rfl
      | one u=>cases u <;> rfl
theorem p_shl_eq (x y : AV) (orc : Orc RR) (mu : St) (n : Nat) (k : KT RR) : (p_shl x y orc λv=>k v mu n) = oBin orc zz [] mu n .shl (.c x) (.c y) k:=by
  cases x with
  | ag l=>rfl
  | tp l=>rfl
  | one s =>
    cases s with
    | int kd a =>
      cases y with
      | ag l=>rfl
      | tp l=>rfl
      | one u =>
        cases u with
        | int kd' b =>
          show Bool.rec (motive:=λ_=>RR) zz (binI .shl kd a b zz λr=>k (.one r) mu n) (keq kd kd') = cond (IntKind.eqb kd kd') (binI .shl kd a b zz λr=>k (.one r) mu n) zz
          rw [keq_eq]
          cases IntKind.eqb kd kd' <;> rfl
        | _=>rfl
    | sym kd i=>rfl
    | _ =>
      cases y with
      | ag l=>rfl
      | tp l=>rfl
      | one u=>cases u <;> rfl
theorem p_shr_eq (x y : AV) (orc : Orc RR) (mu : St) (n : Nat) (k : KT RR) : (p_shr x y orc λv=>k v mu n) = oBin orc zz [] mu n .shr (.c x) (.c y) k:=by
  cases x with
  | ag l=>rfl
  | tp l=>rfl
  | one s =>
    cases s with
    | int kd a =>
      cases y with
      | ag l=>rfl
      | tp l=>rfl
      | one u =>
        cases u with
        | int kd' b =>
          show Bool.rec (motive:=λ_=>RR) zz (binI .shr kd a b zz λr=>k (.one r) mu n) (keq kd kd') = cond (IntKind.eqb kd kd') (binI .shr kd a b zz λr=>k (.one r) mu n) zz
          rw [keq_eq]
          cases IntKind.eqb kd kd' <;> rfl
        | _=>rfl
    | sym kd i=>rfl
    | _ =>
      cases y with
      | ag l=>rfl
      | tp l=>rfl
      | one u=>cases u <;> rfl
theorem p_andNot_eq (x y : AV) (orc : Orc RR) (mu : St) (n : Nat) (k : KT RR) : (p_andNot x y orc λv=>k v mu n) = oBin orc zz [] mu n .andNot (.c x) (.c y) k:=by
  cases x with
  | ag l=>rfl
  | tp l=>rfl
  | one s =>
    cases s with
    | int kd a =>
      cases y with
      | ag l=>rfl
      | tp l=>rfl
      | one u =>
        cases u with
        | int kd' b =>
          show Bool.rec (motive:=λ_=>RR) zz (binI .andNot kd a b zz λr=>k (.one r) mu n) (keq kd kd') = cond (IntKind.eqb kd kd') (binI .andNot kd a b zz λr=>k (.one r) mu n) zz
          rw [keq_eq]
          cases IntKind.eqb kd kd' <;> rfl
        | _=>rfl
    | sym kd i=>rfl
    | _ =>
      cases y with
      | ag l=>rfl
      | tp l=>rfl
      | one u=>cases u <;> rfl
theorem p_eql_eq (x y : AV) (orc : Orc RR) (mu : St) (n : Nat) (k : KT RR) : (p_eql x y orc λv=>k v mu n) = oBin orc zz [] mu n .eql (.c x) (.c y) k:=by
  cases x with
  | ag l=>rfl
  | tp l=>rfl
  | one s =>
    cases s with
    | int kd a =>
      cases y with
      | ag l=>rfl
      | tp l=>rfl
      | one u =>
        cases u with
        | int kd' b =>
          show Bool.rec (motive:=λ_=>RR) zz (yesF (eqF a b) λv=>k v mu n) (keq kd kd') = cond (IntKind.eqb kd kd') (fB (eqI a b) λr=>k (.one (.bool r)) mu n) zz
          rw [keq_eq,eqF_eq]
          cases IntKind.eqb kd kd' <;> cases eqI a b <;> rfl
        | _=>rfl
    | sym kd i=>rfl
    | _ =>
      cases y with
      | ag l=>rfl
      | tp l=>rfl
      | one u=>cases u <;> rfl
theorem p_neq_eq (x y : AV) (orc : Orc RR) (mu : St) (n : Nat) (k : KT RR) : (p_neq x y orc λv=>k v mu n) = oBin orc zz [] mu n .neq (.c x) (.c y) k:=by
  cases x with
  | ag l=>rfl
  | tp l=>rfl
  | one s =>
    cases s with
    | int kd a =>
      cases y with
      | ag l=>rfl
      | tp l=>rfl
      | one u =>
        cases u with
        | int kd' b =>
          show Bool.rec (motive:=λ_=>RR) zz (notF (eqF a b) λv=>k v mu n) (keq kd kd') = cond (IntKind.eqb kd kd') (fB (eqI a b) λr=>k (.one (.bool (not r))) mu n) zz
          rw [keq_eq,eqF_eq]
          cases IntKind.eqb kd kd' <;> cases eqI a b <;> rfl
        | _=>rfl
    | sym kd i=>rfl
    | _ =>
      cases y with
      | ag l=>rfl
      | tp l=>rfl
      | one u=>cases u <;> rfl
theorem p_lss_eq (x y : AV) (orc : Orc RR) (mu : St) (n : Nat) (k : KT RR) : (p_lss x y orc λv=>k v mu n) = oBin orc zz [] mu n .lss (.c x) (.c y) k:=by
  cases x with
  | ag l=>rfl
  | tp l=>rfl
  | one s =>
    cases s with
    | int kd a =>
      cases y with
      | ag l=>rfl
      | tp l=>rfl
      | one u =>
        cases u with
        | int kd' b =>
          show Bool.rec (motive:=λ_=>RR) zz (yesF (ltF a b) λv=>k v mu n) (keq kd kd') = cond (IntKind.eqb kd kd') (fB (ltI a b) λr=>k (.one (.bool r)) mu n) zz
          rw [keq_eq,ltF_eq]
          cases IntKind.eqb kd kd' <;> cases ltI a b <;> rfl
        | _=>rfl
    | sym kd i=>rfl
    | _ =>
      cases y with
      | ag l=>rfl
      | tp l=>rfl
      | one u=>cases u <;> rfl
theorem p_leq_eq (x y : AV) (orc : Orc RR) (mu : St) (n : Nat) (k : KT RR) : (p_leq x y orc λv=>k v mu n) = oBin orc zz [] mu n .leq (.c x) (.c y) k:=by
  cases x with
  | ag l=>rfl
  | tp l=>rfl
  | one s =>
    cases s with
    | int kd a =>
      cases y with
      | ag l=>rfl
      | tp l=>rfl
      | one u =>
        cases u with
        | int kd' b =>
          show Bool.rec (motive:=λ_=>RR) zz (notF (ltF b a) λv=>k v mu n) (keq kd kd') = cond (IntKind.eqb kd kd') (fB (ltI b a) λr=>k (.one (.bool (not r))) mu n) zz
          rw [keq_eq,ltF_eq]
          cases IntKind.eqb kd kd' <;> cases ltI b a <;> rfl
        | _=>rfl
    | sym kd i=>rfl
    | _ =>
      cases y with
      | ag l=>rfl
      | tp l=>rfl
      | one u=>cases u <;> rfl
theorem p_gtr_eq (x y : AV) (orc : Orc RR) (mu : St) (n : Nat) (k : KT RR) : (p_gtr x y orc λv=>k v mu n) = oBin orc zz [] mu n .gtr (.c x) (.c y) k:=by
  cases x with
  | ag l=>rfl
  | tp l=>rfl
  | one s =>
    cases s with
    | int kd a =>
      cases y with
      | ag l=>rfl
      | tp l=>rfl
      | one u =>
        cases u with
        | int kd' b =>
          show Bool.rec (motive:=λ_=>RR) zz (yesF (ltF b a) λv=>k v mu n) (keq kd kd') = cond (IntKind.eqb kd kd') (fB (ltI b a) λr=>k (.one (.bool r)) mu n) zz
          rw [keq_eq,ltF_eq]
          cases IntKind.eqb kd kd' <;> cases ltI b a <;> rfl
        | _=>rfl
    | sym kd i=>rfl
    | _ =>
      cases y with
      | ag l=>rfl
      | tp l=>rfl
      | one u=>cases u <;> rfl
theorem p_geq_eq (x y : AV) (orc : Orc RR) (mu : St) (n : Nat) (k : KT RR) : (p_geq x y orc λv=>k v mu n) = oBin orc zz [] mu n .geq (.c x) (.c y) k:=by
  cases x with
  | ag l=>rfl
  | tp l=>rfl
  | one s =>
    cases s with
    | int kd a =>
      cases y with
      | ag l=>rfl
      | tp l=>rfl
      | one u =>
        cases u with
        | int kd' b =>
          show Bool.rec (motive:=λ_=>RR) zz (notF (ltF a b) λv=>k v mu n) (keq kd kd') = cond (IntKind.eqb kd kd') (fB (ltI a b) λr=>k (.one (.bool (not r))) mu n) zz
          rw [keq_eq,ltF_eq]
          cases IntKind.eqb kd kd' <;> cases ltI a b <;> rfl
        | _=>rfl
    | sym kd i=>rfl
    | _ =>
      cases y with
      | ag l=>rfl
      | tp l=>rfl
      | one u=>cases u <;> rfl
theorem plainF_eq (k : List SV → RR) (cs : List SV) : plainF k cs = plainK zz k cs:=by
  cases cs with
  | nil=>rfl
  | cons h t=>cases h <;> rfl
theorem lookF_eq (mu : St) (fz : Fz) (id : Nat) (k : List SV → RR) : lookF mu fz id k = lookAll fz mu id zz k:=by
  induction mu with
  | nil =>
    show Option.rec (motive:=λ_=>RR) zz (plainF k) (fz id) = Option.rec (motive:=λ_=>RR) zz (plainK zz k) (fz id)
    cases fz id with
    | none=>rfl
    | some c=>exact plainF_eq _ _
  | cons p t ih =>
    obtain ⟨i,cs⟩:=p
    show Bool.rec (motive:=λ_=>RR) (lookF t fz id k) (plainF k cs) (Nat.beq i id) = Option.rec (motive:=λ_=>RR) (Option.rec (motive:=λ_=>RR) zz (plainK zz k) (fz id)) (plainK zz k) (cond (Nat.beq i id) (some cs) (look t id))
    cases Nat.beq i id with
    | true=>exact plainF_eq _ _
    | false=>exact ih
theorem withF_eq (mu : St) (fz : Fz) : withF mu fz = with' mu fz:=by
  funext id
  induction mu with
  | nil=>rfl
  | cons p t ih =>
    obtain ⟨i,cs⟩:=p
    show Bool.rec (motive:=λ_=>Option (List SV)) (withF t fz id) (some cs) (Nat.beq i id) = Option.rec (motive:=λ_=>Option (List SV)) (fz id) some (cond (Nat.beq i id) (some cs) (look t id))
    cases Nat.beq i id with
    | true=>rfl
    | false=>exact ih
theorem nthF_eq (cs : List SV) (off : Nat) (k : AV → RR) : nthF cs off (λs=>k (.one s)) = subK cs off 1 zz λr=>asRes false r zz k:=by
  induction cs generalizing off with
  | nil=>cases off <;> rfl
  | cons h t ih =>
    cases off with
    | zero=>cases t <;> rfl
    | succ o=>exact ih o
theorem set1F_eq (cs : List SV) (off : Nat) (s : SV) (k : List SV → RR) : set1F cs off s k = overK cs off [s] zz k:=by
  induction cs generalizing off k with
  | nil=>cases off <;> rfl
  | cons h t ih =>
    cases off with
    | zero=>rfl
    | succ o=>exact ih o λr=>k (h :: r)
theorem put1F_eq (mu : St) (id off : Nat) (s : SV) (k : St → RR) : put1F mu id off s k = onLook mu id zz λcs=>overK cs off [s] zz λcs=>putK mu id cs k:=by
  induction mu generalizing k with
  | nil=>rfl
  | cons p t ih =>
    obtain ⟨i,cs⟩:=p
    show Bool.rec (motive:=λ_=>RR) (put1F t id off s λr=>k ((i,cs) :: r)) (plainF (λcs=>set1F cs off s λcs=>k ((i,cs) :: t)) cs) (Nat.beq i id) =
      Option.rec (motive:=λ_=>RR) zz (plainK zz λc=>overK c off [s] zz λc=>cond (Nat.beq i id) (k ((i,c) :: t)) (putK t id c λr=>k ((i,cs) :: r))) (cond (Nat.beq i id) (some cs) (look t id))
    cases Nat.beq i id with
    | true =>
      show plainF (λcs=>set1F cs off s λcs=>k ((i,cs) :: t)) cs = plainK zz (λc=>overK c off [s] zz λc=>k ((i,c) :: t)) cs
      rw [plainF_eq]
      congr 1
      funext c
      exact set1F_eq _ _ _ _
    | false=>exact ih λr=>k ((i,cs) :: r)
theorem lenF_eq (l : List SV) (m : Nat) : lenF l m = Nat.beq l.length m:=by
  induction l generalizing m with
  | nil=>cases m <;> rfl
  | cons h t ih=>cases m with
    | zero=>rfl
    | succ m=>exact ih m
theorem takeK_all (l : List SV) (z : RR) (k : List SV → RR) : takeK l l.length z k = k l:=by
  induction l generalizing k with
  | nil=>rfl
  | cons h t ih=>exact ih λr=>k (h :: r)
theorem subK_all (l : List SV) (z : RR) (k : List SV → RR) : subK l 0 l.length z k = k l:=by
  cases l with
  | nil=>rfl
  | cons h t=>exact takeK_all _ _ _
theorem fitF_yes {l : List SV} {m : Nat} {cs : List SV} (h : fitF l m cs = true) : l.length = m ∧ cs.length = m ∧ knownAll l = true:=by
  induction l generalizing m cs with
  | nil =>
    cases cs with
    | nil=>have:=Nat.eq_of_beq_eq_true (show Nat.beq m 0 = true from h); subst this; exact ⟨rfl,rfl,rfl⟩
    | cons _ _=>cases h
  | cons v t ih =>
    cases m with
    | zero=>cases h
    | succ m=>cases cs with
      | nil=>cases h
      | cons c r =>
        have h' : Bool.rec (motive:=λ_=>Bool) false (fitF t m r) v.known = true:=h
        cases hv : v.known with
        | false=>rw [hv] at h'; cases h'
        | true =>
          rw [hv] at h'
          obtain ⟨h1,h2,h3⟩:=ih h'
          refine ⟨by simp [h1],by simp [h2],?_⟩
          show cond v.known (knownAll t) false = true
          rw [hv]; exact h3
theorem headK_all (l cs : List SV) (z : RR) (k : List SV → RR) (h : l.length = cs.length) : headK l cs z k = k l:=by
  induction l generalizing cs k with
  | nil=>cases cs with
    | nil=>rfl
    | cons _ _=>cases h
  | cons v t ih=>cases cs with
    | nil=>cases h
    | cons c r=>exact ih r (λx=>k (v :: x)) (by simpa using h)
theorem overK_all (l cs : List SV) (z : RR) (k : List SV → RR) (h : l.length = cs.length) : overK cs 0 l z k = k l:=by
  cases cs with
  | nil=>exact headK_all _ _ _ _ h
  | cons c r=>exact headK_all _ _ _ _ h
theorem pPick_eq (c a b : AV) (mu : St) (n : Nat) (k : KT RR) : (pPick c a b λv=>k v mu n) = oPick zz [] mu n (.c c) (.c a) (.c b) k:=by
  cases c with
  | ag l=>rfl
  | tp l=>rfl
  | one s =>
    cases s with
    | bool t =>
      show Bool.rec (motive:=λ_=>RR) (fAV b λv=>k v mu n) (fAV a λv=>k v mu n) t = cond t (k a mu n) (k b mu n)
      rw [fAV_eq,fAV_eq]; cases t <;> rfl
    | _=>rfl
theorem pLoad1_eq (x : AV) (fz : Fz) (mu : St) (n : Nat) (k : KT RR) : (pLoad1 x fz mu λv=>k v mu n) = oLoad zz fz [] mu n false 1 (.c x) k:=by
  cases x with
  | ag l=>rfl
  | tp l=>rfl
  | one s =>
    cases s with
    | optr id off =>
      show (lookF mu fz id λcs=>nthF cs off λs=>k (.one s) mu n) = lookAll fz mu id zz λcs=>subK cs off 1 zz λr=>asRes false r zz λv=>k v mu n
      rw [lookF_eq]
      congr 1
      funext cs
      exact nthF_eq cs off λv=>k v mu n
    | _=>rfl
theorem pLoad_eq (agg : Bool) (m : Nat) (x : AV) (fz : Fz) (mu : St) (n : Nat) (k : KT RR) : (pLoad agg m x fz mu λv=>k v mu n) = oLoad zz fz [] mu n agg m (.c x) k:=by
  cases x with
  | ag l=>rfl
  | tp l=>rfl
  | one s =>
    cases s with
    | optr id off=>exact lookF_eq _ _ _ _
    | _=>rfl
theorem pLoadA_eq (m : Nat) (x : AV) (fz : Fz) (mu : St) (n : Nat) (k : KT RR) : (pLoadA m x fz mu λv=>k v mu n) = oLoad zz fz [] mu n true m (.c x) k:=by
  cases x with
  | ag l=>rfl
  | tp l=>rfl
  | one s =>
    cases s with
    | optr id off =>
      show (lookF mu fz id λcs=>Nat.rec (motive:=λ_=>RR) (Bool.rec (motive:=λ_=>RR) (subK cs 0 m zz λr=>k (.ag r) mu n) (k (.ag cs) mu n) (lenF cs m)) (λo _=>subK cs (Nat.succ o) m zz λr=>k (.ag r) mu n) off) =
        lookAll fz mu id zz λcs=>subK cs off m zz λr=>k (.ag r) mu n
      rw [lookF_eq]
      congr 1
      funext cs
      cases off with
      | succ o=>rfl
      | zero =>
        show Bool.rec (motive:=λ_=>RR) (subK cs 0 m zz λr=>k (.ag r) mu n) (k (.ag cs) mu n) (lenF cs m) = subK cs 0 m zz λr=>k (.ag r) mu n
        rw [lenF_eq]
        cases e : Nat.beq cs.length m with
        | false=>rfl
        | true =>
          have:=Nat.eq_of_beq_eq_true e
          subst this
          exact (subK_all cs zz λr=>k (.ag r) mu n).symm
    | _=>rfl
theorem qStore1_eq (x v : AV) (mu : St) (n : Nat) (k : KT RR) : (qStore1 x v mu λmu=>k noVal mu n) = oStore zz [] mu n 1 (.c x) (.c v) k:=by
  cases x with
  | ag l=>rfl
  | tp l=>rfl
  | one s =>
    cases s with
    | optr id off =>
      cases v with
      | ag l=>rfl
      | tp l=>rfl
      | one s =>
        show Bool.rec (motive:=λ_=>RR) zz (put1F mu id off s λmu=>k noVal mu n) s.known = cond (cond s.known true false) (onLook mu id zz λcs=>overK cs off [s] zz λcs=>putK mu id cs λmu=>k noVal mu n) zz
        rw [put1F_eq]
        cases s.known <;> rfl
    | _=>rfl
theorem putF_eq (mu : St) (id m : Nat) (l : List SV) (k : St → RR) (no : RR) (hno : no = lenK l 0 λc=>cond (Nat.beq c m) (cond (knownAll l) (onLook mu id zz λcs=>overK cs 0 l zz λcs=>putK mu id cs k) zz) zz) : putF mu id m l no k = no:=by
  have key : ∀ (mu : St) (k : St → RR),putF mu id m l no k = no ∨ (l.length = m ∧ knownAll l = true ∧ putF mu id m l no k = onLook mu id zz λcs=>overK cs 0 l zz λcs=>putK mu id cs k):=by
    intro mu
    induction mu with
    | nil=>exact λk=>.inl rfl
    | cons p t ih =>
      intro k
      obtain ⟨i,cs⟩:=p
      have e1 : putF ((i,cs) :: t) id m l no k = Bool.rec (motive:=λ_=>RR) (putF t id m l no λr=>k ((i,cs) :: r)) (Bool.rec (motive:=λ_=>RR) no (k ((i,l) :: t)) (Bool.rec (motive:=λ_=>Bool) (fitF l m cs) false (mkd cs))) (Nat.beq i id):=rfl
      have e3 : (onLook ((i,cs) :: t) id zz λc=>overK c 0 l zz λc=>putK ((i,cs) :: t) id c k) = Option.rec (motive:=λ_=>RR) zz (plainK zz λc=>overK c 0 l zz λc=>cond (Nat.beq i id) (k ((i,c) :: t)) (putK t id c λr=>k ((i,cs) :: r))) (cond (Nat.beq i id) (some cs) (look t id)):=rfl
      rw [e1,e3]
      cases e : Nat.beq i id with
      | false=>exact ih λr=>k ((i,cs) :: r)
      | true =>
        cases hmk : mkd cs with
        | true=>exact .inl rfl
        | false =>
        cases ef : fitF l m cs with
        | false=>exact .inl rfl
        | true =>
          obtain ⟨h1,h2,h3⟩:=fitF_yes ef
          refine .inr ⟨h1,h3,?_⟩
          show k ((i,l) :: t) = cond (mkd cs) zz (overK cs 0 l zz λc=>k ((i,c) :: t))
          rw [hmk,overK_all _ _ _ _ (h1.trans h2.symm)]
          rfl
  rcases key mu k with h | ⟨h1,h2,h3⟩
  · exact h
  · rw [h3,hno,lenK_eq,Nat.zero_add,h1,h2]
    have : Nat.beq m m = true:=Nat.beq_refl m
    rw [this]; rfl
theorem qStore_eq (m : Nat) (x v : AV) (mu : St) (n : Nat) (k : KT RR) : (qStore m x v mu λmu=>k noVal mu n) = oStore zz [] mu n m (.c x) (.c v) k:=by
  cases x with
  | ag l=>rfl
  | tp l=>rfl
  | one s =>
    cases s with
    | optr id off =>
      cases v with
      | one s=>rfl
      | tp l=>rfl
      | ag l=>cases off with
        | succ o=>rfl
        | zero=>exact putF_eq mu id m l (λmu=>k noVal mu n) _ rfl
    | _=>rfl
theorem pNilc_eq (x : AV) (mu : St) (n : Nat) (k : KT RR) : (pNilc x λv=>k v mu n) = oNilc zz [] mu n (.c x) k:=by
  cases x with
  | ag l=>rfl
  | tp l=>rfl
  | one s=>cases s <;> rfl
theorem pNot_eq (x : AV) (mu : St) (n : Nat) (k : KT RR) : (pNot x λv=>k v mu n) = oNot zz [] mu n (.c x) k:=by
  cases x with
  | ag l=>rfl
  | tp l=>rfl
  | one s =>
    cases s with
    | bool b=>cases b <;> rfl
    | _=>rfl
theorem pFaddr_eq (off : Nat) (x : AV) (mu : St) (n : Nat) (k : KT RR) : (pFaddr off x λv=>k v mu n) = oFaddr zz [] mu n off (.c x) k:=by
  cases x with
  | ag l=>rfl
  | tp l=>rfl
  | one s=>cases s <;> rfl
theorem pLen_eq (x : AV) (mu : St) (n : Nat) (k : KT RR) : (pLen x λv=>k v mu n) = oLen zz [] mu n false (.c x) k:=by
  cases x with
  | ag l=>rfl
  | tp l=>rfl
  | one s=>cases s <;> rfl
theorem pLenS_eq (x : AV) (mu : St) (n : Nat) (k : KT RR) : (pLenS x λv=>k v mu n) = oLen zz [] mu n true (.c x) k:=by
  cases x with
  | ag l=>rfl
  | tp l=>rfl
  | one s=>cases s <;> rfl
theorem pExtr_eq (x : AV) (i : Nat) (mu : St) (n : Nat) (k : KT RR) : (pExtr x i λv=>k v mu n) = oExtr zz [] mu n (.c x) i k:=by cases x <;> rfl
theorem pIaddr_eq (s : Nat) (x i : AV) (mu : St) (n : Nat) (k : KT RR) : (pIaddr s x i λv=>k v mu n) = oIaddr zz [] mu n s (.c x) (.c i) k:=by
  cases i with
  | ag l=>rfl
  | tp l=>rfl
  | one v =>
    cases v with
    | int kd i =>
      cases i with
      | negSucc j =>
        cases x with
        | ag l=>rfl
        | tp l=>rfl
        | one v =>
          cases v with
          | osl id off len cap s' =>
            show zz = cond (Nat.beq s' s && not (ltI (Int.negSucc j) 0) && Nat.blt (Int.negSucc j).toNat len) _ zz
            have : ltI (Int.negSucc j) 0 = true:=rfl
            rw [this]
            cases Nat.beq s' s <;> rfl
          | _=>rfl
      | ofNat j =>
        cases x with
        | ag l=>rfl
        | tp l=>rfl
        | one v =>
          cases v with
          | osl id off len cap s' =>
            show Bool.rec (motive:=λ_=>RR) zz (Bool.rec (motive:=λ_=>RR) zz (fN (Nat.add off (Nat.mul j s)) λo=>k (.one (.optr id o)) mu n) (Nat.ble (Nat.succ j) len)) (Nat.beq s' s) =
              cond (Nat.beq s' s && not (ltI (Int.ofNat j) 0) && Nat.blt (Int.ofNat j).toNat len) (fN (Nat.add off (Nat.mul (Int.ofNat j).toNat s)) λo=>k (.one (.optr id o)) mu n) zz
            have h0 : ltI (Int.ofNat j) 0 = false:=by rw [ltI_eq]; simp
            have h1 : (Int.ofNat j).toNat = j:=rfl
            have h2 : Nat.blt j len = Nat.ble (Nat.succ j) len:=rfl
            rw [h0,h1,h2]
            cases Nat.beq s' s <;> cases Nat.ble (Nat.succ j) len <;> rfl
          | _=>rfl
    | _=>rfl
def AOp.mapOd (f : Od → Od) : AOp → AOp
  | .mv x=>.mv (f x)
  | .pick c a b=>.pick (f c) (f a) (f b)
  | .alloc z=>.alloc z
  | .box x=>.box (f x)
  | .build z ps=>.build z (ps.map λp=>(p.1,p.2.1,f p.2.2))
  | .bslice s l z ps=>.bslice s l z (ps.map λp=>(p.1,p.2.1,f p.2.2))
  | .load a n x=>.load a n (f x)
  | .store n x v=>.store n (f x) (f v)
  | .nilc x=>.nilc (f x)
  | .bin o x y=>.bin o (f x) (f y)
  | .shift l x y=>.shift l (f x) (f y)
  | .sbin o x y=>.sbin o (f x) (f y)
  | .eqb o x y=>.eqb o (f x) (f y)
  | .eqn s o x y=>.eqn s o (f x) (f y)
  | .eqs m o x y=>.eqs m o (f x) (f y)
  | .not x=>.not (f x)
  | .neg x=>.neg (f x)
  | .conv k x=>.conv k (f x)
  | .mkfn g cs=>.mkfn g (cs.map f)
  | .mkslice s b z l c=>.mkslice s b z (f l) (f c)
  | .slc st s x lo hi mx=>.slc st s (f x) (lo.map f) (hi.map f) (mx.map f)
  | .faddr o x=>.faddr o (f x)
  | .fld o a n x=>.fld o a n (f x)
  | .iaddr s x i=>.iaddr s (f x) (f i)
  | .iaddrA s l x i=>.iaddrA s l (f x) (f i)
  | .idx x i=>.idx (f x) (f i)
  | .extr x i=>.extr (f x) i
  | .len s x=>.len s (f x)
  | .cap x=>.cap (f x)
  | .append s b x y=>.append s b (f x) (f y)
  | .copy s x y=>.copy s (f x) (f y)
  | .max x xs=>.max (f x) (xs.map f)
  | .min x xs=>.min (f x) (xs.map f)
  | .call g asq=>.call (f g) (asq.map f)
  | .ext e xs=>.ext e (xs.map f)
noncomputable def AOp.forced (op : AOp) : List Od:=AOp.rec (motive:=λ_=>List Od)
  (λ_=>[]) (λ_ _ _=>[]) (λ_=>[]) (λ_=>[]) (λ_ _=>[]) (λ_ _ _ _=>[]) (λ_ _ _=>[]) (λ_ _ _=>[]) (λ_=>[]) (λ_ _ _=>[])
  (λ_ x y=>[x,y]) (λ_ _ _=>[]) (λ_ _ _=>[]) (λ_ _ _ _=>[]) (λ_ _ _ _=>[]) (λ_=>[]) (λx=>[x]) (λ_ _=>[]) (λ_ _=>[])
  (λ_ _ _ l c=>[l,c]) (λ_ _ _ lo hi mx=>lo.toList ++ (hi.toList ++ mx.toList)) (λ_ _=>[]) (λ_ _ _ _=>[]) (λ_ _ i=>[i]) (λ_ _ _ i=>[i]) (λ_ i=>[i])
  (λ_ _=>[]) (λ_ _=>[]) (λ_=>[]) (λ_ _ _ _=>[]) (λ_ _ _=>[]) (λ_ _=>[]) (λ_ _=>[]) (λ_ _=>[]) (λ_ _=>[]) op
def AOp.ods : AOp → Option (List Od)
  | .build _ ps=>some (ps.map λp=>p.2.2)
  | .bslice _ _ _ ps=>some (ps.map λp=>p.2.2)
  | .shift _ x y=>some [x,y]
  | .sbin _ x y=>some [x,y]
  | .eqb _ x y=>some [x,y]
  | .eqn _ _ x y=>some [x,y]
  | .eqs _ _ x y=>some [x,y]
  | .neg x=>some [x]
  | .conv _ x=>some [x]
  | .mkfn _ cs=>some cs
  | .mkslice _ _ _ l c=>some [l,c]
  | .slc _ _ x lo hi mx=>some (x :: (lo.toList ++ (hi.toList ++ mx.toList)))
  | .fld _ _ _ x=>some [x]
  | .iaddrA _ _ x i=>some [x,i]
  | .idx x i=>some [x,i]
  | .cap x=>some [x]
  | .append _ _ x y=>some [x,y]
  | .copy _ x y=>some [x,y]
  | .max x xs=>some (x :: xs)
  | .min x xs=>some (x :: xs)
  | .call g asq=>some (g :: asq)
  | .ext _ xs=>some xs
  | _=>none
theorem mapOd_congr {op : AOp} {l : List Od} (h : op.ods = some l) {f g : Od → Od} (hfg : ∀ x ∈ l,f x = g x) : op.mapOd f = op.mapOd g:=by
  cases op <;> simp only [AOp.ods,Option.some.injEq] at h <;> (try cases h) <;> simp only [AOp.mapOd]
  case build z ps=>congr 1; exact List.map_congr_left λp hp=>by rw [hfg p.2.2 (List.mem_map.2 ⟨p,hp,rfl⟩)]
  case bslice s l z ps=>congr 1; exact List.map_congr_left λp hp=>by rw [hfg p.2.2 (List.mem_map.2 ⟨p,hp,rfl⟩)]
  case mkfn g=>congr 1; exact List.map_congr_left λp hp=>hfg p hp
  case slc st s x lo hi mx =>
    rw [hfg x (by simp)]
    congr 1
    · cases lo with
      | none=>rfl
      | some y=>simp [hfg y (by simp)]
    · cases hi with
      | none=>rfl
      | some y=>simp [hfg y (by simp)]
    · cases mx with
      | none=>rfl
      | some y=>simp [hfg y (by simp)]
  case max x xs=>rw [hfg x (by simp)]; congr 1; exact List.map_congr_left λp hp=>hfg p (by simp [hp])
  case min x xs=>rw [hfg x (by simp)]; congr 1; exact List.map_congr_left λp hp=>hfg p (by simp [hp])
  case call x xs=>rw [hfg x (by simp)]; congr 1; exact List.map_congr_left λp hp=>hfg p (by simp [hp])
  case ext x=>congr 1; exact List.map_congr_left λp hp=>hfg p hp
  all_goals first | (rw [hfg _ (List.mem_cons_self ..),hfg _ (List.mem_cons_of_mem _ (List.mem_cons_self ..))]; done) | (rw [hfg _ (List.mem_cons_self ..)]; done)
theorem fill_c (tm : TM) (ps : List (Nat × Nat × Od)) (cs : List SV) (k : List SV → RR) : fill zz [] (ps.map λp=>(p.1,p.2.1,Od.c (ev tm p.2.2))) cs k = fill zz tm ps cs k:=by
  induction ps generalizing cs with
  | nil=>rfl
  | cons p ps ih =>
    show ((ev tm p.2.2).onCells zz λvs=>lenK vs 0 λm=>cond (Nat.beq m p.2.1) (cond (knownAll vs) (overK cs p.1 vs zz λcs=>fill zz [] (ps.map λp=>(p.1,p.2.1,Od.c (ev tm p.2.2))) cs k) zz) zz) =
      ((ev tm p.2.2).onCells zz λvs=>lenK vs 0 λm=>cond (Nat.beq m p.2.1) (cond (knownAll vs) (overK cs p.1 vs zz λcs=>fill zz tm ps cs k) zz) zz)
    have : (λcs=>fill zz [] (ps.map λp=>(p.1,p.2.1,Od.c (ev tm p.2.2))) cs k) = λcs=>fill zz tm ps cs k:=funext λcs=>ih cs
    rw [this]
theorem capsK_c (tm : TM) (l : List Od) (k : List (Nat × Nat) → RR) : capsK zz [] (l.map λx=>Od.c (ev tm x)) k = capsK zz tm l k:=by
  induction l generalizing k with
  | nil=>rfl
  | cons x l ih =>
    show ((ev tm x).onOne zz λs=>s.onPtr zz λid off=>capsK zz [] (l.map λx=>Od.c (ev tm x)) λr=>k ((id,off) :: r)) = ((ev tm x).onOne zz λs=>s.onPtr zz λid off=>capsK zz tm l λr=>k ((id,off) :: r))
    simp only [ih]
theorem evs_c (tm : TM) (l : List Od) : evs [] (l.map λx=>Od.c (ev tm x)) = evs tm l:=by
  unfold evs; rw [List.map_map]; rfl
theorem argsK_c (tm : TM) (l : List Od) (c : List AV) (k : List AV → RR) : argsK [] (l.map λx=>Od.c (ev tm x)) c k = argsK tm l c k:=by
  rw [argsK_eq,argsK_eq,List.map_map]; rfl
end Go.Ev
namespace Go.Ev
noncomputable def tall : Unit:=(λ(_ : Orc RR → CallT RR → Fz → St → Nat → Bool → AOp → KT RR → RR) (_ : Orc RR → (Nat → Option (Contract RR)) → (Nat → Option HFunc) → Nat → CallT RR) (_ : OF → List Nat → Nat → Fz → St → List St → Nat → (AV → List St → Nat → RR) → RR) (_ : List St → St → (St → RR) → RR) (_ : ST)=>()) qOth hcall dr1 joinAll se0_0
inductive EV where
  | pl (v : AV)
  | fr (v : AV)
def EV.val (x : EV) : AV:=match x with
  | .pl v=>v
  | .fr v=>v
abbrev EnvQ:=Nat → EV
noncomputable def updEn (e : EnvQ) (t : Nat) (x : EV) : EnvQ:=λi=>Bool.rec (motive:=λ_=>EV) (e i) x (Nat.beq i t)
noncomputable def updD (e : EnvQ) (dst : Option (Nat × Nat)) (v : AV) : EnvQ:=Option.rec (motive:=λ_=>EnvQ) e (λp=>Prod.rec (motive:=λ_=>EnvQ) (λq r=>updEn e (Nat.add (Nat.mul 16 q) r) (.pl v)) p) dst
noncomputable def evE (e : EnvQ) (x : Od) : EV:=Od.rec (motive:=λ_=>EV) (λq r=>e (Nat.add (Nat.mul 16 q) r)) (λv=>.pl v) x
noncomputable def evV (e : EnvQ) (x : Od) : AV:=EV.rec (motive:=λ_=>AV) (λv=>v) (λv=>v) (evE e x)
noncomputable def atV (e : EnvQ) (q r : Nat) : AV:=EV.rec (motive:=λ_=>AV) (λv=>v) (λv=>v) (e (Nat.add (Nat.mul 16 q) r))
noncomputable def fP (x : EV) (k : AV → RR) : RR:=(λ(_ : Unit)=>EV.rec (motive:=λ_=>RR) (λv=>k v) (λv=>fAV v k) x) tall
theorem evV_eq (e : EnvQ) (x : Od) : evV e x = (evE e x).val:=by unfold evV; cases evE e x <;> rfl
theorem atV_eq (e : EnvQ) (q r : Nat) : atV e q r = (e (16 * q + r)).val:=by
  unfold atV
  show EV.rec (motive:=λ_=>AV) (λv=>v) (λv=>v) (e (16 * q + r)) = _
  cases e (16 * q + r) <;> rfl
noncomputable def pBin (o : BinOp) : AV → AV → Orc RR → (AV → RR) → RR:=(λ(_ : Unit)=>BinOp.rec (motive:=λ_=>AV → AV → Orc RR → (AV → RR) → RR)
  p_add p_sub p_mul p_quo p_rem p_and p_or p_xor p_shl p_shr p_andNot p_eql p_neq p_lss p_leq p_gtr p_geq o) tall
section
variable (orc : Orc RR) (call : CallT RR)
noncomputable def argsE (e : EnvQ) (l : List Od) : (List AV → RR) → RR:=(λ(_ : Unit) =>
  List.rec (motive:=λ_=>(List AV → RR) → RR) (λk=>k []) (λx _ ih k=>fP (evE e x) λv=>ih λr=>k (v :: r)) l) tall
noncomputable def forceL (l : List Od) : EnvQ → (EnvQ → RR) → RR:=(λ(_ : Unit) =>
  List.rec (motive:=λ_=>EnvQ → (EnvQ → RR) → RR) (λe k=>k e)
    (λx _ ih e k=>Od.rec (motive:=λ_=>RR) (λq r=>forceV (atV e q r) orc λv=>ih (updEn e (Nat.add (Nat.mul 16 q) r) (.pl v)) k) (λ_=>ih e k) x) l) tall
noncomputable def othE (fz : Fz) (ro : Bool) (op : AOp) (e : EnvQ) (mu : St) (n : Nat) (k : KT RR) : RR:=(λ(_ : Unit) =>
  forceL orc op.forced e λe=>qOth orc call fz mu n ro (op.mapOd λx=>.c (evV e x)) k) tall
noncomputable def loadE (fz : Fz) (agg : Bool) (m : Nat) (x : AV) (mu : St) (k : AV → RR) : RR:=(λ(_ : Unit)=>Bool.rec (motive:=λ_=>RR)
  (Nat.rec (motive:=λ_=>RR) (pLoad false 0 x fz mu k) (λi _=>Nat.rec (motive:=λ_=>RR) (pLoad1 x fz mu k) (λj _=>pLoad false (Nat.succ (Nat.succ j)) x fz mu k) i) m) (pLoadA m x fz mu k) agg) tall
noncomputable def storeE (m : Nat) (x v : AV) (mu : St) (k : St → RR) : RR:=(λ(_ : Unit) =>
  Nat.rec (motive:=λ_=>RR) (qStore 0 x v mu k) (λi _=>Nat.rec (motive:=λ_=>RR) (qStore1 x v mu k) (λj _=>qStore (Nat.succ (Nat.succ j)) x v mu k) i) m) tall
noncomputable def iaddrE (s : Nat) (x i : Od) (e : EnvQ) (k : AV → RR) : RR:=(λ(_ : Unit)=>Od.rec (motive:=λ_=>RR)
  (λq r=>forceV (atV e q r) orc λv=>pIaddr s (evV (updEn e (Nat.add (Nat.mul 16 q) r) (.pl v)) x) v k)
  (λv=>pIaddr s (evV e x) v k) i) tall
noncomputable def fnOf (f : Od) : Option Nat:=Od.rec (motive:=λ_=>Option Nat) (λ_ _=>none) (λv=>AV.rec (motive:=λ_=>Option Nat)
  (λs=>SV.rec (motive:=λ_=>Option Nat) none (λ_ _=>none) (λ_=>none) (λ_ _=>none) none none none (λ_ _=>none) (λ_ _ _ _ _=>none) none none (λg cs=>List.rec (motive:=λ_=>Option Nat) (some g) (λ_ _ _=>none) cs) (λ_ _=>none) none (λ_=>none) none (λ_=>none) s) (λ_=>none) (λ_=>none) v) f
noncomputable def eop (fz : Fz) (ro : Bool) (op : AOp) (e : EnvQ) (mu : St) (n : Nat) (k : KT RR) : RR:=(λ(_ : Unit)=>AOp.rec (motive:=λ_=>RR)
  (λx=>fP (evE e x) λv=>k v mu n)
  (λc a b=>pPick (evV e c) (evV e a) (evV e b) λv=>k v mu n)
  (λz=>qAlloc z mu n k)
  (λx=>qBox (evV e x) mu n k)
  (λz ps=>othE orc call fz ro (.build z ps) e mu n k)
  (λs l z ps=>othE orc call fz ro (.bslice s l z ps) e mu n k)
  (λagg m x=>loadE fz agg m (evV e x) mu λv=>k v mu n)
  (λm x v=>storeE m (evV e x) (evV e v) mu λmu=>k noVal mu n)
  (λx=>pNilc (evV e x) λv=>k v mu n)
  (λo x y=>pBin o (evV e x) (evV e y) orc λv=>k v mu n)
  (λb x y=>othE orc call fz ro (.shift b x y) e mu n k)
  (λo x y=>othE orc call fz ro (.sbin o x y) e mu n k)
  (λo x y=>othE orc call fz ro (.eqb o x y) e mu n k)
  (λs o x y=>othE orc call fz ro (.eqn s o x y) e mu n k)
  (λm o x y=>othE orc call fz ro (.eqs m o x y) e mu n k)
  (λx=>pNot (evV e x) λv=>k v mu n)
  (λx=>othE orc call fz ro (.neg x) e mu n k)
  (λkd x=>othE orc call fz ro (.conv kd x) e mu n k)
  (λg cs=>othE orc call fz ro (.mkfn g cs) e mu n k)
  (λs b z l c=>othE orc call fz ro (.mkslice s b z l c) e mu n k)
  (λst s x lo hi mx=>othE orc call fz ro (.slc st s x lo hi mx) e mu n k)
  (λo x=>pFaddr o (evV e x) λv=>k v mu n)
  (λo a m x=>othE orc call fz ro (.fld o a m x) e mu n k)
  (λs x i=>iaddrE orc s x i e λv=>k v mu n)
  (λs l x i=>othE orc call fz ro (.iaddrA s l x i) e mu n k)
  (λx i=>othE orc call fz ro (.idx x i) e mu n k)
  (λx i=>pExtr (evV e x) i λv=>k v mu n)
  (λs x=>Bool.rec (motive:=λ_=>RR) (pLen (evV e x) λv=>k v mu n) (pLenS (evV e x) λv=>k v mu n) s)
  (λx=>othE orc call fz ro (.cap x) e mu n k)
  (λs b x y=>othE orc call fz ro (.append s b x y) e mu n k)
  (λs x y=>othE orc call fz ro (.copy s x y) e mu n k)
  (λx xs=>othE orc call fz ro (.max x xs) e mu n k)
  (λx xs=>othE orc call fz ro (.min x xs) e mu n k)
  (λf asq=>Option.rec (motive:=λ_=>RR) (othE orc call fz ro (.call f asq) e mu n k)
    (λg=>argsE e asq λvs=>Bool.rec (motive:=λ_=>RR) (call g vs fz mu n k) (qCallR orc call g vs fz mu n k) ro) (fnOf f))
  (λx xs=>othE orc call fz ro (.ext x xs) e mu n k) op) tall
end
def AOp.odsA : AOp → List Od
  | .mv x=>[x]
  | .pick c a b=>[c,a,b]
  | .alloc _=>[]
  | .box x=>[x]
  | .load _ _ x=>[x]
  | .store _ x v=>[x,v]
  | .nilc x=>[x]
  | .bin _ x y=>[x,y]
  | .not x=>[x]
  | .faddr _ x=>[x]
  | .iaddr _ x i=>[x,i]
  | .extr x _=>[x]
  | .len _ x=>[x]
  | op=>(op.ods).getD []
def okT (nt : Nat) : Od → Bool
  | .t q r=>Nat.ble (r + 1) 16 && Nat.ble (16 * q + r + 1) nt
  | .c _=>true
def okOp (nt : Nat) (op : AOp) : Bool:=op.odsA.all (okT nt)
def EnvR (nt : Nat) (e : EnvQ) (tm : TM) : Prop:=∀ q r,r < 16 → 16 * q + r < nt → inR tm q r ∧ get tm q r = (e (16 * q + r)).val
section
variable {nt : Nat} {e : EnvQ} {tm : TM} {orc : Orc RR} {call : CallT RR} {fz : Fz}
theorem okT_t {q r : Nat} (h : okT nt (.t q r) = true) : r < 16 ∧ 16 * q + r < nt:=by
  simp only [okT,Bool.and_eq_true] at h
  exact ⟨Nat.le_of_ble_eq_true h.1,Nat.le_of_ble_eq_true h.2⟩
theorem evE_eq (h : EnvR nt e tm) {x : Od} (hx : okT nt x = true) : evV e x = ev tm x:=by
  rw [evV_eq]
  cases x with
  | c v=>rfl
  | t q r=>exact (h q r (okT_t hx).1 (okT_t hx).2).2.symm
theorem upd_get (e : EnvQ) (t i : Nat) (x : EV) : updEn e t x i = if i = t then x else e i:=by
  show Bool.rec (motive:=λ_=>EV) (e i) x (Nat.beq i t) = _
  by_cases hi : i = t
  · subst hi; rw [Nat.beq_refl]; simp
  · have : Nat.beq i t = false := by
      cases hb : Nat.beq i t with
      | false=>rfl
      | true=>exact (hi (Nat.eq_of_beq_eq_true hb)).elim
    rw [this]; simp [hi]
theorem EnvR.upd (h : EnvR nt e tm) {q r : Nat} (h1 : r < 16) (h2 : 16 * q + r < nt) (v : AV) : EnvR nt (updEn e (16 * q + r) (.pl v)) (setT tm q r v):=by
  intro q' r' hr hn
  refine ⟨inR_setT_iff.2 (h q' r' hr hn).1,?_⟩
  rw [upd_get]
  by_cases he : 16 * q' + r' = 16 * q + r
  · have e1 : q' = q:=by omega
    have e2 : r' = r:=by omega
    subst e1; subst e2
    rcases get_setT_same (tm:=tm) (q:=q') (r:=r') (v:=v) with ⟨_,h3⟩ | ⟨h3,_⟩
    · rw [h3]; simp [EV.val]
    · exact (h3 (h q' r' hr hn).1).elim
  · rw [get_setT_other (by omega),if_neg he]
    exact (h q' r' hr hn).2
theorem EnvR.same (h : EnvR nt e tm) {t : Nat} {v : AV} (hv : v = (e t).val) : EnvR nt (updEn e t (.pl v)) tm:=by
  intro q' r' hr hn
  refine ⟨(h q' r' hr hn).1,?_⟩
  rw [upd_get]
  split
  · rename_i he; rw [(h q' r' hr hn).2,he]; exact hv.symm
  · exact (h q' r' hr hn).2
theorem fP_eq (x : EV) (k : AV → RR) : fP x k = k x.val:=by
  cases x with
  | pl v=>rfl
  | fr v=>exact fAV_eq _ _
theorem argsE_eq (h : EnvR nt e tm) {l : List Od} (hl : l.all (okT nt) = true) {k : List AV → RR} : argsE e l k = k (l.map (ev tm)):=by
  induction l generalizing k with
  | nil=>rfl
  | cons x l ih =>
    simp only [List.all_cons,Bool.and_eq_true] at hl
    show (fP (evE e x) λv=>argsE e l λr=>k (v :: r)) = _
    rw [fP_eq,ih hl.2,← evV_eq,evE_eq h hl.1,List.map_cons]
theorem force1_eq (h : EnvR nt e tm) {q r : Nat} (h1 : r < 16) (h2 : 16 * q + r < nt) {k : EnvQ → RR} {K : TM → RR} (hk : ∀ e tm, EnvR nt e tm → k e = K tm) :
    (forceV (atV e q r) orc λv=>k (updEn e (16 * q + r) (.pl v))) = forceK orc tm (.t q r) K:=by
  show _ = AV.rec (motive:=λ_=>RR) (λs=>s.onSym (K tm) λkd i=>orc.force i λv=>fI v λv=>setTm tm q r (.one (.int kd v)) K) (λ_=>K tm) (λ_=>K tm) (get tm q r)
  rw [(h q r h1 h2).2,atV_eq]
  have hs : ∀ v,v = (e (16 * q + r)).val → k (updEn e (16 * q + r) (.pl v)) = K tm:=λv hv=>hk _ _ (h.same hv)
  cases hv : (e (16 * q + r)).val with
  | ag l=>exact hs _ hv.symm
  | tp l=>exact hs _ hv.symm
  | one s =>
    cases s with
    | sym kd i =>
      show (orc.force i λv=>fI v λv=>k (updEn e (16 * q + r) (.pl (.one (.int kd v))))) = orc.force i λv=>fI v λv=>setTm tm q r (.one (.int kd v)) K
      congr 1
      funext v
      rw [fI_eq,fI_eq,setTm_eq]
      exact hk _ _ (h.upd h1 h2 _)
    | _=>exact hs _ hv.symm
theorem forceL_cons {l : List Od} (h : EnvR nt e tm) {x : Od} (hx : okT nt x = true) {k : EnvQ → RR} {K : TM → RR} (hk : ∀ e tm,EnvR nt e tm → forceL orc l e k = K tm) : forceL orc (x :: l) e k = forceK orc tm x K:=by
  cases x with
  | c v=>exact hk _ _ h
  | t q r=>exact force1_eq h (okT_t hx).1 (okT_t hx).2 hk
theorem othE_eq (h : EnvR nt e tm) {op : AOp} {l : List Od} (ho : op.ods = some l) (hok : l.all (okT nt) = true) {ro : Bool} {mu : St} {n : Nat} {k : KT RR} : othE orc call fz ro op e mu n k = aop orc zz call fz tm mu n ro op k:=by
  have hall:=List.all_eq_true.1 hok
  have hm : ∀ e tm,EnvR nt e tm → (op.mapOd λx=>.c (evV e x)) = op.mapOd λx=>.c (ev tm x):=λe tm h=>mapOd_congr ho λx hx=>by rw [evE_eq h (hall x hx)]
  show forceL orc op.forced e (λe=>aop orc zz call fz [] mu n ro (op.mapOd λx=>.c (evV e x)) k) = _
  have hb : ∀ e tm,EnvR nt e tm → aop orc zz call fz [] mu n ro (op.mapOd λx=>.c (evV e x)) k = aop orc zz call fz [] mu n ro (op.mapOd λx=>.c (ev tm x)) k:=λe tm h=>by rw [hm e tm h]
  cases op with
  | mv x=>cases ho
  | pick a b c=>cases ho
  | alloc z=>cases ho
  | box x=>cases ho
  | load a m x=>cases ho
  | store m x v=>cases ho
  | nilc x=>cases ho
  | bin o x y=>cases ho
  | not x=>cases ho
  | faddr o x=>cases ho
  | iaddr s x i=>cases ho
  | extr x i=>cases ho
  | len s x=>cases ho
  | build z ps=>exact (hb _ _ h).trans (fill_c _ _ _ _)
  | bslice s len z ps =>
    refine (hb _ _ h).trans ?_
    show (copyK (rep z len) λcs=>fill zz [] (ps.map λp=>(p.1,p.2.1,Od.c (ev tm p.2.2))) cs λcs=>fN (Nat.succ n) λm=>k (.one (.osl n 0 len len s)) ((n,cs) :: mu) m) = copyK (rep z len) λcs=>fill zz tm ps cs λcs=>fN (Nat.succ n) λm=>k (.one (.osl n 0 len len s)) ((n,cs) :: mu) m
    simp only [fill_c]
  | shift b x y =>
    cases ho
    refine forceL_cons (l:=[y]) (K:=λtm=>forceK orc tm y λtm=>oShift zz tm mu n b x y k) h (hall x (by simp)) λe tm h=>?_
    exact forceL_cons (l:=[]) (K:=λtm=>oShift zz tm mu n b x y k) h (hall y (by simp)) λe tm h=>hb _ _ h
  | sbin o x y=>exact hb _ _ h
  | eqb o x y=>exact hb _ _ h
  | eqn s o x y=>exact hb _ _ h
  | eqs m o x y=>exact hb _ _ h
  | neg x =>
    cases ho
    exact forceL_cons (l:=[]) (K:=λtm=>oNeg zz tm mu n x k) h (hall x (by simp)) λe tm h=>hb _ _ h
  | conv kd x=>exact hb _ _ h
  | mkfn g cs=>exact (hb _ _ h).trans (capsK_c _ _ _)
  | mkslice s b z x y =>
    cases ho
    refine forceL_cons (l:=[y]) (K:=λtm=>forceK orc tm y λtm=>oMkslice zz tm mu n s b z x y k) h (hall x (by simp)) λe tm h=>?_
    exact forceL_cons (l:=[]) (K:=λtm=>oMkslice zz tm mu n s b z x y k) h (hall y (by simp)) λe tm h=>hb _ _ h
  | slc st s x lo hi mx =>
    cases ho
    have key : ∀ e tm,EnvR nt e tm → aop orc zz call fz [] mu n ro ((AOp.slc st s x lo hi mx).mapOd λx=>.c (evV e x)) k = oSlc zz tm mu n st s x lo hi mx k:=by
      intro e tm h
      rw [hb _ _ h]
      cases lo <;> cases hi <;> cases mx <;> rfl
    have h3 : ∀ e tm,EnvR nt e tm → forceL orc mx.toList e (λe=>aop orc zz call fz [] mu n ro ((AOp.slc st s x lo hi mx).mapOd λx=>.c (evV e x)) k) = forceO orc tm mx λtm=>oSlc zz tm mu n st s x lo hi mx k:=by
      intro e tm h
      cases mx with
      | none=>exact key _ _ h
      | some y=>exact forceL_cons (l:=[]) (K:=λtm=>oSlc zz tm mu n st s x lo hi (some y) k) h (hall y (by simp)) λe tm h=>key _ _ h
    have h2 : ∀ e tm,EnvR nt e tm → forceL orc (hi.toList ++ mx.toList) e (λe=>aop orc zz call fz [] mu n ro ((AOp.slc st s x lo hi mx).mapOd λx=>.c (evV e x)) k) = forceO orc tm hi λtm=>forceO orc tm mx λtm=>oSlc zz tm mu n st s x lo hi mx k:=by
      intro e tm h
      cases hi with
      | none=>exact h3 _ _ h
      | some y=>exact forceL_cons (l:=mx.toList) (K:=λtm=>forceO orc tm mx λtm=>oSlc zz tm mu n st s x lo (some y) mx k) h (hall y (by simp)) λe tm h=>h3 _ _ h
    show forceL orc (lo.toList ++ (hi.toList ++ mx.toList)) e _ = forceO orc tm lo λtm=>forceO orc tm hi λtm=>forceO orc tm mx λtm=>oSlc zz tm mu n st s x lo hi mx k
    cases lo with
    | none=>exact h2 _ _ h
    | some y=>exact forceL_cons (l:=hi.toList ++ mx.toList) (K:=λtm=>forceO orc tm hi λtm=>forceO orc tm mx λtm=>oSlc zz tm mu n st s x (some y) hi mx k) h (hall y (by simp)) λe tm h=>h2 _ _ h
  | fld o a m x=>exact hb _ _ h
  | iaddrA s len x i =>
    cases ho
    exact forceL_cons (l:=[]) (K:=λtm=>oIaddrA zz tm mu n s len x i k) h (hall i (by simp)) λe tm h=>hb _ _ h
  | idx x i =>
    cases ho
    exact forceL_cons (l:=[]) (K:=λtm=>oIdx zz tm mu n x i k) h (hall i (by simp)) λe tm h=>hb _ _ h
  | cap x=>exact hb _ _ h
  | append s b x y=>exact hb _ _ h
  | copy s x y=>exact hb _ _ h
  | max x xs =>
    refine (hb _ _ h).trans ?_
    show ((ev tm x).onOne zz λs=>maxK orc zz (evs [] (xs.map λx=>Od.c (ev tm x))) s λr=>k (.one r) mu n) = (ev tm x).onOne zz λs=>maxK orc zz (evs tm xs) s λr=>k (.one r) mu n
    rw [evs_c]
  | min x xs =>
    refine (hb _ _ h).trans ?_
    show ((ev tm x).onOne zz λs=>minK orc zz (evs [] (xs.map λx=>Od.c (ev tm x))) s λr=>k (.one r) mu n) = (ev tm x).onOne zz λs=>minK orc zz (evs tm xs) s λr=>k (.one r) mu n
    rw [evs_c]
  | call g asq =>
    refine (hb _ _ h).trans ?_
    show ((ev tm g).onOne zz λs=>s.onFn zz λg cs=>argsK [] (asq.map λx=>Od.c (ev tm x)) (capVals cs) λvs=>cond ro (call g vs (with' mu fz) [] n λv new n'=>sweepG orc.sw n v new λnew=>joinK new mu λmu=>k v mu n') (call g vs fz mu n k)) =
      (ev tm g).onOne zz λs=>s.onFn zz λg cs=>argsK tm asq (capVals cs) λvs=>cond ro (call g vs (with' mu fz) [] n λv new n'=>sweepG orc.sw n v new λnew=>joinK new mu λmu=>k v mu n') (call g vs fz mu n k)
    simp only [argsK_c]
  | ext x xs =>
    refine (hb _ _ h).trans ?_
    show xop orc zz fz mu n x ((xs.map λx=>Od.c (ev tm x)).map (ev [])) k = xop orc zz fz mu n x (xs.map (ev tm)) k
    rw [List.map_map]; rfl
theorem loadE_eq (agg : Bool) (m : Nat) (x : AV) (mu : St) (n : Nat) (k : KT RR) : (loadE fz agg m x mu λv=>k v mu n) = oLoad zz fz [] mu n agg m (.c x) k:=by
  cases agg with
  | true=>exact pLoadA_eq _ _ _ _ _ _
  | false=>match m with
    | 0=>exact pLoad_eq _ _ _ _ _ _ _
    | 1=>exact pLoad1_eq _ _ _ _ _
    | m + 2=>exact pLoad_eq _ _ _ _ _ _ _
theorem storeE_eq (m : Nat) (x v : AV) (mu : St) (n : Nat) (k : KT RR) : (storeE m x v mu λmu=>k noVal mu n) = oStore zz [] mu n m (.c x) (.c v) k:=by
  match m with
  | 0=>exact qStore_eq _ _ _ _ _ _
  | 1=>exact qStore1_eq _ _ _ _ _
  | m + 2=>exact qStore_eq _ _ _ _ _ _
theorem pBin_eq (o : BinOp) (x y : AV) (mu : St) (n : Nat) (k : KT RR) : (pBin o x y orc λv=>k v mu n) = oBin orc zz [] mu n o (.c x) (.c y) k:=by
  cases o
  · exact p_add_eq _ _ _ _ _ _
  · exact p_sub_eq _ _ _ _ _ _
  · exact p_mul_eq _ _ _ _ _ _
  · exact p_quo_eq _ _ _ _ _ _
  · exact p_rem_eq _ _ _ _ _ _
  · exact p_and_eq _ _ _ _ _ _
  · exact p_or_eq _ _ _ _ _ _
  · exact p_xor_eq _ _ _ _ _ _
  · exact p_shl_eq _ _ _ _ _ _
  · exact p_shr_eq _ _ _ _ _ _
  · exact p_andNot_eq _ _ _ _ _ _
  · exact p_eql_eq _ _ _ _ _ _
  · exact p_neq_eq _ _ _ _ _ _
  · exact p_lss_eq _ _ _ _ _ _
  · exact p_leq_eq _ _ _ _ _ _
  · exact p_gtr_eq _ _ _ _ _ _
  · exact p_geq_eq _ _ _ _ _ _
theorem fnOf_some {f : Od} {g : Nat} (h : fnOf f = some g) : f = .c (.one (.fn g [])):=by
  cases f with
  | t q r=>cases h
  | c v=>cases v with
    | ag l=>cases h
    | tp l=>cases h
    | one s=>cases s with
      | fn g' cs=>cases cs with
        | nil=>cases h; rfl
        | cons _ _=>cases h
      | _=>cases h
theorem eop_eq (h : EnvR nt e tm) {op : AOp} (hok : okOp nt op = true) {ro : Bool} {mu : St} {n : Nat} {k : KT RR} : eop orc call fz ro op e mu n k = aop orc zz call fz tm mu n ro op k:=by
  have hall:=List.all_eq_true.1 hok
  have hE : ∀ x ∈ op.odsA,evV e x = ev tm x:=λx hx=>evE_eq h (hall x hx)
  cases op with
  | mv x=>show (fP (evE e x) λv=>k v mu n) = k (ev tm x) mu n; rw [fP_eq,← evV_eq,hE x (by simp [AOp.odsA])]
  | pick c a b =>
    show (pPick (evV e c) (evV e a) (evV e b) λv=>k v mu n) = _
    rw [hE c (by simp [AOp.odsA]),hE a (by simp [AOp.odsA]),hE b (by simp [AOp.odsA]),pPick_eq]; rfl
  | alloc z=>rfl
  | box x=>show oBox zz [] mu n (.c (evV e x)) k = _; rw [hE x (by simp [AOp.odsA])]; rfl
  | load a m x=>show (loadE fz a m (evV e x) mu λv=>k v mu n) = _; rw [hE x (by simp [AOp.odsA]),loadE_eq]; rfl
  | store m x v=>show (storeE m (evV e x) (evV e v) mu λmu=>k noVal mu n) = _; rw [hE x (by simp [AOp.odsA]),hE v (by simp [AOp.odsA]),storeE_eq]; rfl
  | nilc x=>show (pNilc (evV e x) λv=>k v mu n) = _; rw [hE x (by simp [AOp.odsA]),pNilc_eq]; rfl
  | bin o x y=>show (pBin o (evV e x) (evV e y) orc λv=>k v mu n) = _; rw [hE x (by simp [AOp.odsA]),hE y (by simp [AOp.odsA]),pBin_eq]; rfl
  | not x=>show (pNot (evV e x) λv=>k v mu n) = _; rw [hE x (by simp [AOp.odsA]),pNot_eq]; rfl
  | faddr o x=>show (pFaddr o (evV e x) λv=>k v mu n) = _; rw [hE x (by simp [AOp.odsA]),pFaddr_eq]; rfl
  | iaddr s x i =>
    have hx:=hall x (by simp [AOp.odsA])
    have hi:=hall i (by simp [AOp.odsA])
    cases i with
    | c v=>show (pIaddr s (evV e x) v λv=>k v mu n) = _; rw [hE x (by simp [AOp.odsA]),pIaddr_eq]; rfl
    | t q r =>
      show (forceV (atV e q r) orc λv=>pIaddr s (evV (updEn e (16 * q + r) (.pl v)) x) v λv=>k v mu n) = forceK orc tm (.t q r) λtm=>oIaddr zz tm mu n s x (.t q r) k
      have:=force1_eq (orc:=orc) h (okT_t hi).1 (okT_t hi).2 (k:=λe=>pIaddr s (evV e x) (e (16 * q + r)).val λv=>k v mu n) (K:=λtm=>oIaddr zz tm mu n s x (.t q r) k) (λe tm h=>by
        rw [pIaddr_eq,evE_eq h hx]
        have:=evE_eq h hi
        rw [evV_eq] at this
        rw [show (e (16 * q + r)).val = ev tm (.t q r) from this]
        rfl)
      rw [← this]
      congr 1
      funext v
      have e1 : (updEn e (16 * q + r) (.pl v) (16 * q + r)).val = v:=by rw [upd_get]; simp [EV.val]
      simp only [e1]
  | extr x i=>show (pExtr (evV e x) i λv=>k v mu n) = _; rw [hE x (by simp [AOp.odsA]),pExtr_eq]; rfl
  | len s x =>
    cases s with
    | true=>show (pLenS (evV e x) λv=>k v mu n) = _; rw [hE x (by simp [AOp.odsA]),pLenS_eq]; rfl
    | false=>show (pLen (evV e x) λv=>k v mu n) = _; rw [hE x (by simp [AOp.odsA]),pLen_eq]; rfl
  | call f asq =>
    cases hf : fnOf f with
    | none =>
      show Option.rec (motive:=λ_=>RR) (othE orc call fz ro (.call f asq) e mu n k) (λg=>argsE e asq λvs=>Bool.rec (motive:=λ_=>RR) (call g vs fz mu n k) (qCallR orc call g vs fz mu n k) ro) (fnOf f) = _
      rw [hf]
      exact othE_eq (op:=.call f asq) h rfl hok
    | some g =>
      have hf':=fnOf_some hf
      subst hf'
      have : eop orc call fz ro (.call (.c (.one (.fn g []))) asq) e mu n k = argsE e asq λvs=>Bool.rec (motive:=λ_=>RR) (call g vs fz mu n k) (qCallR orc call g vs fz mu n k) ro:=rfl
      rw [this,argsE_eq h (List.all_eq_true.2 λx hx=>hall x (by simp [AOp.odsA,AOp.ods,hx]))]
      show _ = argsK tm asq [] λvs=>cond ro (call g vs (with' mu fz) [] n λv new n'=>sweepG orc.sw n v new λnew=>joinK new mu λmu=>k v mu n') (call g vs fz mu n k)
      rw [argsK_eq,List.append_nil]
      cases ro with
      | false=>rfl
      | true=>unfold qCallR; rw [withF_eq]; rfl
  | build z ps=>exact othE_eq (op:=.build z ps) h rfl hok
  | bslice s l z ps=>exact othE_eq (op:=.bslice s l z ps) h rfl hok
  | shift b x y=>exact othE_eq (op:=.shift b x y) h rfl hok
  | sbin o x y=>exact othE_eq (op:=.sbin o x y) h rfl hok
  | eqb o x y=>exact othE_eq (op:=.eqb o x y) h rfl hok
  | eqn s o x y=>exact othE_eq (op:=.eqn s o x y) h rfl hok
  | eqs m o x y=>exact othE_eq (op:=.eqs m o x y) h rfl hok
  | neg x=>exact othE_eq (op:=.neg x) h rfl hok
  | conv kd x=>exact othE_eq (op:=.conv kd x) h rfl hok
  | mkfn g cs=>exact othE_eq (op:=.mkfn g cs) h rfl hok
  | mkslice s b z x y=>exact othE_eq (op:=.mkslice s b z x y) h rfl hok
  | slc st s x lo hi mx=>exact othE_eq (op:=.slc st s x lo hi mx) h rfl hok
  | fld o a m x=>exact othE_eq (op:=.fld o a m x) h rfl hok
  | iaddrA s len x i=>exact othE_eq (op:=.iaddrA s len x i) h rfl hok
  | idx x i=>exact othE_eq (op:=.idx x i) h rfl hok
  | cap x=>exact othE_eq (op:=.cap x) h rfl hok
  | append s b x y=>exact othE_eq (op:=.append s b x y) h rfl hok
  | copy s x y=>exact othE_eq (op:=.copy s x y) h rfl hok
  | max x xs=>exact othE_eq (op:=.max x xs) h rfl hok
  | min x xs=>exact othE_eq (op:=.min x xs) h rfl hok
  | ext x xs=>exact othE_eq (op:=.ext x xs) h rfl hok
end
end Go.Ev
namespace Go.Ev
inductive BC where
  | norm
  | ret
  | bad
  | exit (id : Nat)
  | reg (ops : List AOper) (next : BC)
  | draw (ops : List AOper) (next : BC)
  | ite (x : Od) (a b : BC)
  | iteN (x : Od) (a b next : BC)
  | test (x : Od) (id : Nat) (next : BC)
  | blk (id : Nat) (a next : BC)
  | loop (a next : BC)
def BC.isNorm : BC → Bool
  | .norm=>true
  | _=>false
def ACode.testId : ACode → ACode → Option Nat
  | .skip,.exit id=>some id
  | _,_=>none
noncomputable def flat (c : ACode) : BC → BC:=ACode.rec (motive:=λ_=>BC → BC)
  (λnx=>nx)
  (λops nx=>.reg ops nx)
  (λops nx=>.draw ops nx)
  (λ_ _ iha ihb nx=>iha (ihb nx))
  (λx a b iha ihb nx=>Bool.rec (motive:=λ_=>BC) (Option.rec (motive:=λ_=>BC) (.iteN x (iha .norm) (ihb .norm) nx) (λid=>.test x id nx) (ACode.testId a b)) (.ite x (iha .norm) (ihb .norm)) nx.isNorm)
  (λid _ iha nx=>.blk id (iha .norm) nx)
  (λ_ iha nx=>.loop (iha .norm) nx)
  (λid _=>.exit id)
  (λ_=>.ret)
  (λ_=>.bad) c
end Go.Ev
namespace Go.Ev
noncomputable def fg (kp : Nat → Bool) (tm : TM) : TM:=tm.zipIdx.map λp=>p.1.zipIdx.map λs=>cond (kp (16 * p.2 + s.2)) s.1 (.one .un)
theorem row_fg (kp : Nat → Bool) (tm : TM) (q : Nat) : (fg kp tm)[q]? = (tm[q]?).map λrow=>row.zipIdx.map λs=>cond (kp (16 * q + s.2)) s.1 (.one .un):=by
  unfold fg
  rw [List.getElem?_map,List.getElem?_zipIdx]
  cases tm[q]? <;> simp
theorem inR_fg {kp : Nat → Bool} {tm : TM} {q r : Nat} : inR (fg kp tm) q r ↔ inR tm q r:=by
  unfold inR
  rw [row_fg]
  cases tm[q]? <;> simp
theorem get_fg (kp : Nat → Bool) (tm : TM) (q r : Nat) : get (fg kp tm) q r = cond (kp (16 * q + r)) (get tm q r) (.one .un):=by
  unfold get
  rw [nth_eq,nth_eq,nth_eq,nth_eq,row_fg]
  cases tm[q]? with
  | none=>simp
  | some row =>
    simp only [Option.map_some,Option.getD_some,List.getElem?_map,List.getElem?_zipIdx,Nat.zero_add]
    cases row[r]? with
    | none=>simp
    | some v=>simp
theorem TmR.fg {val : Nat → Int} {ρ : Rho} {w : World} {tm : TM} {a : Act} (kp : Nat → Bool) (h : TmR val ρ w tm a) : TmR val ρ w (fg kp tm) a:=by
  refine ⟨λt ht=>h.rng t (inR_fg.1 ht),λt=>?_⟩
  rw [get_fg]
  cases kp (16 * (t / 16) + t % 16) with
  | true=>exact h.vals t
  | false=>trivial
theorem PostS.fg {val : Nat → Int} {ρ : Rho} {fz : Fz} {mu : St} {n : Nat} {w : World} {a : Act} {tm' : TM} {mu' : St} {n' : Nat} {a' : Act} {w' : World} (kp : Nat → Bool) (h : PostS val ρ fz mu n w a tm' mu' n' a' w') : PostS val ρ fz mu n w a (fg kp tm') mu' n' a' w':=by
  obtain ⟨d,ρ',p1,p2,p3,p4⟩:=h
  exact ⟨d,ρ',p1,p2,p3.fg kp,p4⟩
def BC.tst : BC → Bool
  | .ite ..=>true
  | .iteN ..=>true
  | .test ..=>true
  | _=>false
section
variable {R : Type}
noncomputable def inBN (id : Nat) (next : TM → St → Nat → R) (k : AExit → TM → St → Nat → R) : AExit → TM → St → Nat → R:=λe tm mu n=>AExit.rec (motive:=λ_=>R) (next tm mu n) (λid'=>cond (Nat.beq id' id) (next tm mu n) (k (.exit id') tm mu n)) (k .ret tm mu n) e
noncomputable def onIf (z : R) (v : AV) (a b : R) : R:=v.onOne z λs=>s.onBool z λt=>cond t a b
noncomputable def runKf (orc : Orc R) (z : R) (call : CallT R) (fz : Fz) (kp : Nat → Bool) (ops : List AOper) : Nat → TM → St → Nat → (TM → St → Nat → R) → R :=
  List.rec (motive:=λ_=>Nat → TM → St → Nat → (TM → St → Nat → R) → R) (λ_ tm mu n k=>k tm mu n)
    (λo _ ih c tm mu n k=>Nat.rec (motive:=λ_=>R) (stepK orc z call fz o (fg kp tm) mu n λtm mu n=>ih 9 tm mu n k) (λc _=>stepK orc z call fz o tm mu n λtm mu n=>ih c tm mu n k) c) ops
noncomputable def bcode (orc : Orc R) (z : R) (call : CallT R) (fz : Fz) (fuel : Nat) (kp : Nat → Bool) : BC → TM → St → Nat → (AExit → TM → St → Nat → R) → R
  | .norm,tm,mu,n,k=>k .normal tm mu n
  | .ret,tm,mu,n,k=>k .ret tm mu n
  | .bad,_,_,_,_=>z
  | .exit id,tm,mu,n,k=>k (.exit id) tm mu n
  | .reg ops nx,tm,mu,n,k=>runKf orc z call fz kp ops 10 tm mu n λtm mu n=>bcode orc z call fz fuel kp nx (cond nx.tst tm (fg kp tm)) mu n k
  | .draw ops nx,tm,mu,n,k=>drawK orc z call fz ops tm mu n λtm mu n=>bcode orc z call fz fuel kp nx (cond nx.tst tm (fg kp tm)) mu n k
  | .ite x a b,tm,mu,n,k=>onIf z (ev tm x) (bcode orc z call fz fuel kp a (fg kp tm) mu n k) (bcode orc z call fz fuel kp b (fg kp tm) mu n k)
  | .iteN x a b nx,tm,mu,n,k=>onIf z (ev tm x) (bcode orc z call fz fuel kp a (fg kp tm) mu n (onw (bcode orc z call fz fuel kp nx · · · k) k)) (bcode orc z call fz fuel kp b (fg kp tm) mu n (onw (bcode orc z call fz fuel kp nx · · · k) k))
  | .test x id nx,tm,mu,n,k=>onIf z (ev tm x) (bcode orc z call fz fuel kp nx (fg kp tm) mu n k) (k (.exit id) (fg kp tm) mu n)
  | .blk id a nx,tm,mu,n,k=>bcode orc z call fz fuel kp a tm mu n (inBN id (bcode orc z call fz fuel kp nx · · · k) k)
  | .loop a nx,tm,mu,n,k=>loopD z (bcode orc z call fz fuel kp a) fuel tm mu n (onw (bcode orc z call fz fuel kp nx · · · k) k)
end
section
variable {R : Type} {T : R → Prop} {z : R} {P : Program} {val : Nat → Int} {fz : Fz} {orc : Orc R} {call : CallT R} {kp : Nat → Bool}
theorem CodeD.fg {c : Code} {tm : TM} {mu : St} {n : Nat} {e : AExit} {tm' : TM} {mu' : St} {n' : Nat} (h : CodeD P val fz c (fg kp tm) mu n e tm' mu' n') : CodeD P val fz c tm mu n e tm' mu' n' :=
  ⟨h.1,λρ w a hr ht hf Q hQ=>h.2 ρ w a hr (ht.fg kp) hf Q hQ⟩
def Out (T : R → Prop) (next : TM → St → Nat → Prop) (k : AExit → TM → St → Nat → R) : AExit → TM → St → Nat → Prop
  | .normal,tm,mu,n=>next tm mu n
  | .exit id,tm,mu,n=>T (k (.exit id) tm mu n)
  | .ret,tm,mu,n=>T (k .ret tm mu n)
theorem runKf_sound (hz : ¬ T z) (hc : CallSound T P val call) (hk : OrcOk T val orc) {ops : Array Oper} : ∀ {l : List Oper} {al : List AOper} {c : Nat} {tm : TM} {mu : St} {n : Nat} {k : TM → St → Nat → R}, All2 (OpR P ops) l al → T (runKf orc z call fz kp al c tm mu n k) →
    ∃ tm' mu' n',T (k tm' mu' n') ∧ n ≤ n' ∧ ∀ ρ w a,Rel val ρ fz mu w → TmR val ρ w tm a → FreshN ρ n n' → ∀ (Q : Exit → Act → World → Prop),(∀ a' w',PostS val ρ fz mu n w a tm' mu' n' a' w' → Q .normal a' w') → wpList P ops Q l a w
  | [],[],c,tm,mu,n,k,_,h=>⟨tm,mu,n,h,Nat.le_refl _,λρ w a hr ht _ Q hQ=>hQ a w (PostS.refl hr ht)⟩
  | [],_ :: _,_,_,_,_,_,hl,_=>hl.elim
  | _ :: _,[],_,_,_,_,_,hl,_=>hl.elim
  | o :: l,ao :: al,c,tm,mu,n,k,hl,h=>by
    have go : ∀ (c' : Nat) (tm0 : TM), (∀ ρ w a, TmR val ρ w tm a → TmR val ρ w tm0 a) → T (stepK orc z call fz ao tm0 mu n fun tm mu n => runKf orc z call fz kp al c' tm mu n k) →
        ∃ tm' mu' n',T (k tm' mu' n') ∧ n ≤ n' ∧ ∀ ρ w a,Rel val ρ fz mu w → TmR val ρ w tm a → FreshN ρ n n' → ∀ (Q : Exit → Act → World → Prop),(∀ a' w',PostS val ρ fz mu n w a tm' mu' n' a' w' → Q .normal a' w') → wpList P ops Q (o :: l) a w:=by
      intro c' tm0 h0 h
      obtain ⟨tm1,mu1,n1,h1,h2⟩:=stepK_sound (P:=P) (val:=val) hz hc hk hl.1 h
      obtain ⟨tm2,mu2,n2,h3,h4,h5⟩:=runKf_sound hz hc hk hl.2 h1
      refine ⟨tm2,mu2,n2,h3,Nat.le_trans h2.1 h4,λρ w a hr ht hf Q hQ=>?_⟩
      have:=h2.2 ρ w a hr (h0 ρ w a ht) (hf.sub (Nat.le_refl _) h4) (wpList P ops Q l) Q λa1 w1 hp=>by
        obtain ⟨d,ρ1,p1,p2,p3,p4,p5,p6⟩:=hp
        refine h5 ρ1 w1 a1 p2 p3 (hf.later p1 h2.1) Q λa2 w2 hp2=>hQ a2 w2 ?_
        exact PostS.trans d p1 p4 p5 p6 h2.1 h4 hp2
      simpa only [wpList] using this
    cases c with
    | zero=>exact go 9 (fg kp tm) (λρ w a ht=>ht.fg kp) h
    | succ c=>exact go c tm (λρ w a ht=>ht) h
theorem fgC (kp : Nat → Bool) (b : Bool) {val : Nat → Int} {ρ : Rho} {fz : Fz} {mu : St} {n : Nat} {w : World} {a : Act} {tm' : TM} {mu' : St} {n' : Nat} {a' : Act} {w' : World} (h : PostS val ρ fz mu n w a tm' mu' n' a' w') : PostS val ρ fz mu n w a (cond b tm' (fg kp tm')) mu' n' a' w':=by
  cases b with
  | true=>exact h
  | false=>exact h.fg kp
theorem onIf_elim (hz : ¬ T z) {v : AV} {a b : R} (h : T (onIf z v a b)) : ∃ t,v = .one (.bool t) ∧ T (cond t a b):=by
  obtain ⟨s,e1,h1⟩:=onOne_elim hz h
  obtain ⟨t,e2,h2⟩:=onBool_elim hz h1
  exact ⟨t,by rw [e1,e2],h2⟩
theorem out_onw {next : TM → St → Nat → R} {k : AExit → TM → St → Nat → R} {e : AExit} {tm : TM} {mu : St} {n : Nat} (h : T (onw next k e tm mu n)) : Out T (λtm mu n=>T (next tm mu n)) k e tm mu n:=by
  cases e <;> exact h
theorem out_norm {fuel : Nat} {k : AExit → TM → St → Nat → R} {e : AExit} {tm : TM} {mu : St} {n : Nat} (h : Out T (λtm mu n=>T (bcode orc z call fz fuel kp .norm tm mu n k)) k e tm mu n) : T (k e tm mu n):=by
  cases e <;> exact h
theorem testId_some {a b : ACode} {id : Nat} (h : ACode.testId a b = some id) : a = .skip ∧ b = .exit id:=by
  unfold ACode.testId at h
  split at h
  · cases h; exact ⟨rfl,rfl⟩
  · cases h
theorem bcode_sound (hz : ¬ T z) (hc : CallSound T P val call) (hk : OrcOk T val orc) (hmx : P.follows .mixedOrders = true) {m : Muts} {fuel : Nat} : ∀ (c : Code) {ac : ACode} {nx : BC} {tm : TM} {mu : St} {n : Nat} {k : AExit → TM → St → Nat → R}, prepCode P m c = some ac → T (bcode orc z call fz fuel kp (flat ac nx) tm mu n k) →
    ∃ e tm' mu' n',Out T (λtm mu n=>T (bcode orc z call fz fuel kp nx tm mu n k)) k e tm' mu' n' ∧ CodeD P val fz c tm mu n e tm' mu' n'
  | .skip,ac,nx,tm,mu,n,k,hp,h=>by
    simp only [prepCode,Option.some.injEq] at hp; subst hp
    exact ⟨.normal,tm,mu,n,h,codeD_same λQ a w hq=>wp_skip hq⟩
  | .label l,ac,nx,tm,mu,n,k,hp,h=>by
    simp only [prepCode,Option.some.injEq] at hp; subst hp
    exact ⟨.normal,tm,mu,n,h,codeD_same λQ a w hq=>wp_label hq⟩
  | .exit id,ac,nx,tm,mu,n,k,hp,h=>by
    simp only [prepCode,Option.some.injEq] at hp; subst hp
    exact ⟨.exit id,tm,mu,n,h,codeD_same λQ a w hq=>wp_exit hq⟩
  | .ret,ac,nx,tm,mu,n,k,hp,h=>by
    simp only [prepCode,Option.some.injEq] at hp; subst hp
    exact ⟨.ret,tm,mu,n,h,codeD_same λQ a w hq=>wp_ret hq⟩
  | .region id ops false,ac,nx,tm,mu,n,k,hp,h=>by
    simp only [prepCode] at hp
    split at hp
    · rename_i al h1
      cases hp
      obtain ⟨tm',mu',n',h2,h3,h4⟩:=runKf_sound (P:=P) (val:=val) hz hc hk (prepOpers_R h1) (show T (runKf orc z call fz kp al 10 tm mu n λtm mu n=>bcode orc z call fz fuel kp nx (cond nx.tst tm (fg kp tm)) mu n k) from h)
      exact ⟨.normal,_,mu',n',h2,h3,λρ w a hr ht hf Q hQ=>wp_region_list (h4 ρ w a hr ht hf Q λa' w' hp=>hQ a' w' (fgC kp nx.tst hp))⟩
    · cases hp; exact (hz h).elim
  | .region id ops true,ac,nx,tm,mu,n,k,hp,h=>by
    simp only [prepCode] at hp
    split at hp
    · rename_i l h1
      split at hp
      · rename_i hok
        cases hp
        have hR : All2 (OpR P ops) ops.toList (modes l (ancs ops.toList [])):=by
          have hl:=prepOpers_R h1
          have hlen : (modes l (ancs ops.toList [])).length = ops.toList.length:=modes_length h1
          refine All2.of_get hlen.symm λi o ao ho hao=>?_
          obtain ⟨ao',h2,h3⟩:=hl.get ho
          exact h3.same (modes_get h2 hao)
        obtain ⟨tm',mu',n',h2,h3,h4⟩:=draw_sound (P:=P) (val:=val) (id:=id) hz hc hk hmx hok hR (show T (drawK orc z call fz _ tm mu n λtm mu n=>bcode orc z call fz fuel kp nx (cond nx.tst tm (fg kp tm)) mu n k) from h)
        exact ⟨.normal,_,mu',n',h2,h3,λρ w a hr ht hf Q hQ=>h4 ρ w a hr ht hf Q λa' w' hp=>hQ a' w' (fgC kp nx.tst hp)⟩
      · cases hp; exact (hz h).elim
    · cases hp; exact (hz h).elim
  | .seq a b,ac,nx,tm,mu,n,k,hp,h=>by
    simp only [prepCode] at hp
    split at hp
    · rename_i x y hx hy
      cases hp
      obtain ⟨e,tm1,mu1,n1,h1,h2⟩:=bcode_sound hz hc hk hmx a hx (show T (bcode orc z call fz fuel kp (flat x (flat y nx)) tm mu n k) from h)
      cases e with
      | normal =>
        obtain ⟨e2,tm2,mu2,n2,h3,h4⟩:=bcode_sound hz hc hk hmx b hy (show T (bcode orc z call fz fuel kp (flat y nx) tm1 mu1 n1 k) from h1)
        refine ⟨e2,tm2,mu2,n2,h3,Nat.le_trans h2.1 h4.1,λρ w a hr ht hf Q hQ=>wp_seq ?_⟩
        refine h2.2 ρ w a hr ht (hf.sub (Nat.le_refl _) h4.1) _ λa1 w1 hp=>?_
        obtain ⟨d,ρ1,p1,p2,p3,p4,p5,p6⟩:=hp
        refine h4.2 ρ1 w1 a1 p2 p3 (hf.later p1 h2.1) Q λa2 w2 hp2=>hQ a2 w2 ?_
        exact PostS.trans d p1 p4 p5 p6 h2.1 h4.1 hp2
      | exit id=>exact ⟨.exit id,tm1,mu1,n1,h1,h2.1,λρ w a hr ht hf Q hQ=>wp_seq (h2.2 ρ w a hr ht hf (Exit.then (b.wp P Q) Q) hQ)⟩
      | ret=>exact ⟨.ret,tm1,mu1,n1,h1,h2.1,λρ w a hr ht hf Q hQ=>wp_seq (h2.2 ρ w a hr ht hf (Exit.then (b.wp P Q) Q) hQ)⟩
    · cases hp
  | .cond c a b,ac,nx,tm,mu,n,k,hp,h=>by
    simp only [prepCode] at hp
    split at hp
    · rename_i c' x y hcd hx hy
      cases hp
      have hev : ∀ t,ev tm c' = .one (.bool t) → ∀ ρ w (act : Act),TmR val ρ w tm act → act.eval c = .bool t:=λt e1 ρ w act ht=>by
        have:=ht.ev hcd
        rw [e1] at this
        exact this
      have yes : ∀ {t : Bool} {e : AExit} {tm' : TM} {mu' : St} {n' : Nat},ev tm c' = .one (.bool t) → t = true → CodeD P val fz a (fg kp tm) mu n e tm' mu' n' → CodeD P val fz (.cond c a b) tm mu n e tm' mu' n':=λe1 et h =>
        ⟨h.1,λρ w act hr ht hf Q hQ=>wp_cond_true (by rw [hev _ e1 ρ w act ht,et]) (h.fg.2 ρ w act hr ht hf Q hQ)⟩
      have no : ∀ {t : Bool} {e : AExit} {tm' : TM} {mu' : St} {n' : Nat},ev tm c' = .one (.bool t) → t = false → CodeD P val fz b (fg kp tm) mu n e tm' mu' n' → CodeD P val fz (.cond c a b) tm mu n e tm' mu' n':=λe1 et h =>
        ⟨h.1,λρ w act hr ht hf Q hQ=>wp_cond_false (by rw [hev _ e1 ρ w act ht,et]) (h.fg.2 ρ w act hr ht hf Q hQ)⟩
      have h9 : T (bcode orc z call fz fuel kp (Bool.rec (motive:=λ_=>BC) (Option.rec (motive:=λ_=>BC) (.iteN c' (flat x .norm) (flat y .norm) nx) (λid=>.test c' id nx) (ACode.testId x y)) (.ite c' (flat x .norm) (flat y .norm)) nx.isNorm) tm mu n k):=h
      cases hn : nx.isNorm with
      | true =>
        have hnx : nx = .norm:=by cases nx <;> first | rfl | cases hn
        subst hnx
        simp only [hn] at h9
        obtain ⟨t,e1,h1⟩:=onIf_elim hz h9
        cases t with
        | true =>
          obtain ⟨e,tm1,mu1,n1,h3,h4⟩:=bcode_sound hz hc hk hmx a hx h1
          exact ⟨e,tm1,mu1,n1,h3,yes e1 rfl h4⟩
        | false =>
          obtain ⟨e,tm1,mu1,n1,h3,h4⟩:=bcode_sound hz hc hk hmx b hy h1
          exact ⟨e,tm1,mu1,n1,h3,no e1 rfl h4⟩
      | false =>
        cases hi : ACode.testId x y with
        | some id =>
          simp only [hn,hi] at h9
          obtain ⟨rfl,rfl⟩:=testId_some hi
          obtain ⟨t,e1,h1⟩:=onIf_elim hz h9
          cases t with
          | true =>
            obtain ⟨e,tm1,mu1,n1,h3,h4⟩:=bcode_sound hz hc hk hmx a hx (show T (bcode orc z call fz fuel kp (flat .skip nx) (fg kp tm) mu n k) from h1)
            exact ⟨e,tm1,mu1,n1,h3,yes e1 rfl h4⟩
          | false =>
            obtain ⟨e,tm1,mu1,n1,h3,h4⟩:=bcode_sound hz hc hk hmx b hy (show T (bcode orc z call fz fuel kp (flat (.exit id) nx) (fg kp tm) mu n k) from h1)
            exact ⟨e,tm1,mu1,n1,h3,no e1 rfl h4⟩
        | none =>
          simp only [hn,hi] at h9
          obtain ⟨t,e1,h1⟩:=onIf_elim hz h9
          cases t with
          | true =>
            obtain ⟨e,tm1,mu1,n1,h3,h4⟩:=bcode_sound hz hc hk hmx a hx h1
            exact ⟨e,tm1,mu1,n1,out_onw (out_norm h3),yes e1 rfl h4⟩
          | false =>
            obtain ⟨e,tm1,mu1,n1,h3,h4⟩:=bcode_sound hz hc hk hmx b hy h1
            exact ⟨e,tm1,mu1,n1,out_onw (out_norm h3),no e1 rfl h4⟩
    · cases hp
  | .block id a,ac,nx,tm,mu,n,k,hp,h=>by
    simp only [prepCode] at hp
    obtain ⟨x,hx,rfl⟩:=Option.map_eq_some_iff.1 hp
    obtain ⟨e,tm1,mu1,n1,h0,h2⟩:=bcode_sound hz hc hk hmx a hx (show T (bcode orc z call fz fuel kp (flat x .norm) tm mu n (inBN id (bcode orc z call fz fuel kp nx · · · k) k)) from h)
    have h1:=out_norm h0
    cases e with
    | normal=>exact ⟨.normal,tm1,mu1,n1,h1,h2.1,λρ w a hr ht hf Q hQ=>wp_block (h2.2 ρ w a hr ht hf (Exit.inBlock id Q) hQ)⟩
    | ret=>exact ⟨.ret,tm1,mu1,n1,h1,h2.1,λρ w a hr ht hf Q hQ=>wp_block (h2.2 ρ w a hr ht hf (Exit.inBlock id Q) hQ)⟩
    | exit id' =>
      have h1' : T (cond (Nat.beq id' id) (bcode orc z call fz fuel kp nx tm1 mu1 n1 k) (k (.exit id') tm1 mu1 n1)):=h1
      cases hb : Nat.beq id' id with
      | true =>
        rw [hb] at h1'
        have:=Nat.eq_of_beq_eq_true hb
        subst this
        refine ⟨.normal,tm1,mu1,n1,h1',h2.1,λρ w a hr ht hf Q hQ=>wp_block (h2.2 ρ w a hr ht hf _ λa' w' hp=>?_)⟩
        show Exit.inBlock id' Q (.exit id') a' w'
        simp only [Exit.inBlock,if_true]
        exact hQ a' w' hp
      | false =>
        rw [hb] at h1'
        have:=Nat.ne_of_beq_eq_false hb
        refine ⟨.exit id',tm1,mu1,n1,h1',h2.1,λρ w a hr ht hf Q hQ=>wp_block (h2.2 ρ w a hr ht hf _ λa' w' hp=>?_)⟩
        show Exit.inBlock id Q (.exit id') a' w'
        simp only [Exit.inBlock,this,if_false]
        exact hQ a' w' hp
  | .loop a,ac,nx,tm,mu,n,k,hp,h=>by
    simp only [prepCode] at hp
    obtain ⟨x,hx,rfl⟩:=Option.map_eq_some_iff.1 hp
    obtain ⟨e,tm1,mu1,n1,h1,h2,h3⟩:=loopD_sound (P:=P) (val:=val) (fz:=fz) (a:=a) (D:=bcode orc z call fz fuel kp (flat x .norm)) hz (λh=>by
      obtain ⟨e,tm',mu',n',g1,g2⟩:=bcode_sound hz hc hk hmx a hx h
      exact ⟨e,tm',mu',n',out_norm g1,g2⟩) fuel (show T (loopD z (bcode orc z call fz fuel kp (flat x .norm)) fuel tm mu n (onw (bcode orc z call fz fuel kp nx · · · k) k)) from h)
    exact ⟨e,tm1,mu1,n1,out_onw h1,h2,λρ w act hr ht hf Q hQ=>wp_loop_rounds _ (h3 ρ w act hr ht hf Q hQ)⟩
  | .scope a,ac,nx,tm,mu,n,k,hp,h=>by
    simp only [prepCode] at hp
    obtain ⟨e,tm1,mu1,n1,h1,h2⟩:=bcode_sound hz hc hk hmx a hp h
    refine ⟨e,tm1,mu1,n1,h1,h2.1,λρ w act hr ht hf Q hQ=>wp_scope_straight (h2.2 ρ w act hr ht hf _ λa' w' hp=>?_)⟩
    cases e <;> exact hQ a' w' hp
  | .goto l,ac,nx,tm,mu,n,k,hp,h=>by
    simp only [prepCode,Option.some.injEq] at hp; subst hp
    exact (hz h).elim
  | .rangeFunc ..,ac,nx,tm,mu,n,k,hp,h=>by
    simp only [prepCode,Option.some.injEq] at hp; subst hp
    exact (hz h).elim
  | .refuse _,ac,nx,tm,mu,n,k,hp,h=>by
    simp only [prepCode,Option.some.injEq] at hp; subst hp
    exact (hz h).elim
end
end Go.Ev
