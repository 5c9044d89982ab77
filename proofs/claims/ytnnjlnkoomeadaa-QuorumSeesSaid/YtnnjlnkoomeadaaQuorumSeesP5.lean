/-
  QuorumSees: part 5 of what the proof is made of.
-/
import Derived.Test.YtnnjlnkoomeadaaQuorumSeesP4
import Derived.Shelf.Spec.SlicesInsertGrow
set_option linter.unusedVariables false
set_option linter.unusedSimpArgs false
open Int renaming reduceEq → zA,reduceNe → zB,reduceLT → zC,reduceLE → zD,reduceNeg → zE,reduceAdd → zF,reduceSub → zG,reduceToNat → zH
open Nat renaming reduceEqDiff → zI,reduceAdd → zJ,reduceMul → zK,reduceSub → zL,reduceLeDiff → zM,reduceBEq → zN,reduceLT → zO,reduceBneDiff → zP
namespace Go.Proofs.Ytnnjlnkoomeadaa.Pv
open Go.Ev Go.Ev.Rp
set_option maxRecDepth 100000
set_option maxHeartbeats 4000000
set_option linter.unusedSimpArgs false
set_option linter.unusedVariables false
set_option linter.unusedSectionVars false
def prv (p : Int) (l : List Int) (i : Nat) : Int:=if i = 0 then p else l.getD (i - 1) 0
def riseAt (me k p : Int) (l : List Int) (i : Nat) : Bool:=decide (prv p l i < l.getD i 0) && decide (l.getD i 0 < k) && decide (l.getD i 0 ≠ me)
theorem rises_all (me k : Int) : ∀ (l : List Int) (p : Int),risesB me k p l = (List.range l.length).all (riseAt me k p l)
  | [],p=>rfl
  | a :: l,p=>by
    rw [risesB,rises_all me k l a,List.length_cons,List.range_succ_eq_map,List.all_cons,List.all_map]
    congr 1
    apply List.all_congr rfl
    intro i
    cases i <;> rfl
def dosOk (r : Rep) (i : Nat) : Bool:=match r.dos[i]? with | none=>true | some d=>lgB d.log && decide (0 ≤ d.normal) && decide (d.normal < r.view) && decide (0 ≤ d.commit)
theorem dos_all (r : Rep) : dosB r = (List.range r.dos.length).all (dosOk r):=by
  unfold dosB
  rw [Bool.eq_iff_iff,List.all_eq_true,List.all_eq_true]
  constructor
  · intro h i hi
    have hi : i < r.dos.length:=by simpa using hi
    unfold dosOk
    rw [List.getElem?_eq_getElem hi]
    exact h _ (List.getElem_mem hi)
  · intro h d hd
    obtain ⟨i,hi,rfl⟩:=List.getElem_of_mem hd
    have:=h i (by simpa using hi)
    unfold dosOk at this
    rw [List.getElem?_eq_getElem hi] at this
    exact this
def doAt (r : Rep) (i : Nat) : Bool:=riseAt r.me r.nodes (-1) (r.dos.map (·.frm)) i && dosOk r i
theorem do_all (r : Rep) : (risesB r.me r.nodes (-1) (r.dos.map (·.frm)) && dosB r) = (List.range r.dos.length).all (doAt r):=by
  rw [rises_all,dos_all,List.length_map]
  unfold doAt
  rw [Bool.eq_iff_iff]
  simp only [Bool.and_eq_true,List.all_eq_true]
  exact ⟨λh i hi=>⟨h.1 i hi,h.2 i hi⟩,λh=>⟨λi hi=>(h i hi).1,λi hi=>(h i hi).2⟩⟩
theorem repB_eq (r : Rep) : repB r = (meB r.me r.nodes && decide (0 ≤ r.status) && decide (r.status ≤ 2) && countB r.view && countB r.normal && countB r.commit &&
  decide (r.normal ≤ r.view) && (decide (r.status ≠ 0) || decide (r.normal = r.view)) && lgB r.log && decide (r.log.base ≤ r.commit) && decide (r.commit ≤ last r.log) &&
  decide ((r.acks.length : Int) = r.nodes) && !(r.acks.any λa=>!countB a) && (decide (r.status = 1) || decide (r.starts.length = 0) && decide (r.dos.length = 0) && !r.sent) &&
  risesB r.me r.nodes (-1) r.starts && (risesB r.me r.nodes (-1) (r.dos.map (·.frm)) && dosB r)):=by
  unfold repB meB
  rw [List.all_eq_not_any_not,Bool.and_assoc (_ && risesB r.me r.nodes (-1) r.starts)]
variable {P : Program} (H : Fs P)
include H
theorem replica_May (r : Rep) (xe xa xs xd : SV) (hl1 : r.starts.length ≤ 1152921504606846976) (hl2 : r.dos.length ≤ 1152921504606846976) (hl3 : r.acks.length ≤ 1152921504606846976) :
    BoolC P n_replica_May [.ag (repC r xe xa xs xd)] (λM=>EntsR M xe r.log.ents ∧ IntsR M xa r.acks ∧ IntsR M xs r.starts ∧ DvsR M xd r.dos) (repB r):=boolC H.mx H.replica_May (r.starts.length + r.dos.length + 1) λfz mu n k hfr gg s h=>by
  obtain ⟨s1,s2,s3,s4⟩:=s
  obtain ⟨xel,xes,xek,xem⟩:=s1.len
  obtain ⟨xal,xas,xak,xam⟩:=s2.len
  obtain ⟨xsl,xss,xsk,xsm⟩:=s3.len
  obtain ⟨xdl,xds,xdk,xdm⟩:=s4.len
  have hfr0:=hfr
  have loop0 : Hide (∀ (e : Env) mu1 n1 (K : LK) w, Gr n fz mu mu1 n n1 → with' mu1 fz n = some (repC r xe xa xs xd) → e 0 1 = .one (.optr n 0) → e 6 14 = .one xs → e 6 15 = .one (.int .i64 r.starts.length) → e 7 0 = .one (.int .i64 0) → e 0 3 = .one (.int .i64 (-1)) →
      (risesB r.me r.nodes (-1) r.starts = true → ∀ e' mu' n',Gr n fz mu mu' n n' → with' mu' fz n = some (repC r xe xa xs xd) → e' 0 1 = .one (.optr n 0) → K (.exit 0) (tmE 184 e') mu' n') →
      (risesB r.me r.nodes (-1) r.starts = false → ∀ e' mu' n',Gr n fz mu mu' n n' → e' 0 2 = .one (.bool false) → K .ret (tmE 184 e') mu' n') →
      Lp (dcode pOrc False (CP P) fz (r.starts.length + r.dos.length + 1) l_replica_May_0) (r.starts.length + r.dos.length + 1) (tmE 184 e) mu1 n1 K w):=⟨by
    intro e mu1 n1 K w g1 a1 a2 a3 a4 a5 a6 hd hr
    rw [rises_all] at hd hr
    refine loopI (x:=0) (L:=r.starts.length) (p:=riseAt r.me r.nodes (-1) r.starts) (λi e mu' n'=>Gr n fz mu mu' n n' ∧ with' mu' fz n = some (repC r xe xa xs xd) ∧ e 0 1 = .one (.optr n 0) ∧ e 6 14 = .one xs ∧ e 6 15 = .one (.int .i64 r.starts.length) ∧ e 7 0 = .one (.int .i64 i) ∧ e 0 3 = .one (.int .i64 (prv (-1) r.starts i)))
      (λe mu' n'=>Gr n fz mu mu' n n' ∧ e 0 2 = .one (.bool false)) ?_ ?_ e mu1 n1 K w (by omega) ⟨g1,a1,a2,a3,a4,a5,a6⟩ (λha e' mu' n' hI=>hd (all_range ha) e' mu' n' hI.1 hI.2.1 hI.2.2.1) (λhx e' mu' n' hR=>hr (not_all_range hx) e' mu' n' hR.1 hR.2)
    · rintro i e mu1 n1 K hi ⟨g1,b1,a2,a3,a4,a5,a6⟩ hy hn
      have t3:=IntsR.mono (λ_ _ hh=>g1.old hfr0 hh) s3
      obtain ⟨id,off,cap,B,rfl,hB,hmk,hbd,hsub⟩:=t3.elem hi
      have hw:=wrap_succ hi (by omega)
      have hle:=Nat.le_refl n1
      have hp : prv (-1) r.starts (i + 1) = r.starts[i]:=by simp [prv,hi]
      have hg : r.starts.getD i 0 = r.starts[i]:=by simp [hi]
      clear hd hr h
      unfold repC at b1
      rw [dc_at l_replica_May_0.eq_1]
      simp only [↓E1,E2,zA,zB,zC,zD,zE,zF,zG,zH,zI,zJ,zK,zL,zM,zN,reduceIte,zO,zP, *]
      repeat' (first | ((with_reducible refine Br_intro (λhb=>?_) (λhb=>?_)) <;> simp only [↓E1,E2,zA,zB,zC,zD,zE,zF,zG,zH,zI,zJ,zK,zL,zM,zN,reduceIte,zO,zP, *]))
      all_goals first
        | (refine hy ?_ _ _ _ ⟨g1,b1,?_,?_,?_,?_,?_⟩ <;> (try simp [updN,updE, *]) <;> (clear hy hn; simp_all [riseAt]); done)
        | (refine hn ?_ _ _ _ ⟨g1,?_⟩ <;> (try simp [updN,updE, *]) <;> (clear hy hn; simp_all [riseAt]; try omega); done)
    · rintro e mu n K hI hd
      obtain ⟨g1,a1,a2,a3,a4,a5,a6⟩:=id hI
      rw [dc_at l_replica_May_0.eq_1]
      have hlt : (r.starts.length < r.starts.length) = False:=by simp
      simp only [↓E1,E2,zA,zB,zC,zD,zE,zF,zG,zH,zI,zJ,zK,zL,zM,zN,reduceIte,zO,zP, *]
      all_goals refine hd _ _ _ ⟨g1,a1,by simp [updN,updE, *],by simp [updN,updE, *],by simp [updN,updE, *],by simp [updN,updE, *],by simp [updN,updE, *]⟩⟩
  have loop1 : Hide (∀ (e : Env) mu1 n1 (K : LK) w, Gr n fz mu mu1 n n1 → with' mu1 fz n = some (repC r xe xa xs xd) → e 0 1 = .one (.optr n 0) → e 8 6 = .one xd → e 8 7 = .one (.int .i64 r.dos.length) → e 8 8 = .one (.int .i64 0) → e 0 3 = .one (.int .i64 (-1)) →
      ((risesB r.me r.nodes (-1) (r.dos.map (·.frm)) && dosB r) = true → ∀ e' mu' n',Gr n fz mu mu' n n' → K (.exit 2) (tmE 184 e') mu' n') →
      ((risesB r.me r.nodes (-1) (r.dos.map (·.frm)) && dosB r) = false → ∀ e' mu' n',Gr n fz mu mu' n n' → e' 0 2 = .one (.bool false) → K .ret (tmE 184 e') mu' n') →
      Lp (dcode pOrc False (CP P) fz (r.starts.length + r.dos.length + 1) l_replica_May_1) (r.starts.length + r.dos.length + 1) (tmE 184 e) mu1 n1 K w):=⟨by
    clear loop0
    intro e mu1 n1 K w g1 a1 a2 a3 a4 a5 a6 hd hr
    rw [do_all] at hd hr
    refine loopI (x:=2) (L:=r.dos.length) (p:=doAt r) (λi e mu' n'=>Gr n fz mu mu' n n' ∧ with' mu' fz n = some (repC r xe xa xs xd) ∧ e 0 1 = .one (.optr n 0) ∧ e 8 6 = .one xd ∧ e 8 7 = .one (.int .i64 r.dos.length) ∧ e 8 8 = .one (.int .i64 i) ∧ e 0 3 = .one (.int .i64 (prv (-1) (r.dos.map (·.frm)) i)))
      (λe mu' n'=>Gr n fz mu mu' n n' ∧ e 0 2 = .one (.bool false)) ?_ ?_ e mu1 n1 K w (by omega) ⟨g1,a1,a2,a3,a4,a5,a6⟩ (λha e' mu' n' hI=>hd (all_range ha) e' mu' n' hI.1) (λhx e' mu' n' hR=>hr (not_all_range hx) e' mu' n' hR.1 hR.2)
    · rintro i e mu1 n1 K hi ⟨g1,b1,a2,a3,a4,a5,a6⟩ hy hn
      have t4:=DvsR.mono (λ_ _ hh=>g1.old hfr0 hh) s4
      obtain ⟨id,off,cap,B,bx,rfl,hB,hmk,hbd,hsub,t5⟩:=t4.elem hi
      obtain ⟨ybl,ybs,ybk,ybm⟩:=t5.len
      have hw:=wrap_succ hi (by omega)
      have hle:=Nat.le_refl n1
      have hfr:=g1.free
      have gg:=Gr.refl (lo:=n1) hfr
      have hp : prv (-1) (r.dos.map (·.frm)) (i + 1) = r.dos[i].frm:=by simp [prv,hi]
      have hg : (r.dos.map (·.frm)).getD i 0 = r.dos[i].frm:=by simp [hi]
      have hgi : r.dos[i]? = some r.dos[i]:=List.getElem?_eq_getElem hi
      have hn1 : n < n1:=g1.free.lt b1
      have hne : ¬ n1 = n:=by omega
      have hmm:=message_MayLog H r.dos[i].log bx
      clear hd hr h
      unfold repC at b1
      unfold dvC at hsub
      rw [dc_at l_replica_May_1.eq_1]
      simp only [↓E1,E2,zA,zB,zC,zD,zE,zF,zG,zH,zI,zJ,zK,zL,zM,zN,reduceIte,zO,zP, *]
      repeat' (first | ((with_reducible refine Br_intro (λhb=>?_) (λhb=>?_)) <;> simp only [↓E1,E2,zA,zB,zC,zD,zE,zF,zG,zH,zI,zJ,zK,zL,zM,zN,reduceIte,zO,zP, *]) | ((with_reducible refine CPr_f (f:=n_message_MayLog) ?_); ((first | (refine (hmm).d2 hfr (by first | trivial | exact t5 | assumption) ?_; rintro v mu2 n2 g2 rfl) | (refine (hmm).d3 hfr (λhm=>by first | trivial | exact EntsR.mono hm t5) ?_; rintro v mu2 n2 g2 b7 rfl) | (refine (hmm).c1 hfr (by first | trivial | exact t5 | assumption) ?_; rintro v mu2 n2 g2 rfl) | (refine (hmm).c2 hfr (λhm=>by first | trivial | exact EntsR.mono hm t5) ?_; rintro v mu2 n2 g2 b7 rfl) | (refine (hmm).c3 hfr (λhm=>by first | trivial | exact EntsR.mono hm t5) ?_; rintro v mu2 n2 g2 b7 b8 rfl)); (try replace b1:=g2.old hfr b1); (try replace b7:=g2.old hfr b7); (try replace t5:=EntsR.mono (λ_ _ hh=>g2.old hfr hh) t5); replace gg:=gg.trans (g2.weaken hle); replace hle:=Nat.le_trans hle g2.le; replace hfr:=g2.free; clear g2; simp only [↓E1,E2,zA,zB,zC,zD,zE,zF,zG,zH,zI,zJ,zK,zL,zM,zN,reduceIte,zO,zP, *])))
      all_goals first
        | (refine hy ?_ _ _ _ ⟨g1.trans (gg.weaken g1.le),b1,?_,?_,?_,?_,?_⟩ <;> (try simp [updN,updE, *]) <;> (clear hy hn hmm; simp_all [doAt,riseAt,dosOk]); done)
        | (refine hn ?_ _ _ _ ⟨(by first | exact g1.trans (gg.weaken g1.le) | exact g1.cons g1.le _),?_⟩ <;> (try simp [updN,updE, *]) <;> (clear hy hn hmm; simp_all [doAt,riseAt,dosOk]; try omega); done)
    · rintro e mu n K hI hd
      obtain ⟨g1,a1,a2,a3,a4,a5,a6⟩:=id hI
      rw [dc_at l_replica_May_1.eq_1]
      have hlt : (r.dos.length < r.dos.length) = False:=by simp
      simp only [↓E1,E2,zA,zB,zC,zD,zE,zF,zG,zH,zI,zJ,zK,zL,zM,zN,reduceIte,zO,zP, *]
      all_goals refine hd _ _ _ ⟨g1,a1,by simp [updN,updE, *],by simp [updN,updE, *],by simp [updN,updE, *],by simp [updN,updE, *],by simp [updN,updE, *]⟩⟩
  rw [i_replica_May,dc_at b_replica_May.eq_1]
  have hA : True:=trivial
  have hle:=Nat.le_refl n
  have hwa : IntKind.i64.wrap ((r.starts.length : Int) + r.dos.length) = ((r.starts.length + r.dos.length : Nat) : Int):=by rw [wrap64 (by omega) (by omega)]; rfl
  unfold repC
  simp only [↓E1,E2,zA,zB,zC,zD,zE,zF,zG,zH,zI,zJ,zK,zL,zM,zN,reduceIte,zO,zP, *]
  repeat' (first | ((with_reducible refine Br_intro (λhb=>?_) (λhb=>?_)) <;> (replace hA:=And.intro hA hb; clear hb; simp only [↓E1,E2,zA,zB,zC,zD,zE,zF,zG,zH,zI,zJ,zK,zL,zM,zN,reduceIte,zO,zP, *])) | ((with_reducible refine CPr_f (f:=n_repair_Nodes) ?_); ((first | (refine (repair_Nodes H _ _).d2 hfr (by first | trivial | exact s1 | exact s2 | exact s3 | exact s4 | assumption) ?_; rintro v mu2 n2 g2 rfl) | (refine (repair_Nodes H _ _).d3 hfr (λhm=>by first | trivial | exact EntsR.mono hm s1 | exact IntsR.mono hm s2 | exact IntsR.mono hm s3 | exact DvsR.mono hm s4) ?_; rintro v mu2 n2 g2 b1 rfl) | (refine (repair_Nodes H _ _).c1 hfr (by first | trivial | exact s1 | exact s2 | exact s3 | exact s4 | assumption) ?_; rintro v mu2 n2 g2 rfl) | (refine (repair_Nodes H _ _).c2 hfr (λhm=>by first | trivial | exact EntsR.mono hm s1 | exact IntsR.mono hm s2 | exact IntsR.mono hm s3 | exact DvsR.mono hm s4) ?_; rintro v mu2 n2 g2 b1 rfl) | (refine (repair_Nodes H _ _).c3 hfr (λhm=>by first | trivial | exact EntsR.mono hm s1 | exact IntsR.mono hm s2 | exact IntsR.mono hm s3 | exact DvsR.mono hm s4) ?_; rintro v mu2 n2 g2 b1 b2 rfl)); (try replace b1:=g2.old hfr b1); (try replace s1:=EntsR.mono (λ_ _ hh=>g2.old hfr hh) s1); (try replace s2:=IntsR.mono (λ_ _ hh=>g2.old hfr hh) s2); (try replace s3:=IntsR.mono (λ_ _ hh=>g2.old hfr hh) s3); (try replace s4:=DvsR.mono (λ_ _ hh=>g2.old hfr hh) s4); replace gg:=gg.trans (g2.weaken hle); replace hle:=Nat.le_trans hle g2.le; replace hfr:=g2.free; clear g2; simp only [↓E1,E2,zA,zB,zC,zD,zE,zF,zG,zH,zI,zJ,zK,zL,zM,zN,reduceIte,zO,zP, *])) | ((with_reducible refine CPr_f (f:=n_replica_within) ?_); ((first | (refine (replica_within H _).d2 hfr (by first | trivial | exact s1 | exact s2 | exact s3 | exact s4 | assumption) ?_; rintro v mu2 n2 g2 rfl) | (refine (replica_within H _).d3 hfr (λhm=>by first | trivial | exact EntsR.mono hm s1 | exact IntsR.mono hm s2 | exact IntsR.mono hm s3 | exact DvsR.mono hm s4) ?_; rintro v mu2 n2 g2 b1 rfl) | (refine (replica_within H _).c1 hfr (by first | trivial | exact s1 | exact s2 | exact s3 | exact s4 | assumption) ?_; rintro v mu2 n2 g2 rfl) | (refine (replica_within H _).c2 hfr (λhm=>by first | trivial | exact EntsR.mono hm s1 | exact IntsR.mono hm s2 | exact IntsR.mono hm s3 | exact DvsR.mono hm s4) ?_; rintro v mu2 n2 g2 b1 rfl) | (refine (replica_within H _).c3 hfr (λhm=>by first | trivial | exact EntsR.mono hm s1 | exact IntsR.mono hm s2 | exact IntsR.mono hm s3 | exact DvsR.mono hm s4) ?_; rintro v mu2 n2 g2 b1 b2 rfl)); (try replace b1:=g2.old hfr b1); (try replace s1:=EntsR.mono (λ_ _ hh=>g2.old hfr hh) s1); (try replace s2:=IntsR.mono (λ_ _ hh=>g2.old hfr hh) s2); (try replace s3:=IntsR.mono (λ_ _ hh=>g2.old hfr hh) s3); (try replace s4:=DvsR.mono (λ_ _ hh=>g2.old hfr hh) s4); replace gg:=gg.trans (g2.weaken hle); replace hle:=Nat.le_trans hle g2.le; replace hfr:=g2.free; clear g2; simp only [↓E1,E2,zA,zB,zC,zD,zE,zF,zG,zH,zI,zJ,zK,zL,zM,zN,reduceIte,zO,zP, *])) | ((with_reducible refine CPr_f (f:=n_message_MayLog) ?_); ((first | (refine (message_MayLog H r.log xe).d2 hfr (by first | trivial | exact s1 | exact s2 | exact s3 | exact s4 | assumption) ?_; rintro v mu2 n2 g2 rfl) | (refine (message_MayLog H r.log xe).d3 hfr (λhm=>by first | trivial | exact EntsR.mono hm s1 | exact IntsR.mono hm s2 | exact IntsR.mono hm s3 | exact DvsR.mono hm s4) ?_; rintro v mu2 n2 g2 b1 rfl) | (refine (message_MayLog H r.log xe).c1 hfr (by first | trivial | exact s1 | exact s2 | exact s3 | exact s4 | assumption) ?_; rintro v mu2 n2 g2 rfl) | (refine (message_MayLog H r.log xe).c2 hfr (λhm=>by first | trivial | exact EntsR.mono hm s1 | exact IntsR.mono hm s2 | exact IntsR.mono hm s3 | exact DvsR.mono hm s4) ?_; rintro v mu2 n2 g2 b1 rfl) | (refine (message_MayLog H r.log xe).c3 hfr (λhm=>by first | trivial | exact EntsR.mono hm s1 | exact IntsR.mono hm s2 | exact IntsR.mono hm s3 | exact DvsR.mono hm s4) ?_; rintro v mu2 n2 g2 b1 b2 rfl)); (try replace b1:=g2.old hfr b1); (try replace s1:=EntsR.mono (λ_ _ hh=>g2.old hfr hh) s1); (try replace s2:=IntsR.mono (λ_ _ hh=>g2.old hfr hh) s2); (try replace s3:=IntsR.mono (λ_ _ hh=>g2.old hfr hh) s3); (try replace s4:=DvsR.mono (λ_ _ hh=>g2.old hfr hh) s4); replace gg:=gg.trans (g2.weaken hle); replace hle:=Nat.le_trans hle g2.le; replace hfr:=g2.free; clear g2; simp only [↓E1,E2,zA,zB,zC,zD,zE,zF,zG,zH,zI,zJ,zK,zL,zM,zN,reduceIte,zO,zP, *])) | ((with_reducible refine CPr_f (f:=n_choose_Last) ?_); ((first | (refine (choose_Last H r.log xe).d2 hfr (by first | trivial | exact s1 | exact s2 | exact s3 | exact s4 | assumption) ?_; rintro v mu2 n2 g2 rfl) | (refine (choose_Last H r.log xe).d3 hfr (λhm=>by first | trivial | exact EntsR.mono hm s1 | exact IntsR.mono hm s2 | exact IntsR.mono hm s3 | exact DvsR.mono hm s4) ?_; rintro v mu2 n2 g2 b1 rfl) | (refine (choose_Last H r.log xe).c1 hfr (by first | trivial | exact s1 | exact s2 | exact s3 | exact s4 | assumption) ?_; rintro v mu2 n2 g2 rfl) | (refine (choose_Last H r.log xe).c2 hfr (λhm=>by first | trivial | exact EntsR.mono hm s1 | exact IntsR.mono hm s2 | exact IntsR.mono hm s3 | exact DvsR.mono hm s4) ?_; rintro v mu2 n2 g2 b1 rfl) | (refine (choose_Last H r.log xe).c3 hfr (λhm=>by first | trivial | exact EntsR.mono hm s1 | exact IntsR.mono hm s2 | exact IntsR.mono hm s3 | exact DvsR.mono hm s4) ?_; rintro v mu2 n2 g2 b1 b2 rfl)); (try replace b1:=g2.old hfr b1); (try replace s1:=EntsR.mono (λ_ _ hh=>g2.old hfr hh) s1); (try replace s2:=IntsR.mono (λ_ _ hh=>g2.old hfr hh) s2); (try replace s3:=IntsR.mono (λ_ _ hh=>g2.old hfr hh) s3); (try replace s4:=DvsR.mono (λ_ _ hh=>g2.old hfr hh) s4); replace gg:=gg.trans (g2.weaken hle); replace hle:=Nat.le_trans hle g2.le; replace hfr:=g2.free; clear g2; simp only [↓E1,E2,zA,zB,zC,zD,zE,zF,zG,zH,zI,zJ,zK,zL,zM,zN,reduceIte,zO,zP, *])) | ((with_reducible refine CPr_f (f:=n_slices_ContainsFunc_int_int) ?_); ((first | (refine (contains_ints H _ _ (replica_May_1 H) xa r.acks (Nat.le_trans hl3 (by decide))).d2 hfr (by first | trivial | exact s1 | exact s2 | exact s3 | exact s4 | assumption) ?_; rintro v mu2 n2 g2 rfl) | (refine (contains_ints H _ _ (replica_May_1 H) xa r.acks (Nat.le_trans hl3 (by decide))).d3 hfr (λhm=>by first | trivial | exact EntsR.mono hm s1 | exact IntsR.mono hm s2 | exact IntsR.mono hm s3 | exact DvsR.mono hm s4) ?_; rintro v mu2 n2 g2 b1 rfl) | (refine (contains_ints H _ _ (replica_May_1 H) xa r.acks (Nat.le_trans hl3 (by decide))).c1 hfr (by first | trivial | exact s1 | exact s2 | exact s3 | exact s4 | assumption) ?_; rintro v mu2 n2 g2 rfl) | (refine (contains_ints H _ _ (replica_May_1 H) xa r.acks (Nat.le_trans hl3 (by decide))).c2 hfr (λhm=>by first | trivial | exact EntsR.mono hm s1 | exact IntsR.mono hm s2 | exact IntsR.mono hm s3 | exact DvsR.mono hm s4) ?_; rintro v mu2 n2 g2 b1 rfl) | (refine (contains_ints H _ _ (replica_May_1 H) xa r.acks (Nat.le_trans hl3 (by decide))).c3 hfr (λhm=>by first | trivial | exact EntsR.mono hm s1 | exact IntsR.mono hm s2 | exact IntsR.mono hm s3 | exact DvsR.mono hm s4) ?_; rintro v mu2 n2 g2 b1 b2 rfl)); (try replace b1:=g2.old hfr b1); (try replace s1:=EntsR.mono (λ_ _ hh=>g2.old hfr hh) s1); (try replace s2:=IntsR.mono (λ_ _ hh=>g2.old hfr hh) s2); (try replace s3:=IntsR.mono (λ_ _ hh=>g2.old hfr hh) s3); (try replace s4:=DvsR.mono (λ_ _ hh=>g2.old hfr hh) s4); replace gg:=gg.trans (g2.weaken hle); replace hle:=Nat.le_trans hle g2.le; replace hfr:=g2.free; clear g2; simp only [↓E1,E2,zA,zB,zC,zD,zE,zF,zG,zH,zI,zJ,zK,zL,zM,zN,reduceIte,zO,zP, *])))
  all_goals try (refine leafB h (by first | exact gg | exact gg.cons hle _ | exact (gg.cons hle _).cons (Nat.le_succ_of_le hle) _) ?_; (clear h gg hle hfr); (try clear loop); (try clear loop0); (try clear loop1); (try clear s1); (try clear s2); (try clear s3); (try clear s4); (try clear b1); (try clear b2); clear xel xes xek xem xal xas xak xam xsl xss xsk xsm xdl xds xdk xdm hfr0 hwa; rw [repB_eq]; (try generalize (r.acks.any λa=>!countB a) = qq at hA ⊢); first | (simp_all [-List.length_eq_zero_iff]; done) | (simp_all [-List.length_eq_zero_iff]; omega))
  all_goals ((with_reducible refine Lp_at ?_); refine loop0.out _ _ _ _ _ gg b1 (by simp [updN,updE]) (by simp [updN,updE]) (by simp [updN,updE]) (by simp [updN,updE]) (by simp [updN,updE]) (λhr e1 mu1 n1 g1 b1 a2=>?_) (λhr e1 mu1 n1 g1 a1=>?_))
  all_goals (replace hA:=And.intro hA hr; clear hr gg s1 s2 s3 s4 hfr hle)
  all_goals try (simp only [↓E1,E2,zA,zB,zC,zD,zE,zF,zG,zH,zI,zJ,zK,zL,zM,zN,reduceIte,zO,zP, *]; refine leafB h g1 ?_; clear h g1 loop0 loop1 b1 xel xes xek xem xal xas xak xam xsl xss xsk xsm xdl xds xdk xdm hfr0 hwa; rw [repB_eq]; (try generalize (r.acks.any λa=>!countB a) = qq at hA ⊢); simp_all [-List.length_eq_zero_iff]; done)
  all_goals
    have b0:=b1
    unfold repC at b1
    simp only [↓E1,E2,zA,zB,zC,zD,zE,zF,zG,zH,zI,zJ,zK,zL,zM,zN,reduceIte,zO,zP, *]
    refine loop1.out _ _ _ _ _ g1 b0 (by simp [updN,updE, *]) (by simp [updN,updE, *]) (by simp [updN,updE, *]) (by simp [updN,updE, *]) (by simp [updN,updE, *]) (λhr e2 mu2 n2 g2=>?_) (λhr e2 mu2 n2 g2 a1=>?_)
  all_goals (replace hA:=And.intro hA hr; clear hr; simp only [↓E1,E2,zA,zB,zC,zD,zE,zF,zG,zH,zI,zJ,zK,zL,zM,zN,reduceIte,zO,zP, *]; refine leafB h g2 ?_; clear h g1 g2 loop0 loop1 b0 b1 xel xes xek xem xal xas xak xam xsl xss xsk xsm xdl xds xdk xdm hfr0 hwa; rw [repB_eq]; (try generalize (r.acks.any λa=>!countB a) = qq at hA ⊢); first | (simp_all [-List.length_eq_zero_iff]; done) | (simp_all [-List.length_eq_zero_iff]; omega) | (simp_all [-List.length_eq_zero_iff]; exfalso; omega))
end Go.Proofs.Ytnnjlnkoomeadaa.Pv
namespace Go.Proofs.Ytnnjlnkoomeadaa.Pv
open Go.Ev Go.Ev.Rp
set_option maxRecDepth 100000
set_option maxHeartbeats 4000000
set_option linter.unusedSimpArgs false
set_option linter.unusedVariables false
set_option linter.unusedSectionVars false
def numP (id o : Nat) (f : Int) : SV :=
  if f = 0 then .optr id (o + 3) else if f = 1 then .optr id (o + 4) else if f = 2 then .optr id (o + 5) else if f = 3 then .optr id (o + 6) else if f = 4 then .optr id (o + 7) else if f = 5 then .optr id (o + 8) else
  if f = 6 then .optr id (o + 9) else if f = 7 then .optr id (o + 10) else if f = 8 then .optr id (o + 11) else if f = 9 then .optr id (o + 12) else if f = 10 then .optr id (o + 13) else .npt
def limLo (kind f : Int) : Int:=if f = 8 then 0 else if f = 9 then 0 else if f = 2 ∧ kind = 1 then -1 else if (f = 2 ∨ f = 10) ∧ (kind = 2 ∨ kind = 3) then -2147483648 else 0
def limHi (f : Int) : Int:=if f = 8 then 9 else if f = 9 then 4 else 2147483647
def isNode (x : Int) : Bool:=decide (0 ≤ x) && decide (x < 7)
def isClient (x : Int) : Bool:=decide (100 ≤ x) && decide (x < 108)
def whoB (k a b : Int) : Bool:=(if k = 0 ∨ k = 2 then isClient a else isNode a) && (if k = 1 ∨ k = 3 then isClient b else isNode b)
def fieldsL (k : Int) : List Int :=
  if k = 0 then [6,7,12] else if k = 1 then [6,7,8,2] else if k = 2 then [7,9,11,2,10] else if k = 3 then [7,8,2,4] else if k = 4 then [0,2,3,5,6,7,12] else if k = 5 then [0,2] else if k = 6 then [0,2,3] else
  if k = 7 then [0] else if k = 8 then [0,1,3,13] else if k = 9 then [0,3,13] else if k = 10 then [0,2] else if k = 11 then [0,3,13] else if k = 12 then [0,4] else if k = 13 then [0,4] else if k = 14 then [2] else if k = 15 then [2] else [2,14]
theorem kinds (k : Int) (h0 : 0 ≤ k) (h : k < 17) : k = 0 ∨ k = 1 ∨ k = 2 ∨ k = 3 ∨ k = 4 ∨ k = 5 ∨ k = 6 ∨ k = 7 ∨ k = 8 ∨ k = 9 ∨ k = 10 ∨ k = 11 ∨ k = 12 ∨ k = 13 ∨ k = 14 ∨ k = 15 ∨ k = 16:=by omega
def hasF (k : Int) (f : Nat) : Bool:=(fieldsL k).contains (f : Int)
def hasL (l : List Int) : List SV:=[.bool (l.contains 0),.bool (l.contains 1),.bool (l.contains 2),.bool (l.contains 3),.bool (l.contains 4),.bool (l.contains 5),.bool (l.contains 6),.bool (l.contains 7),.bool (l.contains 8),.bool (l.contains 9),.bool (l.contains 10),.bool (l.contains 11),.bool (l.contains 12),.bool (l.contains 13),.bool (l.contains 14)]
theorem lits (i : Nat) (h : i < 15) : i = 0 ∨ i = 1 ∨ i = 2 ∨ i = 3 ∨ i = 4 ∨ i = 5 ∨ i = 6 ∨ i = 7 ∨ i = 8 ∨ i = 9 ∨ i = 10 ∨ i = 11 ∨ i = 12 ∨ i = 13 ∨ i = 14:=by omega
theorem hasL_len (l : List Int) : (hasL l).length = 15:=rfl
theorem hasL_mkd (l : List Int) : mkd (hasL l) = false:=rfl
theorem over_has (l : List Int) (v : Nat) (h : v < 15) : over (hasL l) v [.bool true] = hasL (l ++ [(v : Int)]):=by
  rcases lits v h with rfl | rfl | rfl | rfl | rfl | rfl | rfl | rfl | rfl | rfl | rfl | rfl | rfl | rfl | rfl <;> simp [over,hasL]
theorem fields_lt (k : Int) (hk : 0 ≤ k ∧ k < 17) : ∀ v ∈ fieldsL k,∃ j : Nat,j < 15 ∧ v = (j : Int):=by
  have h : ∀ l : List Int,(l.all λv=>decide (0 ≤ v) && decide (v < 15)) = true → ∀ v ∈ l,∃ j : Nat,j < 15 ∧ v = (j : Int):=λl h v hv=>by
    have:=List.all_eq_true.1 h v hv
    simp at this
    exact ⟨v.toNat,by omega,by omega⟩
  apply h
  rcases kinds k hk.1 hk.2 with rfl | rfl | rfl | rfl | rfl | rfl | rfl | rfl | rfl | rfl | rfl | rfl | rfl | rfl | rfl | rfl | rfl <;> decide
theorem fields_len (k : Int) (hk : 0 ≤ k ∧ k < 17) : (fieldsL k).length ≤ 7:=by
  rcases kinds k hk.1 hk.2 with rfl | rfl | rfl | rfl | rfl | rfl | rfl | rfl | rfl | rfl | rfl | rfl | rfl | rfl | rfl | rfl | rfl <;> decide
theorem mkd_ints : ∀ l : List Int,mkd (l.map I) = false
  | []=>rfl
  | _ :: _=>rfl
def numV (m : Msg) : Nat → Option Int
  | 0=>some m.view
  | 1=>some m.normal
  | 2=>some m.at'
  | 3=>some m.commit
  | 4=>some m.round
  | 5=>some m.client
  | 6=>some m.session
  | 7=>some m.number
  | 8=>some m.code
  | 9=>some m.agg
  | 10=>some m.until'
  | _=>none
def fieldOk (m : Msg) (f : Nat) : Bool:=match numV m f with | none=>true | some x=>(hasF m.kind f || decide (x = 0)) && decide (limLo m.kind f ≤ x) && decide (x ≤ limHi f)
def msgB (m : Msg) : Bool :=
  decide (0 ≤ m.kind) && decide (m.kind < 17) && whoB m.kind m.frm m.to && (List.range 15).all (fieldOk m) && (if hasF m.kind 11 then nameB m.series else decide (m.series.l = 0)) &&
  decide (m.text.l ≤ 65536) && (hasF m.kind 14 || decide (m.text.l = 0)) && batchB m.batch && (hasF m.kind 12 || decide (m.batch.length = 0)) && lgB m.log && (hasF m.kind 13 || decide (m.log.base = 0) && decide (m.log.ents.length = 0))
variable {P : Program} (H : Fs P)
include H
theorem message_number (id o : Nat) (f : Int) : Ctr P n_message_number [.one (.optr id o),.one (I f)] (λ_=>True) (λ_ _ _ v=>v = .one (numP id o f)):=Ctr.of H.mx H.message_number (λ_=>0) λfz mu n k hfr _ h=>by
  rw [i_message_number,dc_at b_message_number.eq_1]
  have gg:=Gr.refl (lo:=n) hfr
  simp only [↓E1,E2,zA,zB,zC,zD,zE,zF,zG,zH,zI,zJ,zK,zL,zM,zN,reduceIte,zO,zP]
  repeat' (first | ((with_reducible refine Br_intro (λhb=>?_) (λhb=>?_)) <;> simp only [↓E1,E2,zA,zB,zC,zD,zE,zF,zG,zH,zI,zJ,zK,zL,zM,zN,reduceIte,zO,zP, *]))
  all_goals exact h _ _ _ gg (by clear h; simp_all [numP])
theorem message_limits (k0 f : Int) : Ctr P n_message_limits [.one (I k0),.one (I f)] (λ_=>True) (λ_ _ _ v=>v = .tp [.one (I (limLo k0 f)),.one (I (limHi f))]):=Ctr.of H.mx H.message_limits (λ_=>0) λfz mu n k hfr _ h=>by
  rw [i_message_limits,dc_at b_message_limits.eq_1]
  have gg:=Gr.refl (lo:=n) hfr
  simp only [↓E1,E2,zA,zB,zC,zD,zE,zF,zG,zH,zI,zJ,zK,zL,zM,zN,reduceIte,zO,zP]
  repeat' (first | ((with_reducible refine Br_intro (λhb=>?_) (λhb=>?_)) <;> simp only [↓E1,E2,zA,zB,zC,zD,zE,zF,zG,zH,zI,zJ,zK,zL,zM,zN,reduceIte,zO,zP, *]))
  all_goals exact h _ _ _ gg (by clear h; simp_all [limLo,limHi])
theorem message_who (id : Nat) (m : Msg) (xb xe : SV) : BoolC P n_message_who [.one (.optr id 0)] (λM=>M id = some (msgC m xb xe)) (whoB m.kind m.frm m.to):=boolC H.mx H.message_who 0 λfz mu n k hfr gg b1 h=>by
  rw [i_message_who,dc_at b_message_who.eq_1]
  unfold msgC at b1
  have hle:=Nat.le_refl n
  simp only [↓E1,E2,zA,zB,zC,zD,zE,zF,zG,zH,zI,zJ,zK,zL,zM,zN,reduceIte,zO,zP, *]
  repeat' (first | ((with_reducible refine Br_intro (λhb=>?_) (λhb=>?_)) <;> simp only [↓E1,E2,zA,zB,zC,zD,zE,zF,zG,zH,zI,zJ,zK,zL,zM,zN,reduceIte,zO,zP, *]) | ((with_reducible refine CPr_f (f:=n_message_Node) ?_); ((first | (refine (message_Node H _).d2 hfr (by first | trivial | assumption) ?_; rintro v mu2 n2 g2 rfl) | (refine (message_Node H _).d3 hfr (λhm=>by first | trivial) ?_; rintro v mu2 n2 g2 b1 rfl) | (refine (message_Node H _).c1 hfr (by first | trivial | assumption) ?_; rintro v mu2 n2 g2 rfl) | (refine (message_Node H _).c2 hfr (λhm=>by first | trivial) ?_; rintro v mu2 n2 g2 b1 rfl) | (refine (message_Node H _).c3 hfr (λhm=>by first | trivial) ?_; rintro v mu2 n2 g2 b1 b2 rfl)); (try replace b1:=g2.old hfr b1); replace gg:=gg.trans (g2.weaken hle); replace hle:=Nat.le_trans hle g2.le; replace hfr:=g2.free; clear g2; simp only [↓E1,E2,zA,zB,zC,zD,zE,zF,zG,zH,zI,zJ,zK,zL,zM,zN,reduceIte,zO,zP, *])) | ((with_reducible refine CPr_f (f:=n_message_Client) ?_); ((first | (refine (message_Client H _).d2 hfr (by first | trivial | assumption) ?_; rintro v mu2 n2 g2 rfl) | (refine (message_Client H _).d3 hfr (λhm=>by first | trivial) ?_; rintro v mu2 n2 g2 b1 rfl) | (refine (message_Client H _).c1 hfr (by first | trivial | assumption) ?_; rintro v mu2 n2 g2 rfl) | (refine (message_Client H _).c2 hfr (λhm=>by first | trivial) ?_; rintro v mu2 n2 g2 b1 rfl) | (refine (message_Client H _).c3 hfr (λhm=>by first | trivial) ?_; rintro v mu2 n2 g2 b1 b2 rfl)); (try replace b1:=g2.old hfr b1); replace gg:=gg.trans (g2.weaken hle); replace hle:=Nat.le_trans hle g2.le; replace hfr:=g2.free; clear g2; simp only [↓E1,E2,zA,zB,zC,zD,zE,zF,zG,zH,zI,zJ,zK,zL,zM,zN,reduceIte,zO,zP, *])))
  all_goals (refine leafB h (by first | exact gg | exact gg.cons hle _ | exact (gg.cons hle _).cons (Nat.le_succ_of_le hle) _) ?_; (try clear loop); (try clear u); clear h; first | (simp_all [whoB,isNode,isClient]; done) | (simp_all [whoB,isNode,isClient]; omega))
theorem message_fields (k0 : Int) (h0 : 0 ≤ k0) (h1 : k0 < 17) : Ctr P n_message_fields [.one (I k0)] (λ_=>True) (λ_ _ M v=>∃ id,v = .tp [.one (.osl id 0 (fieldsL k0).length (fieldsL k0).length 1),.one (.bool true)] ∧ M id = some ((fieldsL k0).map I)):=Ctr.of H.mx H.message_fields (λ_=>0) λfz mu n k hfr _ h=>by
  rw [i_message_fields,dc_at b_message_fields.eq_1]
  have gg:=Gr.refl (lo:=n) hfr
  rcases kinds k0 h0 h1 with rfl | rfl | rfl | rfl | rfl | rfl | rfl | rfl | rfl | rfl | rfl | rfl | rfl | rfl | rfl | rfl | rfl
  all_goals
    simp only [↓E1,E2,zA,zB,zC,zD,zE,zF,zG,zH,zI,zJ,zK,zL,zM,zN,reduceIte,zO,zP]
    refine h _ _ _ ?_ ⟨_,rfl,?_⟩
    · repeat (first | exact Gr.refl hfr | refine Gr.cons ?_ (by omega) _)
    · repeat (first | (rw [with_c,if_pos rfl]) | (rw [with_c,if_neg (by omega)]))
      rfl
theorem message_fields_bad (k0 : Int) (h0 : ¬ (0 ≤ k0 ∧ k0 < 17)) : Ctr P n_message_fields [.one (I k0)] (λ_=>True) (λ_ _ M v=>v = .tp [.one .nsl,.one (.bool false)]):=Ctr.of H.mx H.message_fields (λ_=>0) λfz mu n k hfr _ h=>by
  rw [i_message_fields,dc_at b_message_fields.eq_1]
  have gg:=Gr.refl (lo:=n) hfr
  simp only [↓E1,E2,zA,zB,zC,zD,zE,zF,zG,zH,zI,zJ,zK,zL,zM,zN,reduceIte,zO,zP]
  repeat' (first | ((with_reducible refine Br_intro (λhb=>?_) (λhb=>?_)) <;> simp only [↓E1,E2,zA,zB,zC,zD,zE,zF,zG,zH,zI,zJ,zK,zL,zM,zN,reduceIte,zO,zP, *]))
  all_goals first
    | (refine h _ _ _ ?_ rfl; (repeat (first | exact Gr.refl hfr | refine Gr.cons ?_ (by omega) _)); done)
    | (exfalso; clear h; simp_all; done)
    | (exfalso; clear h; simp_all; omega)
theorem message_May (m : Msg) (xb xe : SV) : BoolC P n_message_May [.ag (msgC m xb xe)] (λM=>PtsR M xb m.batch ∧ EntsR M xe m.log.ents) (msgB m):=boolC H.mx H.message_May 16 λfz mu n k hfr gg s h=>by
  obtain ⟨s1,s2⟩:=s
  obtain ⟨xl,xs,xk,xm⟩:=s1.len
  obtain ⟨yl,ys,yk,ym⟩:=s2.len
  rw [i_message_May,dc_at b_message_May.eq_1]
  have hle:=Nat.le_refl n
  have hmc : msgC m xb xe = msgC m xb xe:=rfl
  conv at hmc=>rhs; unfold msgC
  have z1:=s1
  have z2:=s2
  have hfr0:=hfr
  by_cases hk : 0 ≤ m.kind ∧ m.kind < 17
  · have loop0 : ∀ (e : Env) mu1 n1 (K : LK) w (fid hid : Nat), n ≤ hid → ¬ hid = fid → ¬ hid = n → Gr n fz mu mu1 n n1 → with' mu1 fz n = some (msgC m xb xe) → with' mu1 fz fid = some ((fieldsL m.kind).map I) → Ev.look mu1 hid = some (hasL []) →
        e 0 1 = .one (.optr n 0) → e 0 5 = .one (.optr hid 0) → e 1 8 = .one (.osl fid 0 (fieldsL m.kind).length (fieldsL m.kind).length 1) → e 1 9 = .one (.int .i64 (fieldsL m.kind).length) → e 1 10 = .one (.int .i64 0) →
        (∀ e' mu' n',Gr n fz mu mu' n n' → with' mu' fz n = some (msgC m xb xe) → with' mu' fz hid = some (hasL (fieldsL m.kind)) → e' 0 1 = .one (.optr n 0) → e' 0 5 = .one (.optr hid 0) → K (.exit 0) (tmE 141 e') mu' n') →
        Lp (dcode pOrc False (CP P) fz 16 l_message_May_0) 16 (tmE 141 e) mu1 n1 K w:=by
      intro e mu1 n1 K w fid hid hh1 hh2 hh3 g1 a1 a2 a3 a4 a5 a6 a7 a8 hd
      have hlen:=fields_len m.kind hk
      refine loopI (x:=0) (L:=(fieldsL m.kind).length) (p:=λ_=>true) (λi e mu' n'=>Gr n fz mu mu' n n' ∧ with' mu' fz n = some (msgC m xb xe) ∧ with' mu' fz fid = some ((fieldsL m.kind).map I) ∧ Ev.look mu' hid = some (hasL ((fieldsL m.kind).take i)) ∧
        e 0 1 = .one (.optr n 0) ∧ e 0 5 = .one (.optr hid 0) ∧ e 1 8 = .one (.osl fid 0 (fieldsL m.kind).length (fieldsL m.kind).length 1) ∧ e 1 9 = .one (.int .i64 (fieldsL m.kind).length) ∧ e 1 10 = .one (.int .i64 i)) (λ_ _ _=>False) ?_ ?_ e mu1 n1 K w (by omega) ⟨g1,a1,a2,a3,a4,a5,a6,a7,a8⟩ ?_ (λ⟨_,_,_,h⟩=>by cases h)
      · rintro i e mu n K hi ⟨g1,a1,a2,a3,a4,a5,a6,a7,a8⟩ hy _
        obtain ⟨j,hj,hv⟩:=fields_lt m.kind hk _ (List.getElem_mem hi)
        have hw:=wrap_succ hi (by omega)
        have hB : List.take 1 (List.drop i ((fieldsL m.kind).map I)) = [I j]:=by rw [← List.map_drop,← List.map_take,List.drop_eq_getElem_cons hi]; simp [hv]
        have hmk:=mkd_ints (fieldsL m.kind)
        have hi1 : i + 1 ≤ (fieldsL m.kind).length:=hi
        have hj1 : j + 1 ≤ 15:=hj
        have ho:=over_has ((fieldsL m.kind).take i) j hj
        have ht : (fieldsL m.kind).take i ++ [(j : Int)] = (fieldsL m.kind).take (i + 1):=by rw [List.take_succ_eq_append_getElem hi,hv]
        have hid1:=Gr.put (c:=hasL ((fieldsL m.kind).take (i + 1))) g1 hh1 a3
        have hnf : ¬ hid = fid:=hh2
        rw [dc_at l_message_May_0.eq_1]
        simp only [↓E1,E2,zA,zB,zC,zD,zE,zF,zG,zH,zI,zJ,zK,zL,zM,zN,reduceIte,zO,zP, *,Nat.mul_one,List.length_map,hasL_len,hasL_mkd]
        refine hy rfl _ _ _ ⟨hid1,?_,?_,?_,?_,?_,?_,?_,?_⟩
        · rw [with_putS a3,if_neg hh3]; exact a1
        · rw [with_putS a3,if_neg hh2]; exact a2
        · rw [look_putS,if_pos rfl,a3]; rfl
        all_goals simp [updN,updE, *]
      · rintro e mu n K hI hd
        obtain ⟨g1,a1,a2,a3,a4,a5,a6,a7,a8⟩:=id hI
        rw [dc_at l_message_May_0.eq_1]
        have hlt : ((fieldsL m.kind).length < (fieldsL m.kind).length) = False:=by simp
        simp only [↓E1,E2,zA,zB,zC,zD,zE,zF,zG,zH,zI,zJ,zK,zL,zM,zN,reduceIte,zO,zP, *]
        all_goals refine hd _ _ _ ⟨g1,a1,a2,a3,by simp [updN,updE, *],by simp [updN,updE, *],by simp [updN,updE, *],by simp [updN,updE, *],by simp [updN,updE, *]⟩
      · rintro _ e' mu' n' ⟨g1,a1,a2,a3,a4,a5,a6,a7,a8⟩
        refine hd e' mu' n' g1 a1 ?_ a4 a5
        rw [List.take_length] at a3; exact look_with a3
    have loop1 : ∀ (e : Env) mu1 n1 (K : LK) w (hid : Nat), ¬ hid = n → Gr n fz mu mu1 n n1 → with' mu1 fz n = some (msgC m xb xe) → with' mu1 fz hid = some (hasL (fieldsL m.kind)) →
        e 0 1 = .one (.optr n 0) → e 0 5 = .one (.optr hid 0) → e 2 1 = .one (.int .i64 0) →
        ((List.range 15).all (fieldOk m) = true → ∀ e' mu' n',Gr n fz mu mu' n n' → with' mu' fz n = some (msgC m xb xe) → with' mu' fz hid = some (hasL (fieldsL m.kind)) → e' 0 1 = .one (.optr n 0) → e' 0 5 = .one (.optr hid 0) → K (.exit 2) (tmE 141 e') mu' n') →
        ((List.range 15).all (fieldOk m) = false → ∀ e' mu' n',Gr n fz mu mu' n n' → e' 0 2 = .one (.bool false) → K .ret (tmE 141 e') mu' n') →
        Lp (dcode pOrc False (CP P) fz 16 l_message_May_1) 16 (tmE 141 e) mu1 n1 K w:=by
      intro e mu1 n1 K w hid hh3 g1 a1 a2 a3 a4 a5 hd hr
      refine loopI (x:=2) (L:=15) (p:=fieldOk m) (λi e mu' n'=>Gr n fz mu mu' n n' ∧ with' mu' fz n = some (msgC m xb xe) ∧ with' mu' fz hid = some (hasL (fieldsL m.kind)) ∧
        e 0 1 = .one (.optr n 0) ∧ e 0 5 = .one (.optr hid 0) ∧ e 2 1 = .one (.int .i64 i)) (λe mu' n'=>Gr n fz mu mu' n n' ∧ e 0 2 = .one (.bool false)) ?_ ?_ e mu1 n1 K w (by omega) ⟨g1,a1,a2,a3,a4,a5⟩ (λha e' mu' n' hI=>hd (all_range ha) e' mu' n' hI.1 hI.2.1 hI.2.2.1 hI.2.2.2.1 hI.2.2.2.2.1) (λhx e' mu' n' hR=>hr (not_all_range hx) e' mu' n' hR.1 hR.2)
      · rintro i e mu1 n1 K hi ⟨g1,b1,b2,a3,a4,a5⟩ hy hn
        have hfr0:=hfr
        have hfr:=g1.free
        have gg:=Gr.refl (lo:=n1) hfr
        have hle:=Nat.le_refl n1
        clear hd hr h
        unfold msgC at b1
        unfold hasL at b2
        rw [dc_at l_message_May_1.eq_1]
        rcases lits i hi with rfl | rfl | rfl | rfl | rfl | rfl | rfl | rfl | rfl | rfl | rfl | rfl | rfl | rfl | rfl
        all_goals simp only [↓E1,E2,zA,zB,zC,zD,zE,zF,zG,zH,zI,zJ,zK,zL,zM,zN,reduceIte,zO,zP, *]
        repeat' (first | ((with_reducible refine Br_intro (λhb=>?_) (λhb=>?_)) <;> simp only [↓E1,E2,zA,zB,zC,zD,zE,zF,zG,zH,zI,zJ,zK,zL,zM,zN,reduceIte,zO,zP, *,numP]) | ((with_reducible refine CPr_f (f:=n_message_number) ?_); ((first | (refine (message_number H _ _ _).d2 hfr (by first | trivial | assumption) ?_; rintro v mu2 n2 g2 rfl) | (refine (message_number H _ _ _).d3 hfr (λhm=>by first | trivial) ?_; rintro v mu2 n2 g2 b1 rfl) | (refine (message_number H _ _ _).c1 hfr (by first | trivial | assumption) ?_; rintro v mu2 n2 g2 rfl) | (refine (message_number H _ _ _).c2 hfr (λhm=>by first | trivial) ?_; rintro v mu2 n2 g2 b1 rfl) | (refine (message_number H _ _ _).c3 hfr (λhm=>by first | trivial) ?_; rintro v mu2 n2 g2 b1 b2 rfl)); (try replace b1:=g2.old hfr b1); (try replace b2:=g2.old hfr b2); replace gg:=gg.trans (g2.weaken hle); replace hle:=Nat.le_trans hle g2.le; replace hfr:=g2.free; clear g2; simp only [↓E1,E2,zA,zB,zC,zD,zE,zF,zG,zH,zI,zJ,zK,zL,zM,zN,reduceIte,zO,zP, *,numP])) | ((with_reducible refine CPr_f (f:=n_message_limits) ?_); ((first | (refine (message_limits H _ _).d2 hfr (by first | trivial | assumption) ?_; rintro v mu2 n2 g2 rfl) | (refine (message_limits H _ _).d3 hfr (λhm=>by first | trivial) ?_; rintro v mu2 n2 g2 b1 rfl) | (refine (message_limits H _ _).c1 hfr (by first | trivial | assumption) ?_; rintro v mu2 n2 g2 rfl) | (refine (message_limits H _ _).c2 hfr (λhm=>by first | trivial) ?_; rintro v mu2 n2 g2 b1 rfl) | (refine (message_limits H _ _).c3 hfr (λhm=>by first | trivial) ?_; rintro v mu2 n2 g2 b1 b2 rfl)); (try replace b1:=g2.old hfr b1); (try replace b2:=g2.old hfr b2); replace gg:=gg.trans (g2.weaken hle); replace hle:=Nat.le_trans hle g2.le; replace hfr:=g2.free; clear g2; simp only [↓E1,E2,zA,zB,zC,zD,zE,zF,zG,zH,zI,zJ,zK,zL,zM,zN,reduceIte,zO,zP, *,numP])))
        all_goals first
          | (refine hy (by clear hy hn loop0 b1 b2; first | (simp_all [fieldOk,numV,hasF]; done) | (simp_all [fieldOk,numV,hasF]; omega)) _ _ _ ⟨g1.trans (gg.weaken g1.le),b1,b2,?_,?_,?_⟩ <;> simp [updN,updE, *]; done)
          | (refine hn (by clear hy hn loop0 b1 b2; first | (simp_all [fieldOk,numV,hasF]; done) | (simp_all [fieldOk,numV,hasF]; omega)) _ _ _ ⟨g1.trans (gg.weaken g1.le),?_⟩; simp [updN,updE, *]; done)
      · rintro e mu n K hI hd
        obtain ⟨g1,a1,a2,a3,a4,a5⟩:=id hI
        rw [dc_at l_message_May_1.eq_1]
        have hlt : ((15 : Int) < 15) = False:=by simp
        simp only [↓E1,E2,zA,zB,zC,zD,zE,zF,zG,zH,zI,zJ,zK,zL,zM,zN,reduceIte,zO,zP, *]
        all_goals refine hd _ _ _ ⟨g1,a1,a2,by simp [updN,updE, *],by simp [updN,updE, *],by simp [updN,updE, *]⟩
    have ho:=over_has
    simp only [↓E1,E2,zA,zB,zC,zD,zE,zF,zG,zH,zI,zJ,zK,zL,zM,zN,reduceIte,zO,zP, *]
    refine (message_fields H m.kind hk.1 hk.2).c2 hfr (λ_=>trivial) ?_
    rintro v mu2 n2 g2 b1 ⟨fid,rfl,b3⟩
    (try replace b1:=g2.old hfr b1); (try replace b3:=g2.old hfr b3); (try replace s1:=PtsR.mono (λ_ _ hh=>g2.old hfr hh) s1); (try replace s2:=EntsR.mono (λ_ _ hh=>g2.old hfr hh) s2); replace gg:=gg.trans (g2.weaken hle); replace hle:=Nat.le_trans hle g2.le; replace hfr:=g2.free; clear g2
    simp only [↓E1,E2,zA,zB,zC,zD,zE,zF,zG,zH,zI,zJ,zK,zL,zM,zN,reduceIte,zO,zP, *]
    repeat' (first | ((with_reducible refine Br_intro (λhb=>?_) (λhb=>?_)) <;> simp only [↓E1,E2,zA,zB,zC,zD,zE,zF,zG,zH,zI,zJ,zK,zL,zM,zN,reduceIte,zO,zP, *]) | ((with_reducible refine CPr_f (f:=n_message_who) ?_); ((first | (refine (message_who H n m xb xe).d2 hfr (by first | trivial | exact s1 | exact s2 | assumption) ?_; rintro v mu2 n2 g2 rfl) | (refine (message_who H n m xb xe).d3 hfr (λhm=>by first | trivial | exact PtsR.mono hm s1 | exact EntsR.mono hm s2) ?_; rintro v mu2 n2 g2 b1 rfl) | (refine (message_who H n m xb xe).c1 hfr (by first | trivial | exact s1 | exact s2 | assumption) ?_; rintro v mu2 n2 g2 rfl) | (refine (message_who H n m xb xe).c2 hfr (λhm=>by first | trivial | exact PtsR.mono hm s1 | exact EntsR.mono hm s2) ?_; rintro v mu2 n2 g2 b1 rfl) | (refine (message_who H n m xb xe).c3 hfr (λhm=>by first | trivial | exact PtsR.mono hm s1 | exact EntsR.mono hm s2) ?_; rintro v mu2 n2 g2 b1 b2 rfl)); (try replace b1:=g2.old hfr b1); (try replace b3:=g2.old hfr b3); (try replace s1:=PtsR.mono (λ_ _ hh=>g2.old hfr hh) s1); (try replace s2:=EntsR.mono (λ_ _ hh=>g2.old hfr hh) s2); replace gg:=gg.trans (g2.weaken hle); replace hle:=Nat.le_trans hle g2.le; replace hfr:=g2.free; clear g2; simp only [↓E1,E2,zA,zB,zC,zD,zE,zF,zG,zH,zI,zJ,zK,zL,zM,zN,reduceIte,zO,zP, *])))
    all_goals try (refine leafB h (by exact gg) (by clear loop0 loop1 h; simp_all [msgB]); done)
    have hf1:=hfr.lt b3
    have hf2:=hfr.lt b1
    have hbx : ∀ id c,with' mu2 fz id = some c → with' ((n2,hasL []) :: mu2) fz id = some c:=λid c hh=>by rw [with_c,if_neg (by have:=hfr.lt hh; omega)]; exact hh
    refine loop0 _ _ _ _ _ fid n2 hle (by omega) (by omega) (gg.cons hle _) (hbx _ _ b1) (hbx _ _ b3) own_at (by simp [updN,updE]) (by simp [updN,updE]) (by simp [updN,updE]) (by simp [updN,updE]) (by simp [updN,updE]) ?_
    clear b1 b3 s1 s2
    intro e3 mu3 n3 g3 b1 b2 a1 a2
    simp only [↓E1,E2,zA,zB,zC,zD,zE,zF,zG,zH,zI,zJ,zK,zL,zM,zN,reduceIte,zO,zP, *]
    refine loop1 _ _ _ _ _ n2 (by omega) g3 b1 b2 (by simp [updN,updE, *]) (by simp [updN,updE, *]) (by simp [updN,updE, *]) ?_ ?_
    · intro hall e4 mu4 n4 g4 b1 b2 a1 a2
      unfold msgC at b1
      unfold hasL at b2
      have s1:=PtsR.mono (λ_ _ hh=>g4.old hfr0 hh) z1
      have s2:=EntsR.mono (λ_ _ hh=>g4.old hfr0 hh) z2
      have hfr:=g4.free
      have gg:=g4
      have hle:=g4.le
      clear loop0 loop1 g3
      simp only [↓E1,E2,zA,zB,zC,zD,zE,zF,zG,zH,zI,zJ,zK,zL,zM,zN,reduceIte,zO,zP, *,tx_empty]
      repeat' (first | ((with_reducible refine Br_intro (λhb=>?_) (λhb=>?_)) <;> simp only [↓E1,E2,zA,zB,zC,zD,zE,zF,zG,zH,zI,zJ,zK,zL,zM,zN,reduceIte,zO,zP, *,tx_empty]) | ((with_reducible refine CPr_f (f:=n_point_Name) ?_); ((first | (refine (point_Name H m.series).d2 hfr (by first | trivial | exact s1 | exact s2 | assumption) ?_; rintro v mu2 n2 g2 rfl) | (refine (point_Name H m.series).d3 hfr (λhm=>by first | trivial | exact PtsR.mono hm s1 | exact EntsR.mono hm s2) ?_; rintro v mu2 n2 g2 b1 rfl) | (refine (point_Name H m.series).c1 hfr (by first | trivial | exact s1 | exact s2 | assumption) ?_; rintro v mu2 n2 g2 rfl) | (refine (point_Name H m.series).c2 hfr (λhm=>by first | trivial | exact PtsR.mono hm s1 | exact EntsR.mono hm s2) ?_; rintro v mu2 n2 g2 b1 rfl) | (refine (point_Name H m.series).c3 hfr (λhm=>by first | trivial | exact PtsR.mono hm s1 | exact EntsR.mono hm s2) ?_; rintro v mu2 n2 g2 b1 b2 rfl)); (try replace b1:=g2.old hfr b1); (try replace b2:=g2.old hfr b2); (try replace s1:=PtsR.mono (λ_ _ hh=>g2.old hfr hh) s1); (try replace s2:=EntsR.mono (λ_ _ hh=>g2.old hfr hh) s2); replace gg:=gg.trans (g2.weaken hle); replace hle:=Nat.le_trans hle g2.le; replace hfr:=g2.free; clear g2; simp only [↓E1,E2,zA,zB,zC,zD,zE,zF,zG,zH,zI,zJ,zK,zL,zM,zN,reduceIte,zO,zP, *,tx_empty])) | ((with_reducible refine CPr_f (f:=n_point_Batch) ?_); ((first | (refine (point_Batch H xb m.batch).d2 hfr (by first | trivial | exact s1 | exact s2 | assumption) ?_; rintro v mu2 n2 g2 rfl) | (refine (point_Batch H xb m.batch).d3 hfr (λhm=>by first | trivial | exact PtsR.mono hm s1 | exact EntsR.mono hm s2) ?_; rintro v mu2 n2 g2 b1 rfl) | (refine (point_Batch H xb m.batch).c1 hfr (by first | trivial | exact s1 | exact s2 | assumption) ?_; rintro v mu2 n2 g2 rfl) | (refine (point_Batch H xb m.batch).c2 hfr (λhm=>by first | trivial | exact PtsR.mono hm s1 | exact EntsR.mono hm s2) ?_; rintro v mu2 n2 g2 b1 rfl) | (refine (point_Batch H xb m.batch).c3 hfr (λhm=>by first | trivial | exact PtsR.mono hm s1 | exact EntsR.mono hm s2) ?_; rintro v mu2 n2 g2 b1 b2 rfl)); (try replace b1:=g2.old hfr b1); (try replace b2:=g2.old hfr b2); (try replace s1:=PtsR.mono (λ_ _ hh=>g2.old hfr hh) s1); (try replace s2:=EntsR.mono (λ_ _ hh=>g2.old hfr hh) s2); replace gg:=gg.trans (g2.weaken hle); replace hle:=Nat.le_trans hle g2.le; replace hfr:=g2.free; clear g2; simp only [↓E1,E2,zA,zB,zC,zD,zE,zF,zG,zH,zI,zJ,zK,zL,zM,zN,reduceIte,zO,zP, *,tx_empty])) | ((with_reducible refine CPr_f (f:=n_message_MayLog) ?_); ((first | (refine (message_MayLog H m.log xe).d2 hfr (by first | trivial | exact s1 | exact s2 | assumption) ?_; rintro v mu2 n2 g2 rfl) | (refine (message_MayLog H m.log xe).d3 hfr (λhm=>by first | trivial | exact PtsR.mono hm s1 | exact EntsR.mono hm s2) ?_; rintro v mu2 n2 g2 b1 rfl) | (refine (message_MayLog H m.log xe).c1 hfr (by first | trivial | exact s1 | exact s2 | assumption) ?_; rintro v mu2 n2 g2 rfl) | (refine (message_MayLog H m.log xe).c2 hfr (λhm=>by first | trivial | exact PtsR.mono hm s1 | exact EntsR.mono hm s2) ?_; rintro v mu2 n2 g2 b1 rfl) | (refine (message_MayLog H m.log xe).c3 hfr (λhm=>by first | trivial | exact PtsR.mono hm s1 | exact EntsR.mono hm s2) ?_; rintro v mu2 n2 g2 b1 b2 rfl)); (try replace b1:=g2.old hfr b1); (try replace b2:=g2.old hfr b2); (try replace s1:=PtsR.mono (λ_ _ hh=>g2.old hfr hh) s1); (try replace s2:=EntsR.mono (λ_ _ hh=>g2.old hfr hh) s2); replace gg:=gg.trans (g2.weaken hle); replace hle:=Nat.le_trans hle g2.le; replace hfr:=g2.free; clear g2; simp only [↓E1,E2,zA,zB,zC,zD,zE,zF,zG,zH,zI,zJ,zK,zL,zM,zN,reduceIte,zO,zP, *,tx_empty])))
      all_goals (refine leafB h gg ?_; clear h b1 b2 z1 z2 ho hbx hmc xl yl; unfold msgB hasF; rw [hall]; first | (simp_all [-List.length_eq_zero_iff]; done) | (simp_all [-List.length_eq_zero_iff]; omega))
    · intro hall e4 mu4 n4 g4 a1
      simp only [↓E1,E2,zA,zB,zC,zD,zE,zF,zG,zH,zI,zJ,zK,zL,zM,zN,reduceIte,zO,zP, *]
      exact leafB h g4 (by unfold msgB; rw [hall]; simp)
  · have hf:=message_fields_bad H m.kind hk
    unfold msgC
    simp only [↓E1,E2,zA,zB,zC,zD,zE,zF,zG,zH,zI,zJ,zK,zL,zM,zN,reduceIte,zO,zP, *]
    refine hf.c2 hfr (λ_=>trivial) ?_
    rintro v mu2 n2 g2 b1 rfl
    simp only [↓E1,E2,zA,zB,zC,zD,zE,zF,zG,zH,zI,zJ,zK,zL,zM,zN,reduceIte,zO,zP, *]
    exact leafB h g2 (by unfold msgB; simp; omega)
end Go.Proofs.Ytnnjlnkoomeadaa.Pv
namespace Go.Proofs.Ytnnjlnkoomeadaa.Pv
open Go.Ev Go.Ev.Rp
set_option maxRecDepth 100000
set_option maxHeartbeats 4000000
set_option linter.unusedSimpArgs false
set_option linter.unusedVariables false
set_option linter.unusedSectionVars false
def prim (v k : Int) : Int:=if k < 1 ∨ v < 0 then 0 else v.tmod k
def leadsB (r : Rep) : Bool:=decide (prim r.view r.nodes = r.me)
def leadB (r : Rep) : Bool:=leadsB r && decide (r.status = 0)
def stepC (r : Rep) (xe xa xs xd xo : SV) (vd : Bool) : List SV:=repC r xe xa xs xd ++ [xo,.bool vd]
variable {P : Program} (H : Fs P)
include H
theorem ref16_Nodes (x : Int) : BoolC P n_ref16_Nodes [.one (I x)] (λ_=>True) (nodesB x):=boolC H.mx H.ref16_Nodes 0 λfz mu n k hfr gg _ h=>by
  rw [i_ref16_Nodes,dc_at b_ref16_Nodes.eq_1]
  have hA : True:=trivial
  have hle:=Nat.le_refl n
  simp only [↓E1,E2,zA,zB,zC,zD,zE,zF,zG,zH,zI,zJ,zK,zL,zM,zN,reduceIte,zO,zP]
  repeat' (first | ((with_reducible refine Br_intro (λhb=>?_) (λhb=>?_)) <;> (replace hA:=And.intro hA hb; clear hb; simp only [↓E1,E2,zA,zB,zC,zD,zE,zF,zG,zH,zI,zJ,zK,zL,zM,zN,reduceIte,zO,zP, *])))
  all_goals try (refine leafB h (by first | exact gg | exact gg.cons hle _ | exact (gg.cons hle _).cons (Nat.le_succ_of_le hle) _) ?_; (clear h gg hle hfr); (try clear loop); (try clear loop0); (try clear loop1); (try clear s1); (try clear s2); (try clear s3); (try clear s4); (try clear b1); (try clear b2); skip; first | (simp_all [nodesB]; done) | (simp_all [nodesB]; omega))
theorem replica_Primary (v k0 : Int) : Ctr P n_replica_Primary [.one (I v),.one (I k0)] (λ_=>True) (λ_ _ _ w=>w = .one (I (prim v k0))):=Ctr.of H.mx H.replica_Primary (λ_=>0) λfz mu n k hfr _ h=>by
  rw [i_replica_Primary,dc_at b_replica_Primary.eq_1]
  have gg:=Gr.refl (lo:=n) hfr
  have hA : True:=trivial
  have hle:=Nat.le_refl n
  simp only [↓E1,E2,zA,zB,zC,zD,zE,zF,zG,zH,zI,zJ,zK,zL,zM,zN,reduceIte,zO,zP]
  repeat' (first | ((with_reducible refine Br_intro (λhb=>?_) (λhb=>?_)) <;> (replace hA:=And.intro hA hb; clear hb; simp only [↓E1,E2,zA,zB,zC,zD,zE,zF,zG,zH,zI,zJ,zK,zL,zM,zN,reduceIte,zO,zP, *])))
  all_goals try (refine h _ _ _ gg ?_; clear h; simp_all [prim]; done)
  have hz : ¬ k0 = 0:=by simp at hA; omega
  simp only [↓E1,E2,zA,zB,zC,zD,zE,zF,zG,zH,zI,zJ,zK,zL,zM,zN,reduceIte,zO,zP,hz]
  refine h _ _ _ gg ?_
  simp at hA
  simp [prim]; omega
theorem replica_step_leads (id : Nat) (r : Rep) (xe xa xs xd xo : SV) (vd : Bool) : BoolC P n_replica_step_leads [.one (.optr id 0)] (λM=>M id = some (stepC r xe xa xs xd xo vd)) (leadsB r):=boolC H.mx H.replica_step_leads 0 λfz mu n k hfr gg b1 h=>by
  rw [i_replica_step_leads,dc_at b_replica_step_leads.eq_1]
  unfold stepC repC at b1
  have b9:=b1
  have hA : True:=trivial
  have hle:=Nat.le_refl n
  simp only [↓E1,E2,zA,zB,zC,zD,zE,zF,zG,zH,zI,zJ,zK,zL,zM,zN,reduceIte,zO,zP, *]
  repeat' (first | ((with_reducible refine Br_intro (λhb=>?_) (λhb=>?_)) <;> (replace hA:=And.intro hA hb; clear hb; simp only [↓E1,E2,zA,zB,zC,zD,zE,zF,zG,zH,zI,zJ,zK,zL,zM,zN,reduceIte,zO,zP, *])) | ((with_reducible refine CPr_f (f:=n_replica_Primary) ?_); ((first | (refine (replica_Primary H _ _).d2 hfr (by first | trivial | assumption) ?_; rintro v mu2 n2 g2 rfl) | (refine (replica_Primary H _ _).d3 hfr (λhm=>by first | trivial) ?_; rintro v mu2 n2 g2 b1 rfl) | (refine (replica_Primary H _ _).c1 hfr (by first | trivial | assumption) ?_; rintro v mu2 n2 g2 rfl) | (refine (replica_Primary H _ _).c2 hfr (λhm=>by first | trivial) ?_; rintro v mu2 n2 g2 b1 rfl) | (refine (replica_Primary H _ _).c3 hfr (λhm=>by first | trivial) ?_; rintro v mu2 n2 g2 b1 b2 rfl)); (try replace b1:=g2.old hfr b1); replace gg:=gg.trans (g2.weaken hle); replace hle:=Nat.le_trans hle g2.le; replace hfr:=g2.free; clear g2; simp only [↓E1,E2,zA,zB,zC,zD,zE,zF,zG,zH,zI,zJ,zK,zL,zM,zN,reduceIte,zO,zP, *])))
  all_goals try (refine leafB h (by first | exact gg | exact gg.cons hle _ | exact (gg.cons hle _).cons (Nat.le_succ_of_le hle) _) ?_; (clear h gg hle hfr); (try clear loop); (try clear loop0); (try clear loop1); (try clear s1); (try clear s2); (try clear s3); (try clear s4); (try clear b1); (try clear b2); clear b9; first | (simp_all [leadsB]; done) | (simp_all [leadsB]; omega))
theorem replica_step_normal (id : Nat) (r : Rep) (xe xa xs xd xo : SV) (vd : Bool) : BoolC P n_replica_step_normal [.one (.optr id 0)] (λM=>M id = some (stepC r xe xa xs xd xo vd)) (leadB r):=boolC H.mx H.replica_step_normal 0 λfz mu n k hfr gg b1 h=>by
  rw [i_replica_step_normal,dc_at b_replica_step_normal.eq_1]
  have b0:=b1
  unfold stepC repC at b1
  have hA : True:=trivial
  have hle:=Nat.le_refl n
  simp only [↓E1,E2,zA,zB,zC,zD,zE,zF,zG,zH,zI,zJ,zK,zL,zM,zN,reduceIte,zO,zP, *]
  repeat' (first | ((with_reducible refine Br_intro (λhb=>?_) (λhb=>?_)) <;> (replace hA:=And.intro hA hb; clear hb; simp only [↓E1,E2,zA,zB,zC,zD,zE,zF,zG,zH,zI,zJ,zK,zL,zM,zN,reduceIte,zO,zP, *])) | ((with_reducible refine CPr_f (f:=n_replica_step_leads) ?_); ((first | (refine (replica_step_leads H id r xe xa xs xd xo vd).d2 hfr (by first | trivial | assumption) ?_; rintro v mu2 n2 g2 rfl) | (refine (replica_step_leads H id r xe xa xs xd xo vd).d3 hfr (λhm=>by first | trivial) ?_; rintro v mu2 n2 g2 b1 rfl) | (refine (replica_step_leads H id r xe xa xs xd xo vd).c1 hfr (by first | trivial | assumption) ?_; rintro v mu2 n2 g2 rfl) | (refine (replica_step_leads H id r xe xa xs xd xo vd).c2 hfr (λhm=>by first | trivial) ?_; rintro v mu2 n2 g2 b1 rfl) | (refine (replica_step_leads H id r xe xa xs xd xo vd).c3 hfr (λhm=>by first | trivial) ?_; rintro v mu2 n2 g2 b1 b2 rfl)); (try replace b1:=g2.old hfr b1); (try replace b0:=g2.old hfr b0); replace gg:=gg.trans (g2.weaken hle); replace hle:=Nat.le_trans hle g2.le; replace hfr:=g2.free; clear g2; simp only [↓E1,E2,zA,zB,zC,zD,zE,zF,zG,zH,zI,zJ,zK,zL,zM,zN,reduceIte,zO,zP, *])))
  all_goals try (refine leafB h (by first | exact gg | exact gg.cons hle _ | exact (gg.cons hle _).cons (Nat.le_succ_of_le hle) _) ?_; (clear h gg hle hfr); (try clear loop); (try clear loop0); (try clear loop1); (try clear s1); (try clear s2); (try clear s3); (try clear s4); (try clear b1); (try clear b2); clear b0; first | (simp_all [leadB]; done) | (simp_all [leadB]; omega))
theorem replica_Leads (r : Rep) (xe xa xs xd : SV) : BoolC P n_replica_Leads [.ag (repC r xe xa xs xd)] (λM=>EntsR M xe r.log.ents ∧ IntsR M xa r.acks ∧ IntsR M xs r.starts ∧ DvsR M xd r.dos) (leadB r):=boolC H.mx H.replica_Leads 0 λfz mu n k hfr gg s h=>by
  obtain ⟨s1,s2,s3,s4⟩:=s
  obtain ⟨-,-,xek,xem⟩:=s1.len
  obtain ⟨-,-,xak,xam⟩:=s2.len
  obtain ⟨-,-,xsk,xsm⟩:=s3.len
  obtain ⟨-,-,xdk,xdm⟩:=s4.len
  rw [i_replica_Leads,dc_at b_replica_Leads.eq_1]
  unfold repC
  have hA : True:=trivial
  have hle:=Nat.le_refl n
  simp only [↓E1,E2,zA,zB,zC,zD,zE,zF,zG,zH,zI,zJ,zK,zL,zM,zN,reduceIte,zO,zP, *]
  refine (replica_step_normal H (n + 1) r xe xa xs xd .nsl false).c3 hfr (λhm=>by rw [with_c,if_pos rfl]; rfl) ?_
  rintro v mu2 n2 g2 b1 b2 rfl
  simp only [↓E1,E2,zA,zB,zC,zD,zE,zF,zG,zH,zI,zJ,zK,zL,zM,zN,reduceIte,zO,zP, *]
  all_goals exact leafB h g2 rfl
end Go.Proofs.Ytnnjlnkoomeadaa.Pv
namespace Go.Proofs.Ytnnjlnkoomeadaa.Pv
open Go.Ev Go.Ev.Rp
set_option maxRecDepth 100000
set_option maxHeartbeats 4000000
set_option linter.unusedSimpArgs false
set_option linter.unusedVariables false
set_option linter.unusedSectionVars false
variable {P : Program} (H : Fs P)
include H
end Go.Proofs.Ytnnjlnkoomeadaa.Pv
namespace Go.Proofs.Ytnnjlnkoomeadaa.Pv
open Go.Ev Go.Ev.Rp
set_option maxRecDepth 100000
set_option maxHeartbeats 4000000
set_option linter.unusedSimpArgs false
set_option linter.unusedVariables false
set_option linter.unusedSectionVars false
def RepS (M : Fz) (r : Rep) (xe xa xs xd : SV) : Prop:=EntsR M xe r.log.ents ∧ IntsR M xa r.acks ∧ IntsR M xs r.starts ∧ DvsR M xd r.dos
def MsgS (M : Fz) (m : Msg) (xb xe : SV) : Prop:=PtsR M xb m.batch ∧ EntsR M xe m.log.ents
theorem RepS.mono {M M' : Fz} (hm : ∀ id B,M id = some B → M' id = some B) {r : Rep} {xe xa xs xd : SV} (h : RepS M r xe xa xs xd) : RepS M' r xe xa xs xd:=⟨EntsR.mono hm h.1,IntsR.mono hm h.2.1,IntsR.mono hm h.2.2.1,DvsR.mono hm h.2.2.2⟩
theorem MsgS.mono {M M' : Fz} (hm : ∀ id B,M id = some B → M' id = some B) {m : Msg} {xb xe : SV} (h : MsgS M m xb xe) : MsgS M' m xb xe:=⟨PtsR.mono hm h.1,EntsR.mono hm h.2⟩
def Ok (l : Lg) : Prop:=∀ e ∈ l.ents,e.batch.length ≤ 1152921504606846976
def readyB (r : Rep) (x : Rd) : Bool:=repB r && (leadB r) && decide (IntKind.i64.wrap ((IntKind.i64.wrap (r.nodes - 1)).tdiv 2) ≤ (x.agreed.length : Int)) && decide (x.at' ≤ r.commit)
def rdC (x : Rd) (xa xb xm : SV) : List SV:=[I x.round,I x.at',I x.client,xa] ++ msgC x.msg xb xm
variable {P : Program} (H : Fs P)
include H
theorem quorum_Ready (r : Rep) (xe xa xs xd : SV) (x : Rd) (ya yb ym : SV) (hl1 : r.starts.length ≤ 1152921504606846976) (hl2 : r.dos.length ≤ 1152921504606846976) (hl3 : r.acks.length ≤ 1152921504606846976) :
    BoolC P n_quorum_Ready [.ag (repC r xe xa xs xd),.ag (rdC x ya yb ym)] (λM=>RepS M r xe xa xs xd ∧ IntsR M ya x.agreed ∧ MsgS M x.msg yb ym) (readyB r x):=boolC H.mx H.quorum_Ready 0 λfz mu n k hfr gg s h=>by
  obtain ⟨s1,t1,t2,t3⟩:=s
  obtain ⟨-,-,xek,xem⟩:=s1.1.len
  obtain ⟨-,-,xak,xam⟩:=s1.2.1.len
  obtain ⟨-,-,xsk,xsm⟩:=s1.2.2.1.len
  obtain ⟨-,-,xdk,xdm⟩:=s1.2.2.2.len
  obtain ⟨yal,yas,yak,yam⟩:=t1.len
  obtain ⟨-,-,ybk,ybm⟩:=t2.len
  obtain ⟨-,-,ymk,ymm⟩:=t3.len
  have hM:=replica_May H r xe xa xs xd hl1 hl2 hl3
  have hL:=replica_Leads H r xe xa xs xd
  rw [i_quorum_Ready,dc_at b_quorum_Ready.eq_1]
  unfold rdC msgC
  unfold repC at hM hL ⊢
  have hA : True:=trivial
  have hle:=Nat.le_refl n
  simp only [↓E1,E2,zA,zB,zC,zD,zE,zF,zG,zH,zI,zJ,zK,zL,zM,zN,reduceIte,zO,zP, *]
  repeat' (first | ((with_reducible refine Br_intro (λhb=>?_) (λhb=>?_)) <;> (replace hA:=And.intro hA hb; clear hb; simp only [↓E1,E2,zA,zB,zC,zD,zE,zF,zG,zH,zI,zJ,zK,zL,zM,zN,reduceIte,zO,zP, *,tx_empty])) | ((with_reducible refine CPr_f (f:=n_replica_May) ?_); ((first | (refine (hM).d2 hfr (by first | trivial | exact s1 | assumption) ?_; rintro v mu2 n2 g2 rfl) | (refine (hM).d3 hfr (λhm=>by first | trivial | exact RepS.mono hm s1) ?_; rintro v mu2 n2 g2 b1 rfl) | (refine (hM).c1 hfr (by first | trivial | exact s1 | assumption) ?_; rintro v mu2 n2 g2 rfl) | (refine (hM).c2 hfr (λhm=>by first | trivial | exact RepS.mono hm s1) ?_; rintro v mu2 n2 g2 b1 rfl) | (refine (hM).c3 hfr (λhm=>by first | trivial | exact RepS.mono hm s1) ?_; rintro v mu2 n2 g2 b1 b2 rfl)); (try replace b1:=g2.old hfr b1); (try replace b2:=g2.old hfr b2); (try replace s1:=RepS.mono (λ_ _ hh=>g2.old hfr hh) s1); replace gg:=gg.trans (g2.weaken hle); replace hle:=Nat.le_trans hle g2.le; replace hfr:=g2.free; clear g2; simp only [↓E1,E2,zA,zB,zC,zD,zE,zF,zG,zH,zI,zJ,zK,zL,zM,zN,reduceIte,zO,zP, *,tx_empty])) | ((with_reducible refine CPr_f (f:=n_replica_Leads) ?_); ((first | (refine (hL).d2 hfr (by first | trivial | exact s1 | assumption) ?_; rintro v mu2 n2 g2 rfl) | (refine (hL).d3 hfr (λhm=>by first | trivial | exact RepS.mono hm s1) ?_; rintro v mu2 n2 g2 b1 rfl) | (refine (hL).c1 hfr (by first | trivial | exact s1 | assumption) ?_; rintro v mu2 n2 g2 rfl) | (refine (hL).c2 hfr (λhm=>by first | trivial | exact RepS.mono hm s1) ?_; rintro v mu2 n2 g2 b1 rfl) | (refine (hL).c3 hfr (λhm=>by first | trivial | exact RepS.mono hm s1) ?_; rintro v mu2 n2 g2 b1 b2 rfl)); (try replace b1:=g2.old hfr b1); (try replace b2:=g2.old hfr b2); (try replace s1:=RepS.mono (λ_ _ hh=>g2.old hfr hh) s1); replace gg:=gg.trans (g2.weaken hle); replace hle:=Nat.le_trans hle g2.le; replace hfr:=g2.free; clear g2; simp only [↓E1,E2,zA,zB,zC,zD,zE,zF,zG,zH,zI,zJ,zK,zL,zM,zN,reduceIte,zO,zP, *,tx_empty])))
  all_goals try (refine leafB h gg ?_; clear h gg hfr hM hL s1 b1 b2 yal; first | (simp_all [readyB]; done) | (simp_all [readyB]; intros; omega))
end Go.Proofs.Ytnnjlnkoomeadaa.Pv
namespace Go.Proofs.Ytnnjlnkoomeadaa.Pv
open Go.Ev Go.Ev.Rp
set_option maxRecDepth 100000
set_option maxHeartbeats 4000000
set_option linter.unusedSimpArgs false
set_option linter.unusedVariables false
set_option linter.unusedSectionVars false
theorem nil_Sl {M : Fz} {s : Nat} {x : SV} {es : List (List SV)} (h : Sl M s x es) : ∃ b,nilness true x = some b ∧ (b = true → x = .nsl ∧ es = []):=by
  rcases h with ⟨h,rfl⟩ | ⟨id,off,cap,B,rfl,_⟩
  · rcases h with rfl | rfl | rfl
    · exact ⟨true,rfl,λ_=>⟨rfl,rfl⟩⟩
    · exact ⟨false,rfl,λh=>by cases h⟩
    · exact ⟨false,rfl,λh=>by cases h⟩
  · exact ⟨false,rfl,λh=>by cases h⟩
variable {P : Program} (H : Fs P)
include H
theorem slices_Clone_ints (x : SV) (l : List Int) (hl : l.length ≤ 17592186044415) : Ctr P n_slices_Clone_int_int [.one x] (λM=>IntsR M x l) (λn _ M v=>∃ x',v = .one x' ∧ IntsX (From n M) x' l):=Ctr.of H.mx H.slices_Clone_int_int (λ_=>0) λfz mu n k hfr s1 hk=>by
  obtain ⟨xl,xs,xk,xm⟩:=s1.len
  obtain ⟨b,hb1,hb2⟩:=nil_Sl s1
  rw [i_slices_Clone_int_int,dc_at b_slices_Clone_int_int.eq_1]
  simp only [↓E1,E2,zA,zB,zC,zD,zE,zF,zG,zH,zI,zJ,zK,zL,zM,zN,reduceIte,zO,zP, *]
  cases b with
  | true =>
    obtain ⟨-,he⟩:=hb2 rfl
    simp only [↓E1,E2,zA,zB,zC,zD,zE,zF,zG,zH,zI,zJ,zK,zL,zM,zN,reduceIte,zO,zP, *]
    exact hk _ _ _ (Gr.refl hfr) ⟨.nsl,rfl,.inl ⟨.inl rfl,he⟩⟩
  | false =>
    clear hb2
    simp only [↓E1,E2,zA,zB,zC,zD,zE,zF,zG,zH,zI,zJ,zK,zL,zM,zN,reduceIte,zO,zP, *]
    obtain ⟨h1,h2⟩:=onSrc_Sl (Sl.mono s1 (sub1 hfr (c:=[])))
    rw [h1]; clear h1
    refine ⟨h2,app_empty hfr (fits_le (by simp; omega) (by decide) (by decide)) int_ok (λx' mu' n' g hx=>?_)⟩
    simp only [↓E1,E2,zA,zB,zC,zD,zE,zF,zG,zH,zI,zJ,zK,zL,zM,zN,reduceIte,zO,zP]
    exact hk _ _ _ g ⟨x',rfl,hx⟩
theorem message_Clone (m : Msg) (xb xe : SV) (hl : m.batch.length ≤ 4398046511104) (hL : m.log.ents.length ≤ 2513169434916) (hb : ∀ e ∈ m.log.ents,e.batch.length ≤ 4398046511104) : Ctr P n_message_Clone [.ag (msgC m xb xe)] (λM=>MsgS M m xb xe) (λn _ M v=>∃ xb' xe',v = .ag (msgC m xb' xe') ∧ PtsX (From n M) xb' m.batch ∧ EntsX (From n M) xe' m.log.ents):=Ctr.of H.mx H.message_Clone (λ_=>0) λfz mu n k hfr s hk=>by
  obtain ⟨s1,s2⟩:=s
  obtain ⟨xl,xs,xk,xm⟩:=s1.len
  obtain ⟨yl,ys,yk,ym⟩:=s2.len
  have hE:=message_CloneLog H m.log xe hL hb
  have hmc : msgC m xb xe = msgC m xb xe:=rfl
  conv at hmc=>rhs; unfold msgC
  unfold lgC at hE
  rw [i_message_Clone,dc_at b_message_Clone.eq_1]
  unfold msgC
  simp only [↓E1,E2,zA,zB,zC,zD,zE,zF,zG,zH,zI,zJ,zK,zL,zM,zN,reduceIte,zO,zP, *]
  obtain ⟨h1,h2⟩:=onSrc_Sl (Sl.mono s1 (sub2 hfr (c:=msgC m xb xe) (d:=[I 0,I 0,I 0,I 0,I 0,I 0,I 0,I 0,I 0,I 0,I 0,I 0,I 0,I 0,.str 0 0,.nsl,I 0,.str 0 0,.nsl,.str 0 0])))
  unfold msgC at h1
  rw [h1]; clear h1
  refine ⟨h2,app_nil (.inl rfl) (gr2 hfr).free (fits_le (by simp; omega) (by decide) (by decide)) pt_ok (λxb' mu1 n1 g1 hb'=>?_)⟩
  have g1':=(gr2 hfr).trans (g1.weaken (by omega))
  have b1:=(g1.own n (by omega)).trans (by simp [look_c]; rfl)
  have b2:=(g1.own (n + 1) (by omega)).trans (by simp [look_c]; rfl)
  have zk:=(SlX.len hb').2.2.1
  have zm:=(SlX.len hb').2.2.2
  simp only [↓E1,E2,zA,zB,zC,zD,zE,zF,zG,zH,zI,zJ,zK,zL,zM,zN,reduceIte,zO,zP, *,with_putI,look_putS,Option.isSome_some]
  have ga:=g1'.put (Nat.le_refl _) b1 (c:=msgC m xb' xe)
  unfold msgC at ga
  refine hE.c1 ga.free (EntsR.mono (ga.sub hfr (Nat.le_refl _)) s2) ?_
  rintro v mu2 n2 g2 ⟨xe',rfl,he'⟩
  have b3 : Ev.look mu2 n = some (msgC m xb' xe):=by rw [g2.own n (by have:=g1.le; omega),look_putS,if_pos rfl,b1]; rfl
  have b4:=(show Ev.look mu2 (n + 1) = Ev.look mu1 (n + 1) from by rw [g2.own (n + 1) (by have:=g1.le; omega),look_putS,if_neg (by omega)]).trans b2
  have yk':=he'.choose_spec.1.len.2.2.1
  have ym':=he'.choose_spec.1.len.2.2.2
  have gb:=((ga.trans (g2.weaken (by have:=g1.le; omega))).put (Nat.le_refl _) b3 (c:=msgC m xb' xe')).put (c:=msgC m xb' xe') (id:=n + 1) (by omega) (by rw [look_putS,if_neg (by omega)]; exact b4)
  have f1 : Sub (From (n + 1 + 1) (with' mu2 fz)) (From n (with' (putS (putS mu2 n (msgC m xb' xe')) (n + 1) (msgC m xb' xe')) fz)) :=
    ((From.put (by omega) b3).trans (From.put (by omega) (by rw [look_putS,if_neg (by omega)]; exact b4))).trans (From.le (by omega))
  have hb2:=SlX.mono hb' ((From.put (by omega) b1 (d':=msgC m xb' xe)).trans ((From.mono (g2.sub ga.free (Nat.le_refl _))).trans f1))
  have he2:=EntsX.mono ((From.le (by have:=g1.le; omega)).trans f1) he'
  unfold msgC at gb hb2 he2 b3
  simp only [↓E1,E2,zA,zB,zC,zD,zE,zF,zG,zH,zI,zJ,zK,zL,zM,zN,reduceIte,zO,zP, *,with_putI,look_putS,Option.isSome_some,Option.map_some]
  exact hk _ _ _ gb ⟨xb',xe',rfl,hb2,he2⟩
end Go.Proofs.Ytnnjlnkoomeadaa.Pv
namespace Go.Ev
set_option linter.unusedVariables false
def Tag (o : Nat → Nat) (t : Nat) (M : Fz) : Fz:=λj=>if o j = t then M j else none
theorem Tag.at {o : Nat → Nat} {t j : Nat} {M : Fz} {B : List SV} (h : o j = t) (g : M j = some B) : Tag o t M j = some B:=by unfold Tag; rw [if_pos h]; exact g
theorem Tag.el {o : Nat → Nat} {t j : Nat} {M : Fz} {B : List SV} (h : Tag o t M j = some B) : o j = t ∧ M j = some B:=by
  unfold Tag at h
  split at h
  · rename_i e; exact ⟨e,h⟩
  · cases h
theorem Tag.sub {o : Nat → Nat} {t : Nat} {M : Fz} : Sub (Tag o t M) M:=λ_ _ h=>(Tag.el h).2
theorem Tag.mono {o : Nat → Nat} {t : Nat} {M M' : Fz} (h : Sub M M') : Sub (Tag o t M) (Tag o t M'):=λ_ _ g=>Tag.at (Tag.el g).1 (h _ _ (Tag.el g).2)
def tagN (o : Nat → Nat) (n : Nat) (τ : Nat → Nat) : Nat → Nat:=λj=>if j < n then o j else τ j
theorem tagN_lt {o τ : Nat → Nat} {n j : Nat} (h : j < n) : tagN o n τ j = o j:=by unfold tagN; rw [if_pos h]
theorem tagN_ge {o τ : Nat → Nat} {n j : Nat} (h : n ≤ j) : tagN o n τ j = τ j:=by unfold tagN; rw [if_neg (by omega)]
theorem Tag.old {o τ : Nat → Nat} {t n : Nat} {fz : Fz} {mu mu' : St} (hf : Free fz mu n) (h : Sub (with' mu fz) (with' mu' fz)) : Sub (Tag o t (with' mu fz)) (Tag (tagN o n τ) t (with' mu' fz)):=λj B g=>by
  obtain ⟨g1,g2⟩:=Tag.el g
  exact Tag.at (by rw [tagN_lt (hf.lt g2)]; exact g1) (h _ _ g2)
theorem Tag.new {o τ : Nat → Nat} {t n : Nat} {M : Fz} (h : ∀ j,n ≤ j → τ j = t) : Sub (From n M) (Tag (tagN o n τ) t M):=λj B g=>by
  obtain ⟨g1,g2⟩:=From.el g
  exact Tag.at (by rw [tagN_ge g1]; exact h j g1) g2
theorem Tag.put {o : Nat → Nat} {t id : Nat} {fz : Fz} {mu : St} {c : List SV} (h : (look mu id).isSome = true) (ho : o id ≠ t) : Sub (Tag o t (with' mu fz)) (Tag o t (with' (putS mu id c) fz)):=λj B g=>by
  obtain ⟨g1,g2⟩:=Tag.el g
  exact Tag.at g1 (by rw [with_putI h,if_neg (by rintro rfl; exact ho g1)]; exact g2)
theorem flat_sub {s : Nat} : ∀ {es : List (List SV)} {i k m : Nat},(∀ e ∈ es,e.length = s) → (hi : i < es.length) → k + m ≤ s → (es.flatten.drop (i * s + k)).take m = (es[i].drop k).take m
  | [],i,_,_,_,h,_=>by simp at h
  | e :: es,0,k,m,hl,_,hk=>by
    have he:=hl e (by simp)
    simp only [Nat.zero_mul,Nat.zero_add,List.flatten_cons,List.getElem_cons_zero]
    rw [List.drop_append,show k - e.length = 0 by omega,List.drop_zero,List.take_append,show m - (e.drop k).length = 0 by simp; omega]
    simp
  | e :: es,i + 1,k,m,hl,hi,hk=>by
    have he:=hl e (by simp)
    have ih:=flat_sub (es:=es) (i:=i) (k:=k) (m:=m) (λx hx=>hl x (by simp [hx])) (by simpa using hi) hk
    simp only [List.flatten_cons,List.getElem_cons_succ]
    rw [← ih,show (i + 1) * s + k = e.length + (i * s + k) by rw [Nat.add_mul,he]; omega,List.drop_append,List.drop_eq_nil_of_le (by omega),show e.length + (i * s + k) - e.length = i * s + k by omega]
    simp
theorem All2.set {α β : Type} {R : α → β → Prop} : ∀ {x : List α} {y : List β} {i : Nat} {a : α},All2 R x y → (∀ b,y[i]? = some b → R a b) → All2 R (x.set i a) y
  | [],[],_,_,_,_=>trivial
  | [],_ :: _,_,_,h,_=>h.elim
  | _ :: _,[],_,_,h,_=>h.elim
  | x :: xs,y :: ys,0,a,h,hb=>⟨hb y rfl,h.2⟩
  | x :: xs,y :: ys,i + 1,a,h,hb=>⟨h.1,All2.set h.2 λb hh=>hb b (by simpa using hh)⟩
section
variable {P : Program} {f : Nat} {args : List AV} {fz : Fz} {mu : St} {n : Nat} {k : KT Prop} {w : WK k} {c d e : List SV}
theorem CPr.abs1 (hfr : Free fz mu n) (h : ∀ mu1 n1,Gr n fz mu mu1 n n1 → n + 1 ≤ n1 → look mu1 n = some c → CPr P f args fz mu1 n1 k w) : CPr P f args fz ((n,c) :: mu) (n + 1) k w :=
  h _ _ ((Gr.refl hfr).cons (Nat.le_refl _) _) (Nat.le_refl _) (by rw [look_c,if_pos rfl])
end
def Ids (a : St) (lo hi : Nat) : Prop:=∀ id,look a id ≠ none → lo ≤ id ∧ id < hi
theorem look_swap {a b m : St} {id : Nat} (h : look a id ≠ none → look b id = none) : look (a ++ (b ++ m)) id = look (b ++ (a ++ m)) id:=by
  rw [look_append,look_append,look_append,look_append]
  cases ea : look a id with
  | none=>cases look b id <;> rfl
  | some c=>rw [h (by rw [ea]; simp)]
theorem Ids.apart {a b : St} {l1 h1 l2 h2 id : Nat} (ha : Ids a l1 h1) (hb : Ids b l2 h2) (h : h1 ≤ l2 ∨ h2 ≤ l1) (hn : look a id ≠ none) : look b id = none:=by
  have:=ha id hn
  cases eb : look b id with
  | none=>rfl
  | some c=>have:=hb id (by rw [eb]; simp); omega
theorem Gr.congr {lo : Nat} {fz : Fz} {mu mu1 mu2 : St} {n n' : Nat} (g : Gr lo fz mu mu1 n n') (h : ∀ id,look mu2 id = look mu1 id) : Gr lo fz mu mu2 n n' :=
  ⟨g.le,λid hi=>by rw [with_congr (h id)]; exact g.ext id hi,λid hi=>by rw [h]; exact g.own id hi,λj=>by rw [with_congr (h _)]; exact g.free j⟩
theorem with_fun {mu1 mu2 : St} {fz : Fz} (h : ∀ id,look mu2 id = look mu1 id) : with' mu2 fz = with' mu1 fz:=by funext id; exact with_congr (h id)
theorem Ctr.d4 {P : Program} {f : Nat} {args : List AV} {pre : Fz → Prop} {post : Nat → Nat → Fz → AV → Prop} {fz : Fz} {mu : St} {n : Nat} {k : KT Prop} (h : Ctr P f args pre post) {w : WK k} (hf : Free fz mu n) (hp : pre (with' mu fz))
    (hk : ∀ v new n',Gr n fz mu (new ++ mu) n n' → Ids new n n' → post n n' (with' (new ++ mu) fz) v → k v new n') : CPr P f args (with' mu fz) [] n k w :=
  h.d1 hf hp λv new n' hg hpost=>hk v new n' (hg.join hf (Nat.le_refl _)) (λid hn=>by
    refine ⟨?_,?_⟩
    · rcases Nat.lt_or_ge id n with h1 | h1
      · exfalso; exact hn (hg.own id h1)
      · exact h1
    · rcases Nat.lt_or_ge id n' with h1 | h1
      · exact h1
      · exfalso
        refine hn ?_
        have:=hg.free.none h1
        rw [with_eq] at this
        cases e : look new id with
        | none=>rfl
        | some c=>rw [e] at this; cases this) (by rw [with_append]; exact hpost)
end Go.Ev
namespace Go.Proofs.Ytnnjlnkoomeadaa.Pv
open Go.Ev Go.Ev.Rp
set_option maxRecDepth 100000
set_option maxHeartbeats 4000000
set_option linter.unusedSimpArgs false
set_option linter.unusedVariables false
set_option linter.unusedSectionVars false
structure LgSz (l : Lg) : Prop where
  ents : l.ents.length ≤ 2513169434916
  bat : ∀ e ∈ l.ents,e.batch.length ≤ 4398046511104
structure RepSz (r : Rep) : Prop where
  log : LgSz r.log
  acks : r.acks.length ≤ 17592186044415
  starts : r.starts.length ≤ 17592186044415
  dos : r.dos.length ≤ 1954687338267
  dlog : ∀ d ∈ r.dos,LgSz d.log
def RestT (o : Nat → Nat) (M : Fz) (r : Rep) (xe xa xs : SV) : Prop:=(∃ cs,SlX (Tag o 1 M) 5 xe cs ∧ All2 (EntX (Tag o 2 M)) cs r.log.ents) ∧ IntsX (Tag o 3 M) xa r.acks ∧ IntsX (Tag o 4 M) xs r.starts
theorem RestT.mono {o o' : Nat → Nat} {M M' : Fz} (h : ∀ t,1 ≤ t → t ≤ 4 → Sub (Tag o t M) (Tag o' t M')) {r : Rep} {xe xa xs : SV} (g : RestT o M r xe xa xs) : RestT o' M' r xe xa xs:=by
  obtain ⟨⟨cs,h1,h2⟩,h3,h4⟩:=g
  exact ⟨⟨cs,h1.mono (h 1 (by omega) (by omega)),h2.imp λc a g=>EntX.mono (h 2 (by omega) (by omega)) g⟩,IntsX.mono (h 3 (by omega) (by omega)) h3,IntsX.mono (h 4 (by omega) (by omega)) h4⟩
def MixD (o : Nat → Nat) (M0 M : Fz) (l : List Dv) (i : Nat) (xd : SV) : Prop:=∃ cs,SlX (Tag o 5 M) 6 xd cs ∧ cs.length = l.length ∧ ∀ j (h1 : j < cs.length) (h2 : j < l.length),if j < i then DvX (Tag o 6 M) cs[j] l[j] else DvR M0 cs[j] l[j]
theorem MixD.mono {o o' : Nat → Nat} {M0 M M' : Fz} (h : ∀ t,5 ≤ t → t ≤ 6 → Sub (Tag o t M) (Tag o' t M')) {l : List Dv} {i : Nat} {xd : SV} (g : MixD o M0 M l i xd) : MixD o' M0 M' l i xd:=by
  obtain ⟨cs,h1,h2,h3⟩:=g
  refine ⟨cs,h1.mono (h 5 (by omega) (by omega)),h2,λj g1 g2=>?_⟩
  have:=h3 j g1 g2
  split
  · rename_i hj; rw [if_pos hj] at this; exact DvX.mono (h 6 (by omega) (by omega)) this
  · rename_i hj; rw [if_neg hj] at this; exact this
variable {P : Program} (H : Fs P)
include H
end Go.Proofs.Ytnnjlnkoomeadaa.Pv
namespace Go.Proofs.Ytnnjlnkoomeadaa.Pv
open Go.Ev Go.Ev.Rp
set_option maxRecDepth 100000
set_option maxHeartbeats 4000000
set_option linter.unusedSimpArgs false
set_option linter.unusedVariables false
set_option linter.unusedSectionVars false
variable {P : Program} (H : Fs P)
include H
end Go.Proofs.Ytnnjlnkoomeadaa.Pv
namespace Go.Proofs.Ytnnjlnkoomeadaa.Pv
open Go.Ev Go.Ev.Rp
set_option maxRecDepth 100000
set_option maxHeartbeats 4000000
set_option linter.unusedSimpArgs false
set_option linter.unusedVariables false
set_option linter.unusedSectionVars false
variable {P : Program} (H : Fs P)
include H
end Go.Proofs.Ytnnjlnkoomeadaa.Pv
namespace Go.Proofs.Ytnnjlnkoomeadaa.Pv
open Go.Ev Go.Ev.Rp
set_option maxRecDepth 100000
set_option maxHeartbeats 4000000
set_option linter.unusedSimpArgs false
set_option linter.unusedVariables false
set_option linter.unusedSectionVars false
theorem RepSz.s (r : Rep) (h : RepSz r) : r.starts.length ≤ 1152921504606846976 ∧ r.dos.length ≤ 1152921504606846976 ∧ r.acks.length ≤ 1152921504606846976:=⟨by have:=h.starts; omega,by have:=h.dos; omega,by have:=h.acks; omega⟩
variable {P : Program} (H : Fs P)
include H
end Go.Proofs.Ytnnjlnkoomeadaa.Pv
namespace Go.Proofs.Ytnnjlnkoomeadaa.Pv
open Go.Ev Go.Ev.Rp
set_option maxRecDepth 100000
set_option maxHeartbeats 4000000
set_option linter.unusedSimpArgs false
set_option linter.unusedVariables false
set_option linter.unusedSectionVars false
def tx0 : Tx:=⟨0,0,by decide⟩
def newR (me nodes : Int) : Rep:=⟨me,nodes,0,0,0,0,false,⟨0,tx0,[]⟩,List.replicate nodes.toNat 0,[],[]⟩
theorem nodes_cases {b : Int} (h : nodesB b = true) : b = 1 ∨ b = 3 ∨ b = 5 ∨ b = 7:=by
  unfold nodesB at h; simp at h; omega
variable {P : Program} (H : Fs P)
include H
end Go.Proofs.Ytnnjlnkoomeadaa.Pv
namespace Go.Proofs.Ytnnjlnkoomeadaa.Pv
open Go.Ev Go.Ev.Rp
set_option maxRecDepth 100000
set_option maxHeartbeats 4000000
set_option linter.unusedSimpArgs false
set_option linter.unusedVariables false
set_option linter.unusedSectionVars false
variable {P : Program} (H : Fs P)
include H
theorem ref16_New (me nodes : Int) (hm : meB me nodes = true) : Ctr P n_ref16_New [.one (I me),.one (I nodes)] (λ_=>True) (λn _ M v=>∃ xa,v = .tp [.ag (repC (newR me nodes) .nsl xa .nsl .nsl),.one (I 0)] ∧ IntsX (From n M) xa (newR me nodes).acks):=Ctr.of H.mx H.ref16_New (λ_=>0) λfz mu n k hfr _ hk=>by
  rw [i_ref16_New,dc_at b_ref16_New.eq_1]
  have hn : nodesB nodes = true:=by unfold meB at hm; simp at hm; exact hm.1.1
  have hd1 : decide (me < 0) = false:=by unfold meB at hm; simp at hm; simp; omega
  have hd2 : decide (nodes ≤ me) = false:=by unfold meB at hm; simp at hm; simp; omega
  simp only [↓E1,E2,zA,zB,zC,zD,zE,zF,zG,zH,zI,zJ,zK,zL,zM,zN,reduceIte,zO,zP]
  refine CPr.abs1 hfr λmu0 n0 gg h3 b1=>?_
  refine (ref16_Nodes H nodes).c1 gg.free trivial ?_
  rintro v mu1 n1 g1 rfl
  have hlt:=g1.le
  have c1:=(g1.own n (by omega)).trans b1
  have wc1:=look_with (fz:=fz) c1
  have hne : (n1 = n) = False:=by simp; omega
  have gz:=gg.trans (g1.weaken (by omega))
  clear b1 hm
  rcases nodes_cases hn with rfl | rfl | rfl | rfl
  all_goals
    simp only [↓E1,E2,zA,zB,zC,zD,zE,zF,zG,zH,zI,zJ,zK,zL,zM,zN,reduceIte,zO,zP, *,with_putI,look_putS,Option.isSome_some]
    refine ⟨fits_le (by decide) (by decide) (by decide),?_⟩
    refine hk _ _ _ ((gz.put (Nat.le_refl _) c1).cons (by omega) _) ⟨_,rfl,?_⟩
    exact .inr ⟨n1,rfl,From.at (by omega) (by rw [with_c,if_pos rfl]; rfl),rfl,int_ok⟩
end Go.Proofs.Ytnnjlnkoomeadaa.Pv
namespace Go.Proofs.Ytnnjlnkoomeadaa.Pv
open Go.Ev Go.Ev.Rp
set_option maxRecDepth 100000
set_option maxHeartbeats 4000000
set_option linter.unusedSimpArgs false
set_option linter.unusedVariables false
set_option linter.unusedSectionVars false
def MsgO (_ : Fz) (c : List SV) (m : Msg) : Prop:=c = msgC m .nsl .nsl
theorem all2_map {α : Type} {f : α → List SV} : ∀ {cs : List (List SV)} {l : List α},All2 (λc a=>c = f a) cs l → cs = l.map f
  | [],[],_=>rfl
  | c :: cs,a :: l,h=>by
    have h1 : c = f a:=h.1
    have h2:=all2_map h.2
    rw [List.map_cons,← h2,← h1]
theorem msgO_all {M : Fz} {cs : List (List SV)} {l : List Msg} (h : All2 (MsgO M) cs l) : cs = l.map λm=>msgC m .nsl .nsl:=all2_map h
def askM (r : Rep) (round : Int) (to : Nat) : Msg:=⟨12,r.me,to,r.view,0,0,0,round,0,0,0,0,0,0,tx0,[],⟨0,tx0,[]⟩,tx0⟩
def asks (r : Rep) (round : Int) (i : Nat) : List Msg:=((List.range i).filter λ(j : Nat)=>!decide ((j : Int) = r.me)).map (askM r round)
theorem asks_succ (r : Rep) (round : Int) (i : Nat) : asks r round (i + 1) = if (i : Int) = r.me then asks r round i else asks r round i ++ [askM r round i]:=by
  unfold asks
  rw [List.range_succ,List.filter_append,List.map_append]
  by_cases h : (i : Int) = r.me <;> simp [h]
theorem asks_length (r : Rep) (round : Int) (i : Nat) : (asks r round i).length ≤ i:=by
  unfold asks
  rw [List.length_map]
  exact Nat.le_trans (List.length_filter_le _ _) (by simp)
def begR (r : Rep) (round : Int) (m : Msg) : Rd:=⟨round,last r.log,m.frm,[],m⟩
theorem rep_nodes {r : Rep} (h : repB r = true) : nodesB r.nodes = true:=by
  cases e : nodesB r.nodes with
  | true=>rfl
  | false=>unfold repB at h; rw [e] at h; simp only [Bool.false_and] at h; cases h
variable {P : Program} (H : Fs P)
include H
theorem quorum_Begin (r : Rep) (xe xa xs xd : SV) (round : Int) (m : Msg) (zb zm : SV) (hz : RepSz r) (hb : m.batch.length ≤ 4398046511104) (hx : LgSz m.log) (hB : repB r = true) (hLd : leadB r = true) :
    Ctr P n_quorum_Begin [.ag (repC r xe xa xs xd),.one (I round),.ag (msgC m zb zm)] (λM=>RepS M r xe xa xs xd ∧ MsgS M m zb zm)
      (λn _ M v=>∃ xb' xm' xo,v = .tp [.ag (rdC (begR r round m) .nsl xb' xm'),.one xo,.one (I 0)] ∧ PtsX (From n M) xb' m.batch ∧ EntsX (From n M) xm' m.log.ents ∧ SlX (From n M) 20 xo ((asks r round r.nodes.toNat).map λm=>msgC m .nsl .nsl)):=Ctr.of H.mx H.quorum_Begin (λ_=>8) λfz mu n k hfr s hk=>by
  obtain ⟨s1,t3⟩:=s
  obtain ⟨-,-,xek,xem⟩:=s1.1.len
  obtain ⟨-,-,xak,xam⟩:=s1.2.1.len
  obtain ⟨-,-,xsk,xsm⟩:=s1.2.2.1.len
  obtain ⟨-,-,xdk,xdm⟩:=s1.2.2.2.len
  obtain ⟨-,-,zbk,zbm⟩:=t3.1.len
  obtain ⟨-,-,zmk,zmm⟩:=t3.2.len
  have hn : nodesB r.nodes = true:=rep_nodes hB
  have hM:=replica_May H r xe xa xs xd (by have:=hz.starts; omega) (by have:=hz.dos; omega) (by have:=hz.acks; omega)
  have hL:=replica_Leads H r xe xa xs xd
  have hC:=message_Clone H m zb zm hb hx.ents hx.bat
  have hE:=choose_Last H r.log xe
  rw [hB] at hM
  rw [hLd] at hL
  rw [i_quorum_Begin,dc_at b_quorum_Begin.eq_1]
  have gg : Gr n fz mu ((n + 1 + 1,[I 0,I 0,I 0,.nsl,I 0,I 0,I 0,I 0,I 0,I 0,I 0,I 0,I 0,I 0,I 0,I 0,I 0,I 0,.str 0 0,.nsl,I 0,.str 0 0,.nsl,.str 0 0]) :: (n + 1,[I m.kind,I m.frm,I m.to,I m.view,I m.normal,I m.at',I m.commit,I m.round,I m.client,I m.session,I m.number,I m.code,I m.agg,I m.until',m.series.sv,zb,I m.log.base,m.log.snap.sv,zm,m.text.sv]) :: (n,[I r.me,I r.nodes,I r.view,I r.normal,I r.status,I r.commit,.bool r.sent,I r.log.base,r.log.snap.sv,xe,xa,xs,xd]) :: mu) n (n + 1 + 1 + 1):=((gr2 hfr).cons (by omega) _)
  have b1 : Ev.look ((n + 1 + 1,[I 0,I 0,I 0,.nsl,I 0,I 0,I 0,I 0,I 0,I 0,I 0,I 0,I 0,I 0,I 0,I 0,I 0,I 0,.str 0 0,.nsl,I 0,.str 0 0,.nsl,.str 0 0]) :: (n + 1,[I m.kind,I m.frm,I m.to,I m.view,I m.normal,I m.at',I m.commit,I m.round,I m.client,I m.session,I m.number,I m.code,I m.agg,I m.until',m.series.sv,zb,I m.log.base,m.log.snap.sv,zm,m.text.sv]) :: (n,[I r.me,I r.nodes,I r.view,I r.normal,I r.status,I r.commit,.bool r.sent,I r.log.base,r.log.snap.sv,xe,xa,xs,xd]) :: mu) n = some [I r.me,I r.nodes,I r.view,I r.normal,I r.status,I r.commit,.bool r.sent,I r.log.base,r.log.snap.sv,xe,xa,xs,xd]:=by rw [look_c,if_neg (by omega),look_c,if_neg (by omega),look_c,if_pos rfl]
  have b2 : Ev.look ((n + 1 + 1,[I 0,I 0,I 0,.nsl,I 0,I 0,I 0,I 0,I 0,I 0,I 0,I 0,I 0,I 0,I 0,I 0,I 0,I 0,.str 0 0,.nsl,I 0,.str 0 0,.nsl,.str 0 0]) :: (n + 1,[I m.kind,I m.frm,I m.to,I m.view,I m.normal,I m.at',I m.commit,I m.round,I m.client,I m.session,I m.number,I m.code,I m.agg,I m.until',m.series.sv,zb,I m.log.base,m.log.snap.sv,zm,m.text.sv]) :: (n,[I r.me,I r.nodes,I r.view,I r.normal,I r.status,I r.commit,.bool r.sent,I r.log.base,r.log.snap.sv,xe,xa,xs,xd]) :: mu) (n + 1) = some [I m.kind,I m.frm,I m.to,I m.view,I m.normal,I m.at',I m.commit,I m.round,I m.client,I m.session,I m.number,I m.code,I m.agg,I m.until',m.series.sv,zb,I m.log.base,m.log.snap.sv,zm,m.text.sv]:=by rw [look_c,if_neg (by omega),look_c,if_pos rfl]
  have b3 : Ev.look ((n + 1 + 1,[I 0,I 0,I 0,.nsl,I 0,I 0,I 0,I 0,I 0,I 0,I 0,I 0,I 0,I 0,I 0,I 0,I 0,I 0,.str 0 0,.nsl,I 0,.str 0 0,.nsl,.str 0 0]) :: (n + 1,[I m.kind,I m.frm,I m.to,I m.view,I m.normal,I m.at',I m.commit,I m.round,I m.client,I m.session,I m.number,I m.code,I m.agg,I m.until',m.series.sv,zb,I m.log.base,m.log.snap.sv,zm,m.text.sv]) :: (n,[I r.me,I r.nodes,I r.view,I r.normal,I r.status,I r.commit,.bool r.sent,I r.log.base,r.log.snap.sv,xe,xa,xs,xd]) :: mu) (n + 1 + 1) = some [I 0,I 0,I 0,.nsl,I 0,I 0,I 0,I 0,I 0,I 0,I 0,I 0,I 0,I 0,I 0,I 0,I 0,I 0,.str 0 0,.nsl,I 0,.str 0 0,.nsl,.str 0 0]:=by rw [look_c,if_pos rfl]
  obtain ⟨m0,hm0⟩ : ∃ mz : St,((n + 1 + 1,[I 0,I 0,I 0,.nsl,I 0,I 0,I 0,I 0,I 0,I 0,I 0,I 0,I 0,I 0,I 0,I 0,I 0,I 0,.str 0 0,.nsl,I 0,.str 0 0,.nsl,.str 0 0]) :: (n + 1,[I m.kind,I m.frm,I m.to,I m.view,I m.normal,I m.at',I m.commit,I m.round,I m.client,I m.session,I m.number,I m.code,I m.agg,I m.until',m.series.sv,zb,I m.log.base,m.log.snap.sv,zm,m.text.sv]) :: (n,[I r.me,I r.nodes,I r.view,I r.normal,I r.status,I r.commit,.bool r.sent,I r.log.base,r.log.snap.sv,xe,xa,xs,xd]) :: mu) = mz:=⟨_,rfl⟩
  rw [hm0] at gg b1 b2 b3
  unfold repC at hM hL ⊢
  unfold msgC at hC ⊢
  unfold lgC at hE
  have w1:=look_with (fz:=fz) b1
  have w2:=look_with (fz:=fz) b2
  have w3:=look_with (fz:=fz) b3
  clear hB hLd
  simp only [↓E1,E2,zA,zB,zC,zD,zE,zF,zG,zH,zI,zJ,zK,zL,zM,zN,reduceIte,zO,zP, *]
  try rw [hm0]
  clear hm0
  try simp only [↓E1,E2,zA,zB,zC,zD,zE,zF,zG,zH,zI,zJ,zK,zL,zM,zN,reduceIte,zO,zP, *]
  refine hM.c1 gg.free (RepS.mono (gg.sub hfr (Nat.le_refl _)) s1) ?_
  rintro v m1 n1 g1 rfl
  replace gg:=gg.trans (g1.weaken (by omega))
  have ln1:=g1.le
  replace b1:=(g1.own n (by omega)).trans b1
  replace w1:=look_with (fz:=fz) b1
  replace b2:=(g1.own (n + 1) (by omega)).trans b2
  replace w2:=look_with (fz:=fz) b2
  replace b3:=(g1.own (n + 1 + 1) (by omega)).trans b3
  replace w3:=look_with (fz:=fz) b3
  simp only [↓E1,E2,zA,zB,zC,zD,zE,zF,zG,zH,zI,zJ,zK,zL,zM,zN,reduceIte,zO,zP, *]
  refine hL.c1 gg.free (RepS.mono (gg.sub hfr (Nat.le_refl _)) s1) ?_
  rintro v m2 n2 g2 rfl
  replace gg:=gg.trans (g2.weaken (by omega))
  have ln2:=g2.le
  replace b1:=(g2.own n (by omega)).trans b1
  replace w1:=look_with (fz:=fz) b1
  replace b2:=(g2.own (n + 1) (by omega)).trans b2
  replace w2:=look_with (fz:=fz) b2
  replace b3:=(g2.own (n + 1 + 1) (by omega)).trans b3
  replace w3:=look_with (fz:=fz) b3
  obtain ⟨N,hN⟩ : ∃ N : Nat,r.nodes = (N : Int):=⟨r.nodes.toNat,by rcases nodes_cases hn with h | h | h | h <;> rw [h] <;> rfl⟩
  have hN7 : N ≤ 7:=by rcases nodes_cases hn with h | h | h | h <;> omega
  rw [hN] at b1 w1
  simp only [↓E1,E2,zA,zB,zC,zD,zE,zF,zG,zH,zI,zJ,zK,zL,zM,zN,reduceIte,zO,zP, *]
  refine loopI (x:=0) (L:=N) (p:=λ_=>true) (λi e mu' n'=>∃ xo,Gr n fz mu mu' n n' ∧ n + 1 + 1 + 1 ≤ n' ∧ Ev.look mu' n = some [I r.me,.int .i64 (N : Int),I r.view,I r.normal,I r.status,I r.commit,.bool r.sent,I r.log.base,r.log.snap.sv,xe,xa,xs,xd] ∧ Ev.look mu' (n + 1) = some [I m.kind,I m.frm,I m.to,I m.view,I m.normal,I m.at',I m.commit,I m.round,I m.client,I m.session,I m.number,I m.code,I m.agg,I m.until',m.series.sv,zb,I m.log.base,m.log.snap.sv,zm,m.text.sv] ∧ Ev.look mu' (n + 1 + 1) = some [I 0,I 0,I 0,.nsl,I 0,I 0,I 0,I 0,I 0,I 0,I 0,I 0,I 0,I 0,I 0,I 0,I 0,I 0,.str 0 0,.nsl,I 0,.str 0 0,.nsl,.str 0 0] ∧ Grow (n + 1 + 1 + 1) (with' mu' fz) 20 MsgO xo (asks r round i) ∧ e 0 1 = .one (I round) ∧ e 0 3 = .one (.optr n 0) ∧ e 0 5 = .one (.optr (n + 1) 0) ∧ e 0 6 = .one (.optr (n + 1 + 1) 0) ∧ e 0 9 = .one xo ∧ e 1 5 = .one (.int .i64 N) ∧ e 1 6 = .one (.int .i64 i)) (λe mu' n'=>False) ?_ ?_ _ _ _ _ _ (by omega) ?_ ?_ ?_
  · rintro i e mu1 n3 K hi ⟨xo,g3,a0,a1,a2,a3,G3,e1,e3,e5,e6,e9,e15,e16⟩ hy hn
    rw [dc_at l_quorum_Begin_0.eq_1]
    have hw:=wrap_succ hi (by omega)
    have wa1:=look_with (fz:=fz) a1
    have hsu:=asks_succ r round i
    have hle:=asks_length r round i
    obtain ⟨xol,xos,xok,xom⟩:=G3.len
    simp only [↓E1,E2,zA,zB,zC,zD,zE,zF,zG,zH,zI,zJ,zK,zL,zM,zN,reduceIte,zO,zP, *]
    refine Br_intro (λhc=>?_) (λhc=>?_)
    · have hme : (i : Int) = r.me:=of_decide_eq_true hc
      rw [if_pos hme] at hsu
      clear hme
      rw [hsu] at hy
      simp only [↓E1,E2,zA,zB,zC,zD,zE,zF,zG,zH,zI,zJ,zK,zL,zM,zN,reduceIte,zO,zP, *]
      refine hy rfl _ _ _ ⟨xo,g3,a0,a1,a2,a3,G3,?_,?_,?_,?_,?_,?_,?_⟩
      all_goals simp [updN,updE, *]
    · have hme : ¬ (i : Int) = r.me:=of_decide_eq_false hc
      rw [if_neg hme] at hsu
      clear hme
      rw [hsu] at hy
      simp only [↓E1,E2,zA,zB,zC,zD,zE,zF,zG,zH,zI,zJ,zK,zL,zM,zN,reduceIte,zO,zP, *]
      refine Grow.more (R:=MsgO) (λ_ h=>h) (a:=askM r round i) (c:=[I 12,I r.me,I (i : Nat),I r.view,I 0,I 0,I 0,I round,I 0,I 0,I 0,I 0,I 0,I 0,.str 0 0,.nsl,I 0,.str 0 0,.nsl,.str 0 0]) G3 g3.free a0 (λj hj=>hfr.fz j (by omega)) ((Gr.refl g3.free).cons (Nat.le_refl _) _) rfl ⟨rfl,rfl⟩ (fits_le (by omega) (by decide) (by decide)) (λmu4 g4 G4=>?_)
      have gb:=g4.weaken (show n ≤ n + 1 + 1 + 1 by omega)
      simp only [↓E1,E2,zA,zB,zC,zD,zE,zF,zG,zH,zI,zJ,zK,zL,zM,zN,reduceIte,zO,zP, *]
      refine hy rfl _ _ _ ⟨_,g3.trans gb,by omega,(g4.own n (by omega)).trans a1,(g4.own (n + 1) (by omega)).trans a2,(g4.own (n + 1 + 1) (by omega)).trans a3,G4,?_,?_,?_,?_,?_,?_,?_⟩
      all_goals simp [updN,updE, *]
  · rintro e mu1 n3 K ⟨xo,g3,a0,a1,a2,a3,G3,e1,e3,e5,e6,e9,e15,e16⟩ hx
    rw [dc_at l_quorum_Begin_0.eq_1]
    have hlt : ((N : Int) < N) = False:=by simp
    have hlt2 : (N < N) = False:=by simp
    simp only [↓E1,E2,zA,zB,zC,zD,zE,zF,zG,zH,zI,zJ,zK,zL,zM,zN,reduceIte,zO,zP, *]
    try exact hx _ _ _ ⟨xo,g3,a0,a1,a2,a3,G3,by simp [updN,updE,e1],by simp [updN,updE,e3],by simp [updN,updE,e5],by simp [updN,updE,e6],by simp [updN,updE,e9],by simp [updN,updE,e15],by simp [updN,updE,e16]⟩
  · exact ⟨.nsl,gg,by omega,b1,b2,b3,(show asks r round 0 = [] from rfl) ▸ Grow.nil,by simp [updN,updE,envI],by simp [updN,updE,envI],by simp [updN,updE,envI],by simp [updN,updE,envI],by simp [updN,updE,envI],by simp [updN,updE,envI],by simp [updN,updE,envI]⟩
  · rintro - e mu1 n3 ⟨xo,g3,a0,a1,a2,a3,G3,e1,e3,e5,e6,e9,e15,e16⟩
    have wa1:=look_with (fz:=fz) a1
    have wa2:=look_with (fz:=fz) a2
    have wa3:=look_with (fz:=fz) a3
    obtain ⟨xol,xos,xok,xom⟩:=G3.len
    clear b1 b2 b3 w1 w2 w3 gg hM hL
    simp only [↓E1,E2,zA,zB,zC,zD,zE,zF,zG,zH,zI,zJ,zK,zL,zM,zN,reduceIte,zO,zP, *]
    refine hE.d4 g3.free (EntsR.mono (g3.sub hfr (Nat.le_refl _)) s1.1) ?_
    rintro v nw1 n4 g4 i4 rfl
    have l4:=g4.le
    have gg:=g3.trans (g4.weaken (by omega))
    have x4:=g4.sub g3.free (Nat.le_refl _)
    have k2:=x4 _ _ wa2
    simp only [↓E1,E2,zA,zB,zC,zD,zE,zF,zG,zH,zI,zJ,zK,zL,zM,zN,reduceIte,zO,zP, *,List.append_assoc]
    refine hC.d4 gg.free (MsgS.mono (gg.sub hfr (Nat.le_refl _)) t3) ?_
    rintro v nw2 n5 g5 i5 ⟨xb',xm',rfl,hxb,hxm⟩
    have l5:=g5.le
    obtain ⟨-,-,zbk',zbm'⟩:=SlX.len hxb
    obtain ⟨-,-,zmk',zmm'⟩:=hxm.choose_spec.1.len
    simp only [↓E1,E2,zA,zB,zC,zD,zE,zF,zG,zH,zI,zJ,zK,zL,zM,zN,reduceIte,zO,zP, *,List.append_assoc]
    have hp : ∀ id,Ev.look (nw1 ++ (nw2 ++ mu1)) id = Ev.look (nw2 ++ (nw1 ++ mu1)) id:=λid=>look_swap (λh=>i4.apart i5 (.inl (Nat.le_refl _)) h)
    have hMm:=with_fun (fz:=fz) hp
    rw [← hMm] at hxb hxm
    have gq:=(g4.trans (g5.weaken l4)).congr hp
    have gE:=g3.trans (gq.weaken (show n ≤ n3 by omega))
    have c3 : Ev.look (nw1 ++ (nw2 ++ mu1)) (n + 1 + 1) = some [I 0,I 0,I 0,.nsl,I 0,I 0,I 0,I 0,I 0,I 0,I 0,I 0,I 0,I 0,I 0,I 0,I 0,I 0,.str 0 0,.nsl,I 0,.str 0 0,.nsl,.str 0 0]:=(gq.own _ (by omega)).trans a3
    have uq:=gq.sub g3.free (Nat.le_refl _)
    clear hp hMm gq g4 g5 i4 i5 k2 x4 wa1 wa2 wa3 gg
    generalize nw1 ++ (nw2 ++ mu1) = m3 at *
    simp only [↓E1,E2,zA,zB,zC,zD,zE,zF,zG,zH,zI,zJ,zK,zL,zM,zN,reduceIte,zO,zP, *,with_putI,look_putS,Option.isSome_some,Option.map_some]
    have hNt : r.nodes.toNat = N:=by rw [hN]; rfl
    have f4 : Sub (From n4 (with' m3 fz)) (From n (with' (putS m3 (n + 1 + 1) [I round,I (last r.log),I m.frm,.nsl,I m.kind,I m.frm,I m.to,I m.view,I m.normal,I m.at',I m.commit,I m.round,I m.client,I m.session,I m.number,I m.code,I m.agg,I m.until',m.series.sv,xb',I m.log.base,m.log.snap.sv,xm',m.text.sv]) fz)):=(From.put (by omega) c3).trans (From.le (by omega))
    have f3 : Sub (From (n + 1 + 1 + 1) (with' m3 fz)) (From n (with' (putS m3 (n + 1 + 1) [I round,I (last r.log),I m.frm,.nsl,I m.kind,I m.frm,I m.to,I m.view,I m.normal,I m.at',I m.commit,I m.round,I m.client,I m.session,I m.number,I m.code,I m.agg,I m.until',m.series.sv,xb',I m.log.base,m.log.snap.sv,xm',m.text.sv]) fz)):=(From.put (by omega) c3).trans (From.le (by omega))
    obtain ⟨cs,q1,q2⟩:=G3
    rw [msgO_all q2] at q1
    exact hk _ _ _ (gE.put (id:=n + 1 + 1) (by omega) c3) ⟨xb',xm',xo,rfl,PtsX.mono f4 hxb,EntsX.mono f4 hxm,by rw [hNt]; exact SlX.mono q1 ((From.mono uq).trans f3)⟩
  · rintro ⟨_,_,_,h⟩; cases h
def ansM (r : Rep) (m : Msg) : Msg:=⟨13,r.me,m.frm,r.view,0,0,0,m.round,0,0,0,0,0,0,tx0,[],⟨0,tx0,[]⟩,tx0⟩
theorem quorum_Agree (r : Rep) (xe xa xs xd : SV) (m : Msg) (zb zm : SV) (hz : RepSz r) (h1 : decide (m.kind = 12) = true) (h2 : repB r = true) (h3 : msgB m = true) (h4 : decide (m.to = r.me) = true) (h5 : decide (m.frm = r.me) = false) (h6 : decide (r.status = 0) = true) (h7 : decide (m.view = r.view) = true) :
    Ctr P n_quorum_Agree [.ag (repC r xe xa xs xd),.ag (msgC m zb zm)] (λM=>RepS M r xe xa xs xd ∧ MsgS M m zb zm)
      (λn _ M v=>∃ xo,v = .one xo ∧ SlX (From n M) 20 xo [msgC (ansM r m) .nsl .nsl]):=Ctr.of H.mx H.quorum_Agree (λ_=>8) λfz mu n k hfr s hk=>by
  obtain ⟨s1,t3⟩:=s
  obtain ⟨-,-,xek,xem⟩:=s1.1.len
  obtain ⟨-,-,xak,xam⟩:=s1.2.1.len
  obtain ⟨-,-,xsk,xsm⟩:=s1.2.2.1.len
  obtain ⟨-,-,xdk,xdm⟩:=s1.2.2.2.len
  obtain ⟨-,-,zbk,zbm⟩:=t3.1.len
  obtain ⟨-,-,zmk,zmm⟩:=t3.2.len
  have hM:=replica_May H r xe xa xs xd (by have:=hz.starts; omega) (by have:=hz.dos; omega) (by have:=hz.acks; omega)
  have hG:=message_May H m zb zm
  rw [h2] at hM
  rw [h3] at hG
  rw [i_quorum_Agree,dc_at b_quorum_Agree.eq_1]
  have gg : Gr n fz mu ((n + 1,[I m.kind,I m.frm,I m.to,I m.view,I m.normal,I m.at',I m.commit,I m.round,I m.client,I m.session,I m.number,I m.code,I m.agg,I m.until',m.series.sv,zb,I m.log.base,m.log.snap.sv,zm,m.text.sv]) :: (n,[I r.me,I r.nodes,I r.view,I r.normal,I r.status,I r.commit,.bool r.sent,I r.log.base,r.log.snap.sv,xe,xa,xs,xd]) :: mu) n (n + 1 + 1):=gr2 hfr
  have b1 : Ev.look ((n + 1,[I m.kind,I m.frm,I m.to,I m.view,I m.normal,I m.at',I m.commit,I m.round,I m.client,I m.session,I m.number,I m.code,I m.agg,I m.until',m.series.sv,zb,I m.log.base,m.log.snap.sv,zm,m.text.sv]) :: (n,[I r.me,I r.nodes,I r.view,I r.normal,I r.status,I r.commit,.bool r.sent,I r.log.base,r.log.snap.sv,xe,xa,xs,xd]) :: mu) n = some [I r.me,I r.nodes,I r.view,I r.normal,I r.status,I r.commit,.bool r.sent,I r.log.base,r.log.snap.sv,xe,xa,xs,xd]:=by rw [look_c,if_neg (by omega),look_c,if_pos rfl]
  have b2 : Ev.look ((n + 1,[I m.kind,I m.frm,I m.to,I m.view,I m.normal,I m.at',I m.commit,I m.round,I m.client,I m.session,I m.number,I m.code,I m.agg,I m.until',m.series.sv,zb,I m.log.base,m.log.snap.sv,zm,m.text.sv]) :: (n,[I r.me,I r.nodes,I r.view,I r.normal,I r.status,I r.commit,.bool r.sent,I r.log.base,r.log.snap.sv,xe,xa,xs,xd]) :: mu) (n + 1) = some [I m.kind,I m.frm,I m.to,I m.view,I m.normal,I m.at',I m.commit,I m.round,I m.client,I m.session,I m.number,I m.code,I m.agg,I m.until',m.series.sv,zb,I m.log.base,m.log.snap.sv,zm,m.text.sv]:=by rw [look_c,if_pos rfl]
  obtain ⟨m0,hm0⟩ : ∃ mz : St,((n + 1,[I m.kind,I m.frm,I m.to,I m.view,I m.normal,I m.at',I m.commit,I m.round,I m.client,I m.session,I m.number,I m.code,I m.agg,I m.until',m.series.sv,zb,I m.log.base,m.log.snap.sv,zm,m.text.sv]) :: (n,[I r.me,I r.nodes,I r.view,I r.normal,I r.status,I r.commit,.bool r.sent,I r.log.base,r.log.snap.sv,xe,xa,xs,xd]) :: mu) = mz:=⟨_,rfl⟩
  rw [hm0] at gg b1 b2
  unfold repC at hM ⊢
  unfold msgC at hG ⊢
  have w1:=look_with (fz:=fz) b1
  have w2:=look_with (fz:=fz) b2
  clear h2 h3
  simp only [↓E1,E2,zA,zB,zC,zD,zE,zF,zG,zH,zI,zJ,zK,zL,zM,zN,reduceIte,zO,zP, *]
  try rw [hm0]
  clear hm0
  try simp only [↓E1,E2,zA,zB,zC,zD,zE,zF,zG,zH,zI,zJ,zK,zL,zM,zN,reduceIte,zO,zP, *]
  refine hM.c1 gg.free (RepS.mono (gg.sub hfr (Nat.le_refl _)) s1) ?_
  rintro v m1 n1 g1 rfl
  replace gg:=gg.trans (g1.weaken (by omega))
  have ln1:=g1.le
  replace b1:=(g1.own n (by omega)).trans b1
  replace w1:=look_with (fz:=fz) b1
  replace b2:=(g1.own (n + 1) (by omega)).trans b2
  replace w2:=look_with (fz:=fz) b2
  simp only [↓E1,E2,zA,zB,zC,zD,zE,zF,zG,zH,zI,zJ,zK,zL,zM,zN,reduceIte,zO,zP, *]
  refine hG.c1 gg.free (MsgS.mono (gg.sub hfr (Nat.le_refl _)) t3) ?_
  rintro v m2 n2 g2 rfl
  replace gg:=gg.trans (g2.weaken (by omega))
  have ln2:=g2.le
  replace b1:=(g2.own n (by omega)).trans b1
  replace w1:=look_with (fz:=fz) b1
  replace b2:=(g2.own (n + 1) (by omega)).trans b2
  replace w2:=look_with (fz:=fz) b2
  simp only [↓E1,E2,zA,zB,zC,zD,zE,zF,zG,zH,zI,zJ,zK,zL,zM,zN,reduceIte,zO,zP, *]
  refine hk _ _ _ (gg.cons (by omega) _) ⟨_,rfl,?_⟩
  exact SlX.mk_new (M:=From n _) (s:=20) (id:=n2) (es:=[msgC (ansM r m) .nsl .nsl]) (From.at (by omega) (by rw [with_c,if_pos rfl]; rfl)) (by intro e he; rw [List.mem_singleton.1 he]; exact ⟨rfl,rfl⟩)
end Go.Proofs.Ytnnjlnkoomeadaa.Pv
namespace Go.Proofs.Ytnnjlnkoomeadaa.Pv
open Go.Ev Go.Ev.Rp
set_option maxRecDepth 100000
set_option maxHeartbeats 4000000
set_option linter.unusedSimpArgs false
set_option linter.unusedVariables false
set_option linter.unusedSectionVars false
theorem ints_flat (l : List Int) : (l.map intC).flatten = l.map I:=by
  induction l with
  | nil=>rfl
  | cons h t ih=>simp [ih,intC]
theorem mkd_I : ∀ (l : List Int),mkd (l.map I ++ [I (-7777),I (-8888)]) = false
  | []=>rfl
  | a :: l=>rfl
def LentI (M : Fz) (id : Nat) (l : List Int) : Prop:=M id = some (l.map I ++ [I (-7777),I (-8888)])
theorem LentI.sl {M : Fz} {id : Nat} {l : List Int} (h : LentI M id l) : IntsR M (.osl id 0 l.length (l.length + 2) 1) l :=
  .inr ⟨id,0,l.length + 2,_,by simp,by simp,h,mkd_I l,by simp,by simp [ints_flat],int_ok⟩
variable {P : Program} (H : Fs P)
include H
theorem law0_SameInts (x y : SV) (l : List Int) (hl : l.length ≤ 4611686018427387904) : BoolC P n_law0_SameInts [.one x,.one y] (λM=>IntsR M x l ∧ IntsR M y l) true:=boolC H.mx H.law0_SameInts (l.length + 1) λfz mu n k hfr g0 hx h=>by
  obtain ⟨hx,hy⟩:=hx
  obtain ⟨xl,xs,xk,xm⟩:=hx.len
  obtain ⟨yl,ys,yk,ym⟩:=hy.len
  rw [i_law0_SameInts,dc_at b_law0_SameInts.eq_1]
  simp only [↓E1,E2,zA,zB,zC,zD,zE,zF,zG,zH,zI,zJ,zK,zL,zM,zN,reduceIte,zO,zP,xl,xs,yl,ys]
  refine scan (x:=0) (L:=l.length) (q:=0) (r:=5) (p:=λi=>true) (λe mu n=>Free fz mu n ∧ IntsR (with' mu fz) x l ∧ IntsR (with' mu fz) y l ∧ e 0 0 = .one x ∧ e 0 1 = .one y) (λe=>True) (λ_ _ _ h=>h.1) ?_ ?_ l.length 0 (l.length + 1) _ mu n _ _ (by omega) (by omega) (by omega) ⟨hfr,hx,hy,?_,?_⟩ ?_ ?_ ?_
  · rintro i e mu n K hi ⟨hf,hx,hy,h0,h1⟩ hc hY hn
    have hx':=hx
    have hy':=hy
    obtain ⟨id,off,cap,B,rfl,hB,hmk,hbd,hsub⟩:=hx.elem hi
    obtain ⟨id2,off2,cap2,B2,rfl,hB2,hmk2,hbd2,hsub2⟩:=hy.elem hi
    rw [dc_at l_law0_SameInts_0.eq_1]
    have hw:=wrap_succ hi hl
    simp only [↓E1,E2,zA,zB,zC,zD,zE,zF,zG,zH,zI,zJ,zK,zL,zM,zN,reduceIte,zO,zP,h0,h1,hc,hi,hB,hmk,hbd,hsub,hB2,hmk2,hbd2,hsub2,hw]
    exact hY rfl _ _ _ (Gr.refl hf) ⟨hf,hx',hy',by simp [updN,updE,h0],by simp [updN,updE,h1]⟩ (by simp [updN,updE])
  · rintro e mu n K ⟨hf,hx,hy,h0,h1⟩ hc hY
    rw [dc_at l_law0_SameInts_0.eq_1]
    have hlt : (l.length < l.length) = False:=by simp
    simp only [↓E1,E2,zA,zB,zC,zD,zE,zF,zG,zH,zI,zJ,zK,zL,zM,zN,reduceIte,zO,zP,h0,h1,hc,hlt,xl,xs]
    exact hY _ _ _ (Gr.refl hf) ⟨hf,hx,hy,by simp [updN,updE,h0],by simp [updN,updE,h1]⟩
  · simp [updN,updE,envI]
  · simp [updN,updE,envI]
  · simp [updN,updE]
  · intro ha e' mu' n' g hI
    simp only [↓E1,E2,zA,zB,zC,zD,zE,zF,zG,zH,zI,zJ,zK,zL,zM,zN,reduceIte,zO,zP]
    exact h _ _ g
  · rintro ⟨j,j1,j2,j3⟩
    cases j3
end Go.Proofs.Ytnnjlnkoomeadaa.Pv
namespace Go.Proofs.Ytnnjlnkoomeadaa.Pv
open Go.Ev Go.Ev.Rp
set_option maxRecDepth 100000
set_option maxHeartbeats 4000000
set_option linter.unusedSimpArgs false
set_option linter.unusedVariables false
set_option linter.unusedSectionVars false
def mkP : Pt:=⟨⟨0,0,by decide⟩,77777,0⟩
theorem mkd_P : ∀ (l : List Pt),mkd ((l ++ [mkP,mkP]).map ptC).flatten = false
  | []=>rfl
  | a :: l=>rfl
theorem pts_flen (l : List Pt) : (l.map ptC).flatten.length = l.length * 3:=by
  induction l with
  | nil=>rfl
  | cons h t ih=>simp [ih,ptC]; omega
def LentP (M : Fz) (id : Nat) (l : List Pt) : Prop:=M id = some ((l ++ [mkP,mkP]).map ptC).flatten
theorem LentP.sl {M : Fz} {id : Nat} {l : List Pt} (h : LentP M id l) : PtsR M (.osl id 0 l.length (l.length + 2) 3) l:=by
  refine .inr ⟨id,0,l.length + 2,_,by simp,by simp,h,mkd_P l,?_,?_,pt_ok⟩
  · rw [pts_flen]; simp; omega
  · rw [List.map_append,List.flatten_append,List.drop_zero,List.take_left' (by rw [pts_flen]; simp)]
variable {P : Program} (H : Fs P)
include H
end Go.Proofs.Ytnnjlnkoomeadaa.Pv
namespace Go.Proofs.Ytnnjlnkoomeadaa.Pv
open Go.Ev Go.Ev.Rp
set_option maxRecDepth 100000
set_option maxHeartbeats 4000000
set_option linter.unusedSimpArgs false
set_option linter.unusedVariables false
set_option linter.unusedSectionVars false
def EntL (M : Fz) (c : List SV) : Option Ent → Prop
  | some e=>∃ id,c = entC e (.osl id 0 e.batch.length (e.batch.length + 2) 3) ∧ LentP M id e.batch
  | none=>c = [I 77777,I 0,I 0,I 0,.nsl]
theorem EntL.mono {M M' : Fz} {c : List SV} {e : Option Ent} (hs : Sub M M') (h : EntL M c e) : EntL M' c e:=by
  cases e with
  | none=>exact h
  | some e=>obtain ⟨id,h1,h2⟩:=h; exact ⟨id,h1,hs _ _ h2⟩
def LentE (lo : Nat) (M : Fz) (id : Nat) (l : List Ent) : Prop:=Grow lo M 5 EntL (.osl id 0 (l.length + 1) (l.length + 1) 5) (l.map some ++ [none])
variable {P : Program} (H : Fs P)
include H
end Go.Proofs.Ytnnjlnkoomeadaa.Pv
namespace Go.Proofs.Ytnnjlnkoomeadaa.Pv
open Go.Ev Go.Ev.Rp
set_option maxRecDepth 100000
set_option maxHeartbeats 4000000
set_option linter.unusedSimpArgs false
set_option linter.unusedVariables false
set_option linter.unusedSectionVars false
theorem LentE.raw {lo : Nat} {M : Fz} {id : Nat} {l : List Ent} (h : LentE lo M id l) {i : Nat} (hi : i < l.length + 1) : ∃ B c,M id = some B ∧ mkd B = false ∧ i * 5 + 5 ≤ B.length ∧ (B.drop (i * 5)).take 5 = c ∧ EntL M c ((l.map some ++ [none])[i]'(by simpa using hi)):=by
  obtain ⟨cs,h1,h2⟩:=h
  have hl : cs.length = (l.map some ++ [none]).length:=h2.length
  have hl' : cs.length = l.length + 1:=by simpa using hl
  obtain ⟨id',off,cap,B,g1,g2,g3,g4,g5⟩:=h1.to.elem (i:=i) (by omega)
  injection g1 with a b c d e
  subst a b
  have h3:=h2.at (i:=i) (by omega) (by simpa using hi)
  exact ⟨B,_,From.sub _ _ g2,g3,by omega,by rw [Nat.zero_add] at g5; exact g5,h3.mono (Ex.sub.trans From.sub)⟩
theorem LentE.elem {lo : Nat} {M : Fz} {id : Nat} {l : List Ent} (h : LentE lo M id l) {i : Nat} (hi : i < l.length) : ∃ B idp,M id = some B ∧ mkd B = false ∧ i * 5 + 5 ≤ B.length ∧ (B.drop (i * 5)).take 5 = entC l[i] (.osl idp 0 l[i].batch.length (l[i].batch.length + 2) 3) ∧ LentP M idp l[i].batch:=by
  obtain ⟨B,c,g1,g2,g3,g4,g5⟩:=h.raw (i:=i) (by omega)
  have e : ((l.map some ++ [none])[i]'(by simp; omega)) = some l[i]:=by
    rw [List.getElem_append_left (by simpa using hi),List.getElem_map]
  rw [e] at g5
  obtain ⟨idp,h1,h2⟩:=g5
  exact ⟨B,idp,g1,g2,g3,g4.trans h1,h2⟩
theorem LentE.last {lo : Nat} {M : Fz} {id : Nat} {l : List Ent} (h : LentE lo M id l) : ∃ B,M id = some B ∧ mkd B = false ∧ l.length * 5 + 5 ≤ B.length ∧ (B.drop (l.length * 5)).take 5 = [I 77777,I 0,I 0,I 0,.nsl]:=by
  obtain ⟨B,c,g1,g2,g3,g4,g5⟩:=h.raw (i:=l.length) (by omega)
  have e : ((l.map some ++ [none])[l.length]'(by simp)) = none:=by
    rw [List.getElem_append_right (by simp)]; simp
  rw [e] at g5
  exact ⟨B,g1,g2,g3,g4.trans g5⟩
variable {P : Program} (H : Fs P)
include H
end Go.Proofs.Ytnnjlnkoomeadaa.Pv
namespace Go.Proofs.Ytnnjlnkoomeadaa.Pv
open Go.Ev Go.Ev.Rp
set_option maxRecDepth 100000
set_option maxHeartbeats 4000000
set_option linter.unusedSimpArgs false
set_option linter.unusedVariables false
set_option linter.unusedSectionVars false
structure LndLg (l : Lg) : Prop where
  ents : l.ents.length ≤ 2513169434910
  bat : ∀ e ∈ l.ents,e.batch.length ≤ 4398046511102
structure LndSz (r : Rep) : Prop where
  log : LndLg r.log
  acks : r.acks.length ≤ 17592186044413
  starts : r.starts.length ≤ 17592186044413
  dos : r.dos.length ≤ 1954687338267
  dlog : ∀ d ∈ r.dos,LndLg d.log
theorem LentE.up {lo : Nat} {M M' : Fz} {id : Nat} {l : List Ent} (h : LentE lo M id l) (hs : ∀ j B,lo ≤ j → M j = some B → M' j = some B) : LentE lo M' id l :=
  Grow.mono (R:=EntL) EntL.mono h λj B g=>From.at (From.lt g) (hs j B (From.lt g) (From.sub _ _ g))
theorem LentE.mono {lo : Nat} {M M' : Fz} {id : Nat} {l : List Ent} (hs : Sub M M') (h : LentE lo M id l) : LentE lo M' id l:=h.up λj B _ g=>hs j B g
def DvL (M : Fz) (c : List SV) (d : Dv) : Prop:=∃ id lo,c = dvC d (.osl id 0 d.log.ents.length (d.log.ents.length + 1) 5) ∧ LentE lo M id d.log.ents
theorem DvL.mono {M M' : Fz} {c : List SV} {d : Dv} (hs : Sub M M') (h : DvL M c d) : DvL M' c d:=by
  obtain ⟨id,lo,h1,h2⟩:=h; exact ⟨id,lo,h1,h2.mono hs⟩
structure LentR (M : Fz) (r : Rep) (ide ida ids : Nat) (xd : SV) : Prop where
  ents : ∃ lo,LentE lo M ide r.log.ents
  acks : LentI M ida r.acks
  starts : LentI M ids r.starts
  dos : ∃ lo,Grow lo M 6 DvL xd r.dos
theorem LentR.mono {M M' : Fz} {r : Rep} {ide ida ids : Nat} {xd : SV} (hs : Sub M M') (h : LentR M r ide ida ids xd) : LentR M' r ide ida ids xd:=by
  obtain ⟨⟨lo,h1⟩,h2,h3,lo',h4⟩:=h
  exact ⟨⟨lo,h1.mono hs⟩,hs _ _ h2,hs _ _ h3,lo',Grow.mono (R:=DvL) DvL.mono h4 (From.mono hs)⟩
variable {P : Program} (H : Fs P)
include H
end Go.Proofs.Ytnnjlnkoomeadaa.Pv
namespace Go.Proofs.Ytnnjlnkoomeadaa.Pv
open Go.Ev Go.Ev.Rp
set_option maxRecDepth 100000
set_option maxHeartbeats 4000000
set_option linter.unusedSimpArgs false
set_option linter.unusedVariables false
set_option linter.unusedSectionVars false
theorem LentD.elem {lo : Nat} {M : Fz} {x : SV} {l : List Dv} (h : Grow lo M 6 DvL x l) {i : Nat} (hi : i < l.length) : ∃ id off cap B idl lo',x = .osl id off l.length cap 6 ∧ M id = some B ∧ mkd B = false ∧ off + i * 6 + 6 ≤ B.length ∧ (B.drop (off + i * 6)).take 6 = dvC l[i] (.osl idl 0 l[i].log.ents.length (l[i].log.ents.length + 1) 5) ∧ LentE lo' M idl l[i].log.ents:=by
  obtain ⟨cs,h1,h2⟩:=h
  have hl : cs.length = l.length:=h2.length
  obtain ⟨id',off,cap,B,g1,g2,g3,g4,g5⟩:=h1.to.elem (i:=i) (by omega)
  obtain ⟨idl,lo',e1,e2⟩:=h2.at (i:=i) (by omega) hi
  rw [hl] at g1
  exact ⟨id',off,cap,B,idl,lo',g1,From.sub _ _ g2,g3,g4,g5.trans e1,e2.mono (Ex.sub.trans From.sub)⟩
variable {P : Program} (H : Fs P)
include H
end Go.Proofs.Ytnnjlnkoomeadaa.Pv
namespace Go.Proofs.Ytnnjlnkoomeadaa.Pv
open Go.Ev Go.Ev.Rp
set_option maxRecDepth 100000
set_option maxHeartbeats 4000000
set_option linter.unusedSimpArgs false
set_option linter.unusedVariables false
set_option linter.unusedSectionVars false
variable {P : Program} (H : Fs P)
include H
end Go.Proofs.Ytnnjlnkoomeadaa.Pv
namespace Go.Proofs.Ytnnjlnkoomeadaa.Pv
open Go.Ev Go.Ev.Rp
set_option maxRecDepth 100000
set_option maxHeartbeats 4000000
set_option linter.unusedSimpArgs false
set_option linter.unusedVariables false
set_option linter.unusedSectionVars false
theorem rdC_eq (x : Rd) (xa xb xm : SV) : rdC x xa xb xm = [I x.round,I x.at',I x.client,xa,I x.msg.kind,I x.msg.frm,I x.msg.to,I x.msg.view,I x.msg.normal,I x.msg.at',I x.msg.commit,I x.msg.round,I x.msg.client,I x.msg.session,I x.msg.number,I x.msg.code,I x.msg.agg,I x.msg.until',x.msg.series.sv,xb,I x.msg.log.base,x.msg.log.snap.sv,xm,x.msg.text.sv]:=rfl
theorem blk_lt {M : Fz} {n : Nat} (hM : ∀ j B,M j = some B → j < n) {s : Nat} {x : SV} {es : List (List SV)} (h : SlX M s x es) {id : Nat} (hb : blk x = some id) : id < n:=by
  rcases h with ⟨h | h,_⟩ | ⟨j,rfl,h2,_⟩
  · subst h; cases hb
  · subst h; cases hb
  · cases hb; exact hM _ _ h2
variable {P : Program} (H : Fs P)
include H
theorem quorum_clone (x : Rd) (xa xb xm : SV) (ha : x.agreed.length ≤ 17592186044415) (hb : x.msg.batch.length ≤ 4398046511104) (hz : LgSz x.msg.log) : Ctr P n_quorum_clone [.ag (rdC x xa xb xm)] (λM=>IntsR M xa x.agreed ∧ MsgS M x.msg xb xm) (λn _ M v=>∃ xa' xb' xm' n1,v = .ag (rdC x xa' xb' xm') ∧ IntsX (From n M) xa' x.agreed ∧ (∀ id,blk xa' = some id → id < n1) ∧ n ≤ n1 ∧ PtsX (From n1 M) xb' x.msg.batch ∧ EntsX (From n1 M) xm' x.msg.log.ents):=Ctr.of H.mx H.quorum_clone (λ_=>0) λfz mu n k hfr s hk=>by
  obtain ⟨s1,s2,s3⟩:=s
  obtain ⟨xal,xas,xak,xam⟩:=s1.len
  obtain ⟨xbl,xbs,xbk,xbm⟩:=s2.len
  obtain ⟨xml,xms,xmk,xmm⟩:=s3.len
  have hC:=message_Clone H x.msg xb xm hb hz.ents hz.bat
  rw [i_quorum_clone,dc_at b_quorum_clone.eq_1,rdC_eq]
  have gA:=gr2 hfr (c:=[I x.round,I x.at',I x.client,xa,I x.msg.kind,I x.msg.frm,I x.msg.to,I x.msg.view,I x.msg.normal,I x.msg.at',I x.msg.commit,I x.msg.round,I x.msg.client,I x.msg.session,I x.msg.number,I x.msg.code,I x.msg.agg,I x.msg.until',x.msg.series.sv,xb,I x.msg.log.base,x.msg.log.snap.sv,xm,x.msg.text.sv]) (d:=[I 0,I 0,I 0,.nsl,I 0,I 0,I 0,I 0,I 0,I 0,I 0,I 0,I 0,I 0,I 0,I 0,I 0,I 0,.str 0 0,.nsl,I 0,.str 0 0,.nsl,.str 0 0])
  have b1 : Ev.look ((n + 1,[I 0,I 0,I 0,.nsl,I 0,I 0,I 0,I 0,I 0,I 0,I 0,I 0,I 0,I 0,I 0,I 0,I 0,I 0,.str 0 0,.nsl,I 0,.str 0 0,.nsl,.str 0 0]) :: (n,[I x.round,I x.at',I x.client,xa,I x.msg.kind,I x.msg.frm,I x.msg.to,I x.msg.view,I x.msg.normal,I x.msg.at',I x.msg.commit,I x.msg.round,I x.msg.client,I x.msg.session,I x.msg.number,I x.msg.code,I x.msg.agg,I x.msg.until',x.msg.series.sv,xb,I x.msg.log.base,x.msg.log.snap.sv,xm,x.msg.text.sv]) :: mu) n = some [I x.round,I x.at',I x.client,xa,I x.msg.kind,I x.msg.frm,I x.msg.to,I x.msg.view,I x.msg.normal,I x.msg.at',I x.msg.commit,I x.msg.round,I x.msg.client,I x.msg.session,I x.msg.number,I x.msg.code,I x.msg.agg,I x.msg.until',x.msg.series.sv,xb,I x.msg.log.base,x.msg.log.snap.sv,xm,x.msg.text.sv]:=by rw [look_c,if_neg (by omega),look_c,if_pos rfl]
  have b2 : Ev.look ((n + 1,[I 0,I 0,I 0,.nsl,I 0,I 0,I 0,I 0,I 0,I 0,I 0,I 0,I 0,I 0,I 0,I 0,I 0,I 0,.str 0 0,.nsl,I 0,.str 0 0,.nsl,.str 0 0]) :: (n,[I x.round,I x.at',I x.client,xa,I x.msg.kind,I x.msg.frm,I x.msg.to,I x.msg.view,I x.msg.normal,I x.msg.at',I x.msg.commit,I x.msg.round,I x.msg.client,I x.msg.session,I x.msg.number,I x.msg.code,I x.msg.agg,I x.msg.until',x.msg.series.sv,xb,I x.msg.log.base,x.msg.log.snap.sv,xm,x.msg.text.sv]) :: mu) (n + 1) = some [I 0,I 0,I 0,.nsl,I 0,I 0,I 0,I 0,I 0,I 0,I 0,I 0,I 0,I 0,I 0,I 0,I 0,I 0,.str 0 0,.nsl,I 0,.str 0 0,.nsl,.str 0 0]:=by rw [look_c,if_pos rfl]
  obtain ⟨m0,hm0⟩ : ∃ m : St,((n + 1,[I 0,I 0,I 0,.nsl,I 0,I 0,I 0,I 0,I 0,I 0,I 0,I 0,I 0,I 0,I 0,I 0,I 0,I 0,.str 0 0,.nsl,I 0,.str 0 0,.nsl,.str 0 0]) :: (n,[I x.round,I x.at',I x.client,xa,I x.msg.kind,I x.msg.frm,I x.msg.to,I x.msg.view,I x.msg.normal,I x.msg.at',I x.msg.commit,I x.msg.round,I x.msg.client,I x.msg.session,I x.msg.number,I x.msg.code,I x.msg.agg,I x.msg.until',x.msg.series.sv,xb,I x.msg.log.base,x.msg.log.snap.sv,xm,x.msg.text.sv]) :: mu) = m:=⟨_,rfl⟩
  rw [hm0] at gA b1 b2
  have w1:=look_with (fz:=fz) b1
  unfold msgC at hC
  simp only [↓E1,E2,zA,zB,zC,zD,zE,zF,zG,zH,zI,zJ,zK,zL,zM,zN,reduceIte,zO,zP, *]
  try rw [hm0]
  clear hm0
  refine (slices_Clone_ints H xa x.agreed ha).d4 gA.free (IntsR.mono (gA.sub hfr (Nat.le_refl _)) s1) ?_
  rintro v new1 n1 g1 i1 ⟨xa',rfl,hxa⟩
  have gB:=gA.trans (g1.weaken (by omega))
  obtain ⟨-,-,zak,zam⟩:=SlX.len hxa
  simp only [↓E1,E2,zA,zB,zC,zD,zE,zF,zG,zH,zI,zJ,zK,zL,zM,zN,reduceIte,zO,zP, *,List.append_assoc]
  refine hC.d4 gB.free ⟨PtsR.mono (gB.sub hfr (Nat.le_refl _)) s2,EntsR.mono (gB.sub hfr (Nat.le_refl _)) s3⟩ ?_
  rintro v new2 n2 g2 i2 ⟨xb',xm',rfl,hxb,hxm⟩
  have gC:=gB.trans (g2.weaken gB.le)
  obtain ⟨-,-,zbk,zbm⟩:=SlX.len hxb
  obtain ⟨-,-,zmk,zmm⟩:=hxm.choose_spec.1.len
  have hp : ∀ id,Ev.look (new1 ++ (new2 ++ m0)) id = Ev.look (new2 ++ (new1 ++ m0)) id:=λid=>look_swap (λh=>i1.apart i2 (.inl (Nat.le_refl _)) h)
  have gD:=gC.congr hp
  have hM:=with_fun (fz:=fz) hp
  have hlt : ∀ id,blk xa' = some id → id < n1:=λid hid=>blk_lt (λj B h=>gB.free.lt (From.sub _ _ h)) hxa hid
  have l1:=g1.le
  have l2:=g2.le
  have c1 : Ev.look (new1 ++ (new2 ++ m0)) n = some [I x.round,I x.at',I x.client,xa,I x.msg.kind,I x.msg.frm,I x.msg.to,I x.msg.view,I x.msg.normal,I x.msg.at',I x.msg.commit,I x.msg.round,I x.msg.client,I x.msg.session,I x.msg.number,I x.msg.code,I x.msg.agg,I x.msg.until',x.msg.series.sv,xb,I x.msg.log.base,x.msg.log.snap.sv,xm,x.msg.text.sv]:=by rw [hp,g2.own n (by omega),g1.own n (by omega)]; exact b1
  have c2 : Ev.look (new1 ++ (new2 ++ m0)) (n + 1) = some [I 0,I 0,I 0,.nsl,I 0,I 0,I 0,I 0,I 0,I 0,I 0,I 0,I 0,I 0,I 0,I 0,I 0,I 0,.str 0 0,.nsl,I 0,.str 0 0,.nsl,.str 0 0]:=by rw [hp,g2.own (n + 1) (by omega),g1.own (n + 1) (by omega)]; exact b2
  have d2:=SlX.mono hxa (From.mono (g2.sub gB.free (Nat.le_refl _)))
  rw [← hM] at hxb hxm d2
  clear b1 b2 w1 hxa gA gB gC g1 g2 i1 i2 hp hM hC
  simp only [↓E1,E2,zA,zB,zC,zD,zE,zF,zG,zH,zI,zJ,zK,zL,zM,zN,reduceIte,zO,zP, *,List.append_assoc]
  generalize new1 ++ (new2 ++ m0) = m1 at *
  simp only [↓E1,E2,zA,zB,zC,zD,zE,zF,zG,zH,zI,zJ,zK,zL,zM,zN,reduceIte,zO,zP, *,with_putI,look_putS,putS_putS,Option.isSome_some,Option.map_some]
  have e1:=gD.put (id:=n) (by omega) c1 (c:=[I x.round,I x.at',I x.client,xa',I x.msg.kind,I x.msg.frm,I x.msg.to,I x.msg.view,I x.msg.normal,I x.msg.at',I x.msg.commit,I x.msg.round,I x.msg.client,I x.msg.session,I x.msg.number,I x.msg.code,I x.msg.agg,I x.msg.until',x.msg.series.sv,xb',I x.msg.log.base,x.msg.log.snap.sv,xm',x.msg.text.sv])
  have e2:=e1.put (id:=n + 1) (by omega) (d:=[I 0,I 0,I 0,.nsl,I 0,I 0,I 0,I 0,I 0,I 0,I 0,I 0,I 0,I 0,I 0,I 0,I 0,I 0,.str 0 0,.nsl,I 0,.str 0 0,.nsl,.str 0 0]) (by rw [look_putS,if_neg (by omega)]; exact c2) (c:=[I x.round,I x.at',I x.client,xa',I x.msg.kind,I x.msg.frm,I x.msg.to,I x.msg.view,I x.msg.normal,I x.msg.at',I x.msg.commit,I x.msg.round,I x.msg.client,I x.msg.session,I x.msg.number,I x.msg.code,I x.msg.agg,I x.msg.until',x.msg.series.sv,xb',I x.msg.log.base,x.msg.log.snap.sv,xm',x.msg.text.sv])
  have q2 : Ev.look (putS m1 n (rdC x xa' xb' xm')) (n + 1) = some [I 0,I 0,I 0,.nsl,I 0,I 0,I 0,I 0,I 0,I 0,I 0,I 0,I 0,I 0,I 0,I 0,I 0,I 0,.str 0 0,.nsl,I 0,.str 0 0,.nsl,.str 0 0]:=by rw [look_putS,if_neg (by omega)]; exact c2
  have f2 : Sub (From n1 (with' m1 fz)) (From n1 (with' (putS (putS m1 n (rdC x xa' xb' xm')) (n + 1) (rdC x xa' xb' xm')) fz)):=(From.put (by omega) c1).trans (From.put (by omega) q2)
  have f1 : Sub (From (n + 1 + 1) (with' m1 fz)) (From n (with' (putS (putS m1 n (rdC x xa' xb' xm')) (n + 1) (rdC x xa' xb' xm')) fz)):=((From.put (by omega) c1).trans (From.put (by omega) q2)).trans (From.le (by omega))
  exact hk _ _ _ e2 ⟨xa',xb',xm',n1,rfl,SlX.mono d2 f1,hlt,by omega,PtsX.mono f2 hxb,EntsX.mono f2 hxm⟩
end Go.Proofs.Ytnnjlnkoomeadaa.Pv
namespace Go.Ev.Rp
def putStep (x : Int) (s : Bool × List Int) (y : Int) : Bool × List Int :=
  let t:=if s.1 = false ∧ x ≤ y then (true,s.2 ++ [x]) else s
  (t.1,if y = x then t.2 else t.2 ++ [y])
def putF (xs : List Int) (x : Int) : Bool × List Int:=xs.foldl (putStep x) (false,[])
def putL (xs : List Int) (x : Int) : List Int:=if (putF xs x).1 then (putF xs x).2 else (putF xs x).2 ++ [x]
theorem put_true {x : Int} : ∀ (l o : List Int),(∀ y ∈ l,y ≠ x) → l.foldl (putStep x) (true,o) = (true,o ++ l)
  | [],o,_=>by simp
  | y :: l,o,h=>by
    have hy:=h y (by simp)
    rw [List.foldl_cons]
    have : putStep x (true,o) y = (true,o ++ [y]):=by simp [putStep,hy]
    rw [this,put_true l _ (λz hz=>h z (by simp [hz]))]
    simp
theorem put_lt {x : Int} : ∀ (l o : List Int),(∀ y ∈ l,y < x) → l.foldl (putStep x) (false,o) = (false,o ++ l)
  | [],o,_=>by simp
  | y :: l,o,h=>by
    have hy:=h y (by simp)
    rw [List.foldl_cons]
    have : putStep x (false,o) y = (false,o ++ [y]):=by
      simp [putStep,show ¬ x ≤ y by omega,show ¬ y = x by omega]
    rw [this,put_lt l _ (λz hz=>h z (by simp [hz]))]
    simp
theorem put_at {xs : List Int} {x : Int} {i : Nat} (hr : xs.Pairwise (· < ·)) (hi : i ≤ xs.length) (h1 : ∀ j (h : j < xs.length), j < i → xs[j] < x) (h2 : ∀ j (h : j < xs.length), i ≤ j → x ≤ xs[j]) :
    putL xs x = if h : i < xs.length then (if xs[i] = x then xs else xs.take i ++ x :: xs.drop i) else xs ++ [x]:=by
  have a1 : ∀ y ∈ xs.take i,y < x:=λy hy=>by
    obtain ⟨j,hj,rfl⟩:=List.getElem_of_mem hy
    simp at hj
    rw [List.getElem_take]
    exact h1 j (by omega) (by omega)
  have e1 : putF xs x = (xs.drop i).foldl (putStep x) (false,xs.take i):=by
    unfold putF
    conv=>lhs; rw [← List.take_append_drop i xs,List.foldl_append]
    rw [put_lt _ _ a1]; simp
  by_cases hlt : i < xs.length
  · rw [dif_pos hlt]
    have hd : xs.drop i = xs[i] :: xs.drop (i + 1):=List.drop_eq_getElem_cons hlt
    have hx:=h2 i hlt (Nat.le_refl _)
    have hgt : ∀ y ∈ xs.drop (i + 1),xs[i] < y:=λy hy=>by
      obtain ⟨j,hj,rfl⟩:=List.getElem_of_mem hy
      simp at hj
      rw [List.getElem_drop]
      exact List.pairwise_iff_getElem.1 hr i (i + 1 + j) hlt (by omega) (by omega)
    have hne : ∀ y ∈ xs.drop (i + 1),y ≠ x:=λy hy=>by have:=hgt y hy; omega
    rw [hd,List.foldl_cons] at e1
    have hst : putStep x (false,xs.take i) xs[i] = (true,if xs[i] = x then xs.take i ++ [x] else xs.take i ++ [x] ++ [xs[i]]):=by
      simp [putStep,hx]
    rw [hst,put_true _ _ hne] at e1
    unfold putL
    rw [e1]
    simp only [if_true]
    by_cases he : xs[i] = x
    · rw [if_pos he,if_pos he]
      conv=>rhs; rw [← List.take_append_drop i xs,hd,he]
      simp
    · rw [if_neg he,if_neg he,hd]; simp
  · rw [dif_neg hlt]
    have : xs.drop i = []:=List.drop_eq_nil_of_le (by omega)
    rw [this] at e1
    unfold putL
    rw [e1]
    simp [List.take_of_length_le (show xs.length ≤ i by omega)]
end Go.Ev.Rp
namespace Go.Proofs.Ytnnjlnkoomeadaa.Pv
open Go.Ev Go.Ev.Rp
set_option maxRecDepth 100000
set_option maxHeartbeats 4000000
set_option linter.unusedSimpArgs false
set_option linter.unusedVariables false
set_option linter.unusedSectionVars false
theorem fdiv_two {a : Int} : a.fdiv (2 ^ min 1 IntKind.u64.bits) = a / 2:=by
  have : min 1 IntKind.u64.bits = 1:=by decide
  rw [this,Int.fdiv_eq_ediv_of_nonneg _ (by decide)]; rfl
theorem wrapU {x : Int} (h1 : 0 ≤ x) (h2 : x < 18446744073709551616) : IntKind.u64.wrap x = x:=by
  simp [IntKind.wrap,IntKind.bits,IntKind.signed]; omega
structure At (l : List Int) (t : Int) (i : Nat) (b : Bool) : Prop where
  le : i ≤ l.length
  lt : ∀ j (h : j < l.length),j < i → l[j] < t
  ge : ∀ j (h : j < l.length),i ≤ j → t ≤ l[j]
  is : b = decide (∃ h : i < l.length,l[i] = t)
variable {P : Program} (H : Fs P)
include H
theorem cmp_isNaN_int (a : Int) : BoolC P n_cmp_isNaN_int [.one (I a)] (λ_=>True) false:=boolC H.mx H.cmp_isNaN_int 0 λfz mu n k hfr g0 hx h=>by
  rw [i_cmp_isNaN_int,dc_at b_cmp_isNaN_int.eq_1]
  simp only [↓E1,E2,zA,zB,zC,zD,zE,zF,zG,zH,zI,zJ,zK,zL,zM,zN,reduceIte,zO,zP, *]
  try exact h _ _ g0
theorem slices_isNaN_int (a : Int) : BoolC P n_slices_isNaN_int [.one (I a)] (λ_=>True) false:=boolC H.mx H.slices_isNaN_int 0 λfz mu n k hfr g0 hx h=>by
  rw [i_slices_isNaN_int,dc_at b_slices_isNaN_int.eq_1]
  simp only [↓E1,E2,zA,zB,zC,zD,zE,zF,zG,zH,zI,zJ,zK,zL,zM,zN,reduceIte,zO,zP, *]
  try exact h _ _ g0
theorem cmp_Less_int (a b : Int) : BoolC P n_cmp_Less_int [.one (I a),.one (I b)] (λ_=>True) (decide (a < b)):=boolC H.mx H.cmp_Less_int 0 λfz mu n k hfr g0 hx h=>by
  rw [i_cmp_Less_int,dc_at b_cmp_Less_int.eq_1]
  simp only [↓E1,E2,zA,zB,zC,zD,zE,zF,zG,zH,zI,zJ,zK,zL,zM,zN,reduceIte,zO,zP, *]
  refine (cmp_isNaN_int H a).c1 hfr trivial ?_
  rintro v mu2 n2 g2 rfl
  simp only [↓E1,E2,zA,zB,zC,zD,zE,zF,zG,zH,zI,zJ,zK,zL,zM,zN,reduceIte,zO,zP, *]
  try exact h _ _ g2
theorem slices_BinarySearch_int_int (x : SV) (l : List Int) (t : Int) (hr : l.Pairwise (· < ·)) (hl : l.length ≤ 4611686018427387904) : Ctr P n_slices_BinarySearch_int_int [.one x,.one (I t)] (λM=>IntsR M x l) (λn _ M v=>∃ i b,v = .tp [.one (.int .i64 (i : Nat)),.one (.bool b)] ∧ At l t i b):=Ctr.of H.mx H.slices_BinarySearch_int_int (λ_=>l.length + 1) λfz mu n k hfr s1 hk=>by
  obtain ⟨xl,xs,xk,xm⟩:=s1.len
  rw [i_slices_BinarySearch_int_int,dc_at b_slices_BinarySearch_int_int.eq_1]
  have loop : ∀ m i j fu (e : Env) mu1 n1 (K : LK) w, m = j - i → m < fu → i ≤ j → j ≤ l.length → (∀ k (h : k < l.length), k < i → l[k] < t) → (∀ k (h : k < l.length), j ≤ k → t ≤ l[k]) → Gr n fz mu mu1 n n1 → e 0 0 = .one x → e 0 1 = .one (I t) → e 0 6 = .one (.int .i64 l.length) → e 0 7 = .one (.int .i64 i) → e 0 8 = .one (.int .i64 j) →
      (∀ i (e' : Env) mu' n',i ≤ l.length → (∀ k (h : k < l.length),k < i → l[k] < t) → (∀ k (h : k < l.length),i ≤ k → t ≤ l[k]) → Gr n fz mu mu' n n' → e' 0 0 = .one x → e' 0 1 = .one (I t) → e' 0 6 = .one (.int .i64 l.length) → e' 0 7 = .one (.int .i64 i) → K (.exit 0) (tmE 54 e') mu' n') →
      Lp (dcode pOrc False (CP P) fz (l.length + 1) l_slices_BinarySearch_int_int_0) fu (tmE 54 e) mu1 n1 K w:=by
    intro m
    induction m using Nat.strongRecOn with
    | ind m ih =>
    intro i j fu e mu1 n1 K w hm hfu hij hjl hlt hge g1 h0 h1 h6 h7 h8 hK
    obtain ⟨fu,rfl⟩ : ∃ f,fu = f + 1:=⟨fu - 1,by omega⟩
    rw [Lp_step,dc_at l_slices_BinarySearch_int_int_0.eq_1]
    by_cases hlj : i < j
    · have hw1 : IntKind.i64.wrap ((i : Int) + j) = (i : Int) + j:=wrap64 (by omega) (by omega)
      have hw2 : IntKind.u64.wrap ((i : Int) + j) = (i : Int) + j:=wrapU (by omega) (by omega)
      obtain ⟨h,hh⟩ : ∃ h,(i + j) / 2 = h:=⟨_,rfl⟩
      have hw3 : IntKind.i64.wrap (((i : Int) + j) / 2) = (h : Int):=by rw [wrap64 (by omega) (by omega)]; omega
      have hhl : h < l.length:=by omega
      have hw4:=wrap_succ hhl hl
      have hij' : ((i : Int) < j) = True:=by simp; omega
      have hpw : ∀ k (hk : k < l.length),k < h → l[k] < l[h]:=λk hk h3=>List.pairwise_iff_getElem.1 hr k h hk hhl h3
      have hpw2 : ∀ k (hk : k < l.length),h < k → l[h] < l[k]:=λk hk h3=>List.pairwise_iff_getElem.1 hr h k hhl hk h3
      obtain ⟨id,off,cap,B,rfl,hB,hmk,hbd,hsub⟩:=(IntsR.mono (λ_ _ hh=>g1.old hfr hh) s1).elem hhl
      simp only [↓E1,E2,zA,zB,zC,zD,zE,zF,zG,zH,zI,zJ,zK,zL,zM,zN,reduceIte,zO,zP,fdiv_two,h0,h1,h6,h7,h8,hw1,hw2,hw3,hij',hB,hmk,hbd,hsub,hhl]
      have hnb : (decide ((h : Int) < 0)) = false:=by simp
      simp only [↓E1,E2,zA,zB,zC,zD,zE,zF,zG,zH,zI,zJ,zK,zL,zM,zN,reduceIte,zO,zP,Int.toNat_natCast,hnb,hB,hmk,hbd,hsub,hhl]
      refine (cmp_Less_int H l[h] t).c1 g1.free trivial ?_
      rintro v mu2 n2 g2 rfl
      have g3:=g1.trans (g2.weaken g1.le)
      simp only [↓E1,E2,zA,zB,zC,zD,zE,zF,zG,zH,zI,zJ,zK,zL,zM,zN,reduceIte,zO,zP,updN,updE,h0,h1,h6,h7,h8]
      refine Br_intro (λhb=>?_) (λhb=>?_)
      · simp only [↓E1,E2,zA,zB,zC,zD,zE,zF,zG,zH,zI,zJ,zK,zL,zM,zN,reduceIte,zO,zP,updN,updE,h0,h1,h6,h7,h8,hw4]
        simp only [decide_eq_true_eq] at hb
        refine ih (j - (h + 1)) (by omega) (h + 1) j fu _ _ _ _ _ rfl (by omega) (by omega) hjl (λk hk hkh=>?_) hge g3 (by simp [updN,updE,h0,h1,h6,h7,h8]) (by simp [updN,updE,h0,h1,h6,h7,h8]) (by simp [updN,updE,h0,h1,h6,h7,h8]) (by simp [updN,updE,h0,h1,h6,h7,h8]) (by simp [updN,updE,h0,h1,h6,h7,h8]) hK
        rcases Nat.lt_or_ge k h with h3 | h3
        · have:=hpw k hk h3; omega
        · have : k = h:=by omega
          subst this; exact hb
      · simp only [↓E1,E2,zA,zB,zC,zD,zE,zF,zG,zH,zI,zJ,zK,zL,zM,zN,reduceIte,zO,zP,updN,updE,h0,h1,h6,h7,h8]
        simp only [decide_eq_false_iff_not] at hb
        refine ih (h - i) (by omega) i h fu _ _ _ _ _ rfl (by omega) (by omega) (by omega) hlt (λk hk hkh=>?_) g3 (by simp [updN,updE,h0,h1,h6,h7,h8]) (by simp [updN,updE,h0,h1,h6,h7,h8]) (by simp [updN,updE,h0,h1,h6,h7,h8]) (by simp [updN,updE,h0,h1,h6,h7,h8]) (by simp [updN,updE,h0,h1,h6,h7,h8]) hK
        rcases Nat.lt_or_ge h k with h3 | h3
        · have:=hpw2 k hk h3; omega
        · have : k = h:=by omega
          subst this; omega
    · have : i = j:=by omega
      subst this
      have hij' : ((i : Int) < i) = False:=by simp
      simp only [↓E1,E2,zA,zB,zC,zD,zE,zF,zG,zH,zI,zJ,zK,zL,zM,zN,reduceIte,zO,zP,h0,h1,h6,h7,h8,hij']
      exact hK i _ _ _ hjl hlt hge g1 (by simp [updN,updE, *]) (by simp [updN,updE, *]) (by simp [updN,updE, *]) (by simp [updN,updE, *])
  simp only [↓E1,E2,zA,zB,zC,zD,zE,zF,zG,zH,zI,zJ,zK,zL,zM,zN,reduceIte,zO,zP, *]
  refine loop l.length 0 l.length (l.length + 1) _ _ _ _ _ (by omega) (by omega) (by omega) (Nat.le_refl _) (λk hk h=>by omega) (λk hk h=>by omega) (Gr.refl hfr) (by simp [updN,updE,envI]) (by simp [updN,updE,envI]) (by simp [updN,updE,envI]) (by simp [updN,updE,envI]) (by simp [updN,updE,envI]) ?_
  clear loop
  intro i e' mu' n' hi hlt hge g h0 h1 h6 h7
  simp only [↓E1,E2,zA,zB,zC,zD,zE,zF,zG,zH,zI,zJ,zK,zL,zM,zN,reduceIte,zO,zP,h0,h1,h6,h7]
  by_cases hil : i < l.length
  · obtain ⟨id,off,cap,B,rfl,hB,hmk,hbd,hsub⟩:=(IntsR.mono (λ_ _ hh=>g.old hfr hh) s1).elem hil
    simp only [↓E1,E2,zA,zB,zC,zD,zE,zF,zG,zH,zI,zJ,zK,zL,zM,zN,reduceIte,zO,zP, *]
    refine Br_intro (λhb=>?_) (λhb=>?_)
    · have hb' : l[i] = t:=of_decide_eq_true hb
      clear hb
      have hd : decide (l[i] = t) = true:=by simp [hb']
      simp only [↓E1,E2,zA,zB,zC,zD,zE,zF,zG,zH,zI,zJ,zK,zL,zM,zN,reduceIte,zO,zP,h0,h1,h6,h7,hB,hmk,hbd,hsub,hil,hd,updN,updE]
      exact hk _ _ _ g ⟨i,true,rfl,⟨hi,hlt,hge,by simp; exact ⟨hil,hb'⟩⟩⟩
    · have hb' : ¬ l[i] = t:=of_decide_eq_false hb
      clear hb
      have hd : decide (l[i] = t) = false:=by simp [hb']
      simp only [↓E1,E2,zA,zB,zC,zD,zE,zF,zG,zH,zI,zJ,zK,zL,zM,zN,reduceIte,zO,zP,h0,h1,h6,h7,hB,hmk,hbd,hsub,hil,hd,updN,updE]
      refine (slices_isNaN_int H l[i]).c1 g.free trivial ?_
      rintro v mu2 n2 g2 rfl
      simp only [↓E1,E2,zA,zB,zC,zD,zE,zF,zG,zH,zI,zJ,zK,zL,zM,zN,reduceIte,zO,zP,h0,h1,h6,h7,hB,hmk,hbd,hsub,hil,hd,updN,updE]
      exact hk _ _ _ (g.trans (g2.weaken g.le)) ⟨i,false,rfl,⟨hi,hlt,hge,by simp; exact λ_=>hb'⟩⟩
  · simp only [↓E1,E2,zA,zB,zC,zD,zE,zF,zG,zH,zI,zJ,zK,zL,zM,zN,reduceIte,zO,zP, *]
    exact hk _ _ _ g ⟨i,false,rfl,⟨hi,hlt,hge,by simp; exact λh=>absurd h hil⟩⟩
end Go.Proofs.Ytnnjlnkoomeadaa.Pv
namespace Go.Ev
open Go.Shelf Go.Proofs
section
variable {val : Nat → Int} {fz : Fz} {mu : St} {n : Nat}
theorem setCells_heap {b : Nat} {ty : TypeId} {fr : Nat × Nat} : ∀ (vs : List Value) (o : Nat) (w : World) (C : Array Value), w.heap[b]? = some (.cells C ty fr) → o + vs.length ≤ C.size →
    ∃ D : Array Value,(w.setCells b o vs).heap[b]? = some (.cells D ty fr) ∧ D.size = C.size ∧ ∀ j : Nat,D[j]? = if o ≤ j ∧ j < o + vs.length then vs[j - o]? else C[j]?
  | [],o,w,C,h,_=>⟨C,h,rfl,λj=>by simp; omega⟩
  | v :: r,o,w,C,h,hl=>by
    have h1 : (w.setCell ⟨b,o,none⟩ v).heap[b]? = some (.cells (C.setIfInBounds o v) ty fr):=by
      simp only [World.setCell,Array.getElem?_modify,if_true,h]; simp
    obtain ⟨D,d1,d2,d3⟩:=setCells_heap r (o + 1) _ _ h1 (by simp at hl ⊢; omega)
    refine ⟨D,d1,by rw [d2]; simp,λj=>?_⟩
    rw [d3]
    simp at hl
    by_cases e : j = o
    · subst e
      simp [show ¬ (j + 1 ≤ j ∧ j < j + 1 + r.length) by omega,Array.getElem?_setIfInBounds,show j < C.size by omega]
    · have e' : ¬ o = j:=λx=>e x.symm
      by_cases a1 : o + 1 ≤ j ∧ j < o + 1 + r.length
      · simp only [a1,and_self,if_true,List.length_cons,show o ≤ j ∧ j < o + (r.length + 1) by omega]
        rw [show j - o = (j - (o + 1)) + 1 by omega,List.getElem?_cons_succ]
      · simp only [a1,if_false,List.length_cons,show ¬ (o ≤ j ∧ j < o + (r.length + 1)) by omega,Array.getElem?_setIfInBounds,e']
theorem setCells_other {b b' : Nat} (h : b' ≠ b) : ∀ (vs : List Value) (o : Nat) (w : World),(w.setCells b o vs).heap[b']? = w.heap[b']?
  | [],_,_=>rfl
  | v :: r,o,w=>by
    have:=setCells_other h r (o + 1) (w.setCell ⟨b,o,none⟩ v)
    show ((w.setCell ⟨b,o,none⟩ v).setCells b (o + 1) r).heap[b']? = _
    rw [this]
    simp only [World.setCell,Array.getElem?_modify]
    rw [if_neg (λe=>h e.symm)]
theorem setCells_rest {b : Nat} : ∀ (vs : List Value) (o : Nat) (w : World),(w.setCells b o vs).os = w.os ∧ (w.setCells b o vs).tape = w.tape ∧ (w.setCells b o vs).output = w.output ∧ (w.setCells b o vs).heap.size = w.heap.size
  | [],_,_=>⟨rfl,rfl,rfl,rfl⟩
  | v :: r,o,w=>by
    obtain ⟨a,b',c,d⟩:=setCells_rest r (o + 1) (w.setCell ⟨b,o,none⟩ v)
    exact ⟨a,b',c,d.trans (by simp [World.setCell])⟩
theorem turn_block {ρ : Rho} {w w' : World} (hr : Rel val ρ fz mu w) {id : Nat} {known cs : List SV} {off : Nat} {p : Nat × Nat} {C D : Array Value} {ty : TypeId} {fr : Nat × Nat} (hfo : FrOk fr C.size) (hl : look mu id = some known) (hn : ρ n = none) (hp : ρ id = some p)
    (hC : w.heap[p.1]? = some (.cells C ty fr)) (hD : w'.heap[p.1]? = some (.cells D ty fr)) (hs : D.size = C.size) (hother : ∀ b,b ≠ p.1 → w'.heap[b]? = w.heap[b]?) (ho : w'.os = w.os) (ht : w'.tape = w.tape) (hou : w'.output = w.output) (hhs : w'.heap.size = w.heap.size)
    (hfit : p.2 + off + cs.length ≤ D.size) (hv : ∀ (i : Nat) s,cs[i]? = some s → ∃ v,D[p.2 + off + i]? = some v ∧ VR val ρ w s v) :
    Ext ρ (upd ρ n (p.1,p.2 + off)) n (n + 1) ∧ Rel val (upd ρ n (p.1,p.2 + off)) fz ((n,cs) :: killS mu id) w' ∧ Fr ρ mu w w' ∧
      NewB ρ (upd ρ n (p.1,p.2 + off)) mu ((n,cs) :: killS mu id) w ∧ NewI mu ((n,cs) :: killS mu id) n (n + 1) ∧ (∀ b,bsize w' b = bsize w b):=by
  have hbs : ∀ b,bsize w' b = bsize w b:=λb=>by
    unfold bsize
    by_cases e : b = p.1
    · subst e; rw [hC,hD]; exact hs
    · rw [hother b e]
  have hbs' : ∀ b,bsize w b ≤ bsize w' b:=λb=>Nat.le_of_eq (hbs b).symm
  have hup:=λid q hq=>upd_old (p:=(p.1,p.2 + off)) hn id q hq
  have hfn : fz n = none:=by
    cases e : fz n with
    | none=>rfl
    | some c=>obtain ⟨p,o,h1,_⟩:=(hr.rf n c e).at; rw [hn] at h1; cases h1
  have keepOwn : ∀ id' c,id' ≠ id → ((look mu id').isSome ∨ (fz id').isSome) → OwnG val ρ w id' c → OwnG val (upd ρ n (p.1,p.2 + off)) w' id' c:=by
    intro id' c hne hlv hown
    refine hown.mono hup hbs' λq hq=>hother _ λe=>hne ?_
    exact (hr.dj id id' p q (by simp [hl]) hlv hp hq e.symm).symm
  have keepF : ∀ id' c,id' ≠ id → ((look mu id').isSome ∨ (fz id').isSome) → OwnF val ρ w id' c → OwnF val (upd ρ n (p.1,p.2 + off)) w' id' c:=by
    intro id' c hne hlv hown
    refine hown.mono hup hbs' λq hq=>hother _ λe=>hne ?_
    exact (hr.dj id id' p q (by simp [hl]) hlv hp hq e.symm).symm
  have hlk : ∀ id' c,look ((n,cs) :: killS mu id) id' = some c → id' = n ∧ c = cs ∨ id' ≠ n ∧ id' ≠ id ∧ look mu id' = some c:=by
    intro id' c h
    rw [look_cons] at h
    by_cases e : n = id'
    · simp only [e,if_true,Option.some.injEq] at h; exact .inl ⟨e.symm,h.symm⟩
    · simp only [e,if_false,look_killS] at h
      split at h
      · cases h
      · rename_i e2; exact .inr ⟨λx=>e x.symm,λx=>e2 x.symm,h⟩
  refine ⟨upd_ext hn,⟨λid' c h=>?_,λid' c h=>?_,λid' c h=>?_,λa b q q' ha hb hq hq' he=>?_⟩,
    ⟨ho,ht,hou,Nat.le_of_eq hhs.symm,λb _ hb=>hother b λe=>hb id p (by simp [hl]) hp e.symm,hbs'⟩,λa q ha hq=>?_,λa ha=>?_,hbs⟩
  · refine keepF id' c (λe=>?_) (.inr (by simp [h])) (hr.rf id' c h)
    subst e; have:=hr.dm id' known hl; rw [this] at h; cases h
  · rcases hlk id' c h with ⟨rfl,rfl⟩ | ⟨e1,e2,e3⟩
    · refine .inl ⟨(p.1,p.2 + off),D,ty,fr,upd_same _ _ _,hD,by rw [hs]; exact hfo,hfit,λi s hi=>?_⟩
      obtain ⟨v,e,r⟩:=hv i s hi
      exact ⟨v,e,r.mono hup hbs'⟩
    · exact keepOwn id' c e2 (.inl (by simp [e3])) (hr.rm id' c e3)
  · rcases hlk id' c h with ⟨rfl,rfl⟩ | ⟨e1,e2,e3⟩
    · exact hfn
    · exact hr.dm id' c e3
  · have key : ∀ a q, ((look ((n, cs) :: killS mu id) a).isSome ∨ (fz a).isSome) → upd ρ n (p.1, p.2 + off) a = some q → a = n ∧ q.1 = p.1 ∨ a ≠ n ∧ a ≠ id ∧ ρ a = some q ∧ ((look mu a).isSome ∨ (fz a).isSome) := by
      intro a q h hq
      by_cases e : a = n
      · left; subst e; rw [upd_same] at hq; cases hq; exact ⟨rfl,rfl⟩
      · right
        have hq2 : ρ a = some q:=by simpa [upd,e] using hq
        rcases h with h | h
        · obtain ⟨c,hc⟩:=Option.isSome_iff_exists.1 h
          rcases hlk a c hc with ⟨x,_⟩ | ⟨_,x2,x3⟩
          · exact (e x).elim
          · exact ⟨e,x2,hq2,.inl (by simp [x3])⟩
        · refine ⟨e,λx=>?_,hq2,.inr h⟩
          subst x; have:=hr.dm a known hl; rw [this] at h; cases h
    rcases key a q (.inl ha) hq with ⟨x1,x2⟩ | ⟨x1,x2,x3,x4⟩
    · rcases key b q' hb hq' with ⟨y1,y2⟩ | ⟨y1,y2,y3,y4⟩
      · rw [x1,y1]
      · exact (y2 (hr.dj id b p q' (by simp [hl]) y4 hp y3 (by omega)).symm).elim
    · rcases key b q' hb hq' with ⟨y1,y2⟩ | ⟨y1,y2,y3,y4⟩
      · have x4' : (look mu a).isSome := by
          obtain ⟨c,hc⟩:=Option.isSome_iff_exists.1 ha
          rcases hlk a c hc with ⟨z1,_⟩ | ⟨_,_,z3⟩
          · exact (x1 z1).elim
          · simp [z3]
        exact (x2 (hr.dj id a p q (by simp [hl]) (.inl x4') hp x3 (by omega)).symm).elim
      · have x4' : (look mu a).isSome := by
          obtain ⟨c,hc⟩:=Option.isSome_iff_exists.1 ha
          rcases hlk a c hc with ⟨z1,_⟩ | ⟨_,_,z3⟩
          · exact (x1 z1).elim
          · simp [z3]
        exact hr.dj a b q q' x4' y4 x3 y3 he
  · obtain ⟨c,hc⟩:=Option.isSome_iff_exists.1 ha
    rcases hlk a c hc with ⟨z1,_⟩ | ⟨z1,_,z3⟩
    · subst z1; rw [upd_same] at hq; cases hq; exact .inr ⟨id,p,by simp [hl],hp,rfl⟩
    · exact .inr ⟨a,q,by simp [z3],by simpa [upd,z1] using hq,rfl⟩
  · obtain ⟨c,hc⟩:=Option.isSome_iff_exists.1 ha
    rcases hlk a c hc with ⟨z1,_⟩ | ⟨z1,_,z3⟩
    · subst z1; exact .inr ⟨Nat.le_refl _,Nat.lt_succ_self _⟩
    · exact .inl (by simp [z3])
end
end Go.Ev
namespace Go.Ev
open Go.Shelf Go.Proofs
section
variable {R : Type} {T : R → Prop} {z : R} {P : Program} {val : Nat → Int}
noncomputable def insAt (z : R) (src : List SV) (m vid : Nat) (x : SV) (i : Int) (mu : St) (n : Nat) (k : AV → St → Nat → R) : R :=
  match x with
  | .nsl=>cond (eqI i 0 && Nat.ble m 17592186044416) (fN (Nat.succ n) λn'=>k (.one (.osl n 0 m m 1)) ((n,src) :: mu) n') z
  | .esl=>cond (eqI i 0 && Nat.ble m 17592186044416) (fN (Nat.succ n) λn'=>k (.one (.osl n 0 m m 1)) ((n,src) :: mu) n') z
  | .osl id off len _ s => cond (Nat.beq s 1 && not (ltI i 0) && Nat.ble i.toNat len && not (Nat.beq id vid) && Nat.ble (Nat.add len m) 17592186044416)
      (onLook mu id z λknown=>cond (Nat.beq known.length (Nat.add off len) && knownAll known)
        (copyK ((known.drop off).take i.toNat ++ src ++ (known.drop off).drop i.toNat) λcs=>killK mu id λmu=>fN (Nat.add len m) λl=>fN (Nat.succ n) λn'=>k (.one (.osl n 0 l l 1)) ((n,cs) :: mu) n') z) z
  | _=>z
noncomputable def insK (z : R) : Contract R:=λargs fz mu n k =>
  match args with
  | [.one x,.one (.int .i64 i),.one (.osl vid voff m _ vs)]=>cond (Nat.blt 0 m && Nat.beq vs 1) (onLook mu vid z λvc=>subK vc voff m z λsrc=>cond (knownAll src) (insAt z src m vid x i mu n k) z) z
  | _=>z
theorem knownAll_sub {l : List SV} (h : knownAll l = true) (a b : Nat) : knownAll ((l.drop a).take b) = true:=by
  rw [knownAll_iff] at *
  intro s hs
  exact h s (List.mem_of_mem_drop (List.mem_of_mem_take hs))
theorem frozen_at (hs : s2bOk = false) {w : World} {b : Nat} {C : Array Value} {ty : TypeId} {fr : Nat × Nat} (hf : FrOk fr C.size) (h : w.heap[b]? = some (.cells C ty fr)) (o : Nat) : w.frozen? ⟨b,o,none⟩ = false:=by
  simp only [World.frozen?,h]
  exact hf.all hs o
theorem shape_at {w : World} {b : Nat} {C : Array Value} {ty : TypeId} {fr : Nat × Nat} (h : w.heap[b]? = some (.cells C ty fr)) : w.shape? b = some (ty,C.size):=by
  simp [World.shape?,h]
theorem cell_at {w : World} {b : Nat} {C : Array Value} {ty : TypeId} {fr : Nat × Nat} (h : w.heap[b]? = some (.cells C ty fr)) (o : Nat) : w.cell? ⟨b,o,none⟩ = C[o]?:=by
  simp [World.cell?,h]
theorem calls_post {f : Nat} {xs : Array Value} {w : World} {S S' : Ending → World → Prop} (h : Calls P f xs w S) (hs : ∀ e w',S e w' → S' e w') : Calls P f xs w S':=h.mono hs
theorem insK_ok (hs2b : s2bOk = false) (hz : ¬ T z) {ren : Ren} (L : Lays2.n21 P ren) (hb : hasBody P (ren.f 21) = true) : ContractOk T P val (ren.f 21) (insK z):=by
  intro args fz mu n k h
  unfold insK at h
  split at h
  case h_2=>exact (hz h).elim
  case h_1 x i vid voff m vcap vs =>
  obtain ⟨h1,h2⟩:=cond_elim hz h
  simp only [Bool.and_eq_true,Nat.blt_eq] at h1
  obtain ⟨hm,hvs⟩:=h1
  have hvs':=beq_yes hvs
  subst hvs'
  obtain ⟨vc,h3,hvm,h4⟩:=onLook_elim hz h2
  obtain ⟨h5,h6⟩:=subK_elim hz h4
  obtain ⟨hks,h7⟩:=cond_elim hz h6
  generalize hsrc : (vc.drop voff).take m = src at h7 hks
  have hsl : src.length = m:=by rw [← hsrc]; simp; omega
  have hfzV : (look mu vid).isSome ∨ (fz vid).isSome:=.inl (by simp [h3])
  -- the values to be laid in
  have V : ∀ ρ w (xs : Value),Rel val ρ fz mu w → VR val ρ w (.osl vid voff m vcap 1) xs → ∃ q c C ty fr,∃ news : List Value,ρ vid = some q ∧ xs = .slice (some ⟨q.1,q.2 + voff,none⟩) m c ∧ (w.heap[q.1]? = some (.cells C ty fr) ∧ FrOk fr C.size) ∧ news.length = m ∧ All2 (VR val ρ w) src news ∧ (∀ j v,news[j]? = some v → w.cell? ⟨q.1,q.2 + voff + j,none⟩ = some v):=by
    intro ρ w xs hr hv
    obtain ⟨q,c,hq,hx,_⟩:=hv
    have ho:=(hr.rm _ _ h3).plain hvm
    obtain ⟨q',C,ty,fr,e1,e2,e3,_⟩:=ho
    rw [hq] at e1; cases e1
    obtain ⟨news,g1,g2,g3,_⟩:=((hr.rm _ _ h3).plain hvm).r.read (P:=P) hq h5
    rw [hsrc] at g2
    exact ⟨q,c,C,ty,fr,news,hq,hx,⟨e2,e3⟩,g1,g2,g3⟩
  unfold insAt at h7
  -- a new row
  have newRow0 : ∀ (base : Option Addr), T (k (.one (.osl n 0 m m 1)) ((n, src) :: mu) (n + 1)) → i = 0 → m ≤ 17592186044416 → (∀ ρ w v, VR val ρ w x v → ∃ base : Option Addr, v = .slice base 0 0) →
      ∃ v mu' n',T (k v mu' n') ∧ hasBody P (ren.f 21) = true ∧ n ≤ n' ∧ ∀ ρ w (xs : List Value),Rel val ρ fz mu w → All2 (AVR val ρ w) [.one x,.one (.int .i64 i),.one (.osl vid voff m vcap 1)] xs → FreshN ρ n n' →
        Calls P (ren.f 21) xs.toArray w λe w'=>∃ x,e = .returned x ∧ Post val ρ fz mu n w v mu' n' x w':=by
    intro _ hT hi hmb hx0
    refine ⟨_,_,_,hT,hb,Nat.le_succ _,λρ w xs hr hxs hf=>?_⟩
    obtain ⟨x1,x2,x3,rfl⟩ : ∃ x1 x2 x3,xs = [x1,x2,x3]:=by
      match xs,hxs with
      | [a,b,c],_=>exact ⟨a,b,c,rfl⟩
      | [],h=>exact h.elim
      | [_],h=>exact h.2.elim
      | [_,_],h=>exact h.2.2.elim
      | _ :: _ :: _ :: _ :: _,h=>exact h.2.2.2.elim
    obtain ⟨hx1,hx2,hx3,_⟩:=hxs
    obtain ⟨base,rfl⟩:=hx0 ρ w x1 hx1
    have hx2' : x2 = .int .i64 i:=hx2
    subst hx2' hi
    obtain ⟨q,c,C,ty,frq,news,hq,rfl,⟨hC,hCf⟩,hnl,hnv,hnc⟩:=V ρ w x3 hr hx3
    have hn:=hf n (Nat.le_refl _) (Nat.lt_succ_self _)
    have:=Any2.slices_Insert_int_end_grow L base 0 0 q.1 (q.2 + voff) m c [] news w hm (Nat.le_refl _) (by omega) (by omega) rfl hnl (λ_=>rfl) (λ_ _ j v hj=>by simp at hj) hnc (known_all hnv hks)
    refine calls_post this λe w' ⟨he,hw⟩=>⟨_,he,?_⟩
    subst hw
    simp only [Nat.zero_add] at *
    have hge:=grownCap_ge w m 0 (ren.t 3)
    have hle:=grownCap_le_maxLen w m 0 (ren.t 3) (by unfold maxLen; omega)
    unfold maxLen at hle
    obtain ⟨b1,b2,b3,b4,b5,b6⟩:=new_block (ty:=ren.t 3) (Like.drew w) hr hn (cs:=src) (C:=(([] ++ news : List Value).toArray ++ Builtin.zeroCells (Value.int .i64 0).cells (grownCap w m 0 (ren.t 3) - m))) (by simp [hnl,hsl])
      (λj s' hj=>by
        obtain ⟨v,ev',rv⟩:=hnv.get hj
        refine ⟨v,?_,rv⟩
        have hlt:=(List.getElem?_eq_some_iff.1 ev').1
        rw [Array.getElem?_append_left (by simpa using hlt)]
        simpa using ev')
    refine ⟨_,b1,b2,⟨(w.heap.size,0),_,upd_same _ _ _,rfl,Nat.le_refl _,hge,?_,by omega⟩,b3,b4,b5⟩
    rw [b6]
    simp [Builtin.zeroCells,Value.cells,hnl]
    omega
  split at h7
  · obtain ⟨g1,g2⟩:=cond_elim hz h7
    simp only [Bool.and_eq_true,eqI_eq,decide_eq_true_eq] at g1
    rw [fN_eq] at g2
    exact newRow0 none g2 g1.1 (Nat.le_of_ble_eq_true g1.2) λρ w v hv=>⟨none,hv⟩
  · obtain ⟨g1,g2⟩:=cond_elim hz h7
    simp only [Bool.and_eq_true,eqI_eq,decide_eq_true_eq] at g1
    rw [fN_eq] at g2
    exact newRow0 none g2 g1.1 (Nat.le_of_ble_eq_true g1.2) λρ w v ⟨a,hv⟩=>⟨some a,hv⟩
  · rename_i id off len cap s
    obtain ⟨g1,g2⟩:=cond_elim hz h7
    simp only [Bool.and_eq_true,ltI_eq,Bool.not_eq_true',decide_eq_false_iff_not] at g1
    obtain ⟨⟨⟨⟨c1,c2⟩,c3⟩,c4⟩,c5⟩:=g1
    have hs1:=beq_yes c1
    subst hs1
    have hil:=Nat.le_of_ble_eq_true c3
    have hlm : len + m ≤ 17592186044416:=Nat.le_of_ble_eq_true c5
    have hne : id ≠ vid:=Nat.ne_of_beq_eq_false c4
    obtain ⟨known,hl,hkm,g3⟩:=onLook_elim hz g2
    obtain ⟨g4,g5⟩:=cond_elim hz g3
    simp only [Bool.and_eq_true] at g4
    have hkl : known.length = off + len:=beq_yes g4.1
    rw [copyK_eq,killK_eq,fN_eq,fN_eq] at g5
    have hiz : i = (i.toNat : Int):=by omega
    generalize i.toNat = i0 at *
    subst hiz
    refine ⟨_,_,_,g5,hb,Nat.le_succ _,λρ w xs hr hxs hf=>?_⟩
    obtain ⟨x1,x2,x3,rfl⟩ : ∃ x1 x2 x3,xs = [x1,x2,x3]:=by
      match xs,hxs with
      | [a,b,c],_=>exact ⟨a,b,c,rfl⟩
      | [],h=>exact h.elim
      | [_],h=>exact h.2.elim
      | [_,_],h=>exact h.2.2.elim
      | _ :: _ :: _ :: _ :: _,h=>exact h.2.2.2.elim
    obtain ⟨hx1,hx2,hx3,_⟩:=hxs
    have hx2' : x2 = .int .i64 (i0 : Int):=hx2
    subst hx2'
    obtain ⟨q,c,CV,tyV,frq,news,hq,rfl,⟨hCV,hCVf⟩,hnl,hnv,hnc⟩:=V ρ w x3 hr hx3
    obtain ⟨p,cc,hp,rfl,q1,q2,q3,q4⟩:=hx1
    have hn:=hf n (Nat.le_refl _) (Nat.lt_succ_self _)
    have hOwn:=(hr.rm id known hl).plain hkm
    have hOwn2:=hOwn
    obtain ⟨p',C,ty,fr,e1,hC,hCf,_,_⟩:=hOwn2
    rw [hp] at e1; cases e1
    obtain ⟨old,o1,o2,o3,_⟩:=hOwn.r.read (P:=P) hp (off:=off) (n:=len) (by omega)
    have hkd : (known.drop off).take len = known.drop off:=List.take_of_length_le (by simp; omega)
    rw [hkd] at o2
    have hbs : bsize w p.1 = C.size:=by unfold bsize; rw [hC]
    rw [hbs] at q3
    have hpq : q.1 ≠ p.1:=λe=>hne (hr.dj id vid p q (by simp [hl]) hfzV hp hq e.symm)
    have hkn : ∀ v ∈ old,v.oneCell' = true:=known_all o2 (by have:=knownAll_sub g4.2 off len; rwa [hkd] at this)
    have hnn:=known_all hnv hks
    have hall : All2 (VR val ρ w) ((known.drop off).take i0 ++ src ++ (known.drop off).drop i0) (old.take i0 ++ news ++ old.drop i0):=((o2.take i0).append hnv).append (o2.drop i0)
    have hcl : ((known.drop off).take i0 ++ src ++ (known.drop off).drop i0).length = len + m:=by simp; omega
    -- a world in which the block,or a new one,holds the new row
    have place : ∀ (w' : World) (D : Array Value), w'.heap[p.1]? = some (.cells D ty fr) → D.size = C.size → (∀ b, b ≠ p.1 → w'.heap[b]? = w.heap[b]?) → w'.os = w.os → w'.tape = w.tape → w'.output = w.output → w'.heap.size = w.heap.size →
        (∀ j,j < len + m → D[p.2 + off + j]? = (old.take i0 ++ news ++ old.drop i0)[j]?) → len + m ≤ cc →
        Post val ρ fz mu n w (.one (.osl n 0 (Nat.add len m) (Nat.add len m) 1)) ((n,(known.drop off).take i0 ++ src ++ (known.drop off).drop i0) :: killS mu id) (n + 1) (.slice (some ⟨p.1,p.2 + off,none⟩) (len + m) cc) w':=by
      intro w' D hD hDs hoth ho ht hou hhs hDv hroom
      obtain ⟨b1,b2,b3,b4,b5,b6⟩:=turn_block (n:=n) (off:=off) hr hCf hl hn hp hC hD hDs hoth ho ht hou hhs (cs:=(known.drop off).take i0 ++ src ++ (known.drop off).drop i0) (by rw [hcl,hDs]; omega) (λj s hj=>by
        obtain ⟨v,ev',rv⟩:=hall.get hj
        have hlt:=(List.getElem?_eq_some_iff.1 hj).1
        rw [hcl] at hlt
        exact ⟨v,by rw [hDv j hlt]; exact ev',rv⟩)
      refine ⟨_,b1,b2,⟨(p.1,p.2 + off),cc,upd_same _ _ _,rfl,Nat.le_refl _,hroom,?_,q4⟩,b3,b4,b5⟩
      rw [b6,hbs]; simpa using q3
    have fresh : ∀ (w' : World) (D : Array Value) (G : Nat), w'.heap = w.heap.push (.cells D (ren.t 3) (0, 0)) → w'.os = w.os → w'.tape = w.tape → w'.output = w.output → D.size = G → len + m ≤ G → G ≤ 9223372036854775807 →
        (∀ j,j < len + m → D[j]? = (old.take i0 ++ news ++ old.drop i0)[j]?) →
        Post val ρ fz mu n w (.one (.osl n 0 (Nat.add len m) (Nat.add len m) 1)) ((n,(known.drop off).take i0 ++ src ++ (known.drop off).drop i0) :: killS mu id) (n + 1) (.slice (some ⟨w.heap.size,0,none⟩) (len + m) G) w':=by
      intro w' D G hh ho ht hou hDs hG hG2 hDv
      have hkmono : ∀ a,(look (killS mu id) a).isSome → (look mu a).isSome:=λa ha=>by
        rw [look_killS] at ha
        split at ha
        · cases ha
        · exact ha
      obtain ⟨b1,b2,b3,b4,b5,b6⟩:=new_block (ty:=ren.t 3) (Like.refl w) (hr.kill id) hn (cs:=(known.drop off).take i0 ++ src ++ (known.drop off).drop i0) (C:=D) (by rw [hcl,hDs]; exact hG)
        (λj s' hj=>by
          obtain ⟨v,ev',rv⟩:=hall.get hj
          have hlt:=(List.getElem?_eq_some_iff.1 hj).1
          rw [hcl] at hlt
          exact ⟨v,by rw [hDv j hlt]; exact ev',rv⟩)
      have hlike : Like (w.alloc (.cells D (ren.t 3))) w':=⟨hh,ho,ht,hou⟩
      refine ⟨_,b1,b2.like hlike,⟨(w.heap.size,0),G,upd_same _ _ _,rfl,Nat.le_refl _,hG,?_,hG2⟩,(b3.trans NewB.refl hlike.fr).wider hkmono,b4.wider hkmono,b5.wider hkmono⟩
      rw [hlike.bsize,b6,hDs]; simp
    have hold : ∀ j,j < len → old[j]? = C[p.2 + off + j]?:=λj hj=>by
      have h1 : old[j]? = some old[j]:=List.getElem?_eq_getElem (by omega)
      have:=o3 j _ h1
      rw [cell_at hC] at this
      rw [h1,this]
    have hsp : ∀ j,j < cc → (w.cell? ⟨p.1,p.2 + off + j,none⟩).isSome = true:=λj hj=>by
      rw [cell_at hC,Array.getElem?_eq_getElem (by omega)]; rfl
    by_cases hi : i0 < len
    · by_cases hroom : len + m ≤ cc
      · have:=Any2.slices_Insert_int_shift L p.1 (p.2 + off) len cc i0 q.1 (q.2 + voff) m c old news w hi hm hroom q4 hpq o1 hnl o3 (λj hj=>hsp j (by omega)) (λj _=>frozen_at hs2b hCf hC _) hnc hkn hnn tyV ty CV.size C.size (shape_at hCV) (shape_at hC) (by omega) (frozen_at hs2b hCVf hCV _) (frozen_at hs2b hCVf hCV _)
        refine calls_post this λe w' ⟨he,hw⟩=>⟨_,he,?_⟩
        subst hw
        obtain ⟨D1,d1,d2,d3⟩:=setCells_heap (old.drop i0) (p.2 + off + (i0 + m)) w.drew C hC (by simp; omega)
        obtain ⟨D2,f1,f2,f3⟩:=setCells_heap news (p.2 + off + i0) _ D1 d1 (by omega)
        obtain ⟨r1,r2,r3,r4⟩:=setCells_rest (b:=p.1) (old.drop i0) (p.2 + off + (i0 + m)) w.drew
        obtain ⟨s1,s2,s3,s4⟩:=setCells_rest (b:=p.1) news (p.2 + off + i0) (w.drew.setCells p.1 (p.2 + off + (i0 + m)) (old.drop i0))
        refine place _ D2 f1 (f2.trans d2) (λb hb=>by rw [setCells_other hb,setCells_other hb]; rfl) (s1.trans r1) (s2.trans r2) (s3.trans r3) (s4.trans r4) (λj hj=>?_) hroom
        rw [f3,d3]
        by_cases a1 : j < i0
        · rw [if_neg (by omega),if_neg (by omega),← hold j (by omega),List.append_assoc,List.getElem?_append_left (by simp; omega),List.getElem?_take_of_lt a1]
        · by_cases a2 : j < i0 + m
          · rw [if_pos (by omega),List.append_assoc,List.getElem?_append_right (by simp; omega),List.getElem?_append_left (by simp; omega)]
            congr 1; simp; omega
          · rw [if_neg (by omega),if_pos (by simp; omega),List.getElem?_append_right (by simp; omega)]
            congr 1; simp; omega
      · have:=Any2.slices_Insert_int_grow L p.1 (p.2 + off) len cc i0 q.1 (q.2 + voff) m c old news w hi hm (by omega) (by omega) (by omega) o1 hnl o3 hnc hkn hnn
        refine calls_post this λe w' ⟨he,hw⟩=>⟨_,he,?_⟩
        subst hw
        have hge:=grownCap_ge w (len + m) cc (ren.t 3)
        have hle:=grownCap_le_maxLen w (len + m) cc (ren.t 3) (by unfold maxLen; omega)
        unfold maxLen at hle
        generalize grownCap w (len + m) cc (ren.t 3) = G at *
        generalize hROW : (old.take i0).toArray ++ Builtin.zeroCells (Value.int .i64 0).cells (len + m - i0) ++ Builtin.zeroCells (Value.int .i64 0).cells (G - (len + m)) = ROW
        have hRs : ROW.size = G:=by rw [← hROW]; simp [Builtin.zeroCells,Value.cells]; omega
        have hRg : ∀ j,j < i0 → ROW[j]? = old[j]?:=λj hj=>by
          rw [← hROW,Array.append_assoc,Array.getElem?_append_left (by simp; omega)]
          simp [List.getElem?_take_of_lt hj]
        have hA : (w.alloc (.cells ROW (ren.t 3))).drew.heap[w.heap.size]? = some (.cells ROW (ren.t 3) (0,0)):=alloc_new (.cells ROW (ren.t 3))
        obtain ⟨D1,d1,d2,d3⟩:=setCells_heap news i0 _ ROW hA (by omega)
        obtain ⟨D2,f1,f2,f3⟩:=setCells_heap (old.drop i0) (i0 + m) ((w.alloc (.cells ROW (ren.t 3))).drew.setCells w.heap.size i0 news).drew D1 d1 (by simp; omega)
        obtain ⟨r1,r2,r3,r4⟩:=setCells_rest (b:=w.heap.size) news i0 (w.alloc (.cells ROW (ren.t 3))).drew
        obtain ⟨s1,s2,s3,s4⟩:=setCells_rest (b:=w.heap.size) (old.drop i0) (i0 + m) ((w.alloc (.cells ROW (ren.t 3))).drew.setCells w.heap.size i0 news).drew
        refine fresh _ D2 G ?_ (s1.trans r1) (s2.trans r2) (s3.trans r3) (by rw [f2,d2,hRs]) hge hle (λj hj=>?_)
        · refine Array.ext_getElem? λb=>?_
          by_cases e : b = w.heap.size
          · subst e; rw [f1]; simp
          · rw [setCells_other e]
            show ((w.alloc (.cells ROW (ren.t 3))).drew.setCells w.heap.size i0 news).heap[b]? = _
            rw [setCells_other e]
            show (w.heap.push (.cells ROW (ren.t 3)))[b]? = _
            rw [Array.getElem?_push,Array.getElem?_push]
            simp [e]
        · rw [f3,d3]
          by_cases a1 : j < i0
          · rw [if_neg (by omega),if_neg (by omega),hRg j a1,List.append_assoc,List.getElem?_append_left (by simp; omega),List.getElem?_take_of_lt a1]
          · by_cases a2 : j < i0 + m
            · rw [if_neg (by omega),if_pos (by omega),List.append_assoc,List.getElem?_append_right (by simp; omega),List.getElem?_append_left (by simp; omega)]
              congr 1; simp; omega
            · rw [if_pos (by simp; omega),List.getElem?_append_right (by simp; omega)]
              congr 1; simp; omega
    · have hie : i0 = len:=by omega
      subst hie
      have htk : old.take i0 = old:=List.take_of_length_le (by omega)
      have hdr : old.drop i0 = []:=List.drop_eq_nil_of_le (by omega)
      by_cases hroom : i0 + m ≤ cc
      · have:=Any2.slices_Insert_int_end_room L p.1 (p.2 + off) i0 cc q.1 (q.2 + voff) m c news w hm hroom q4 hnl (λj hj=>by rw [Nat.add_assoc]; exact hsp _ (by omega)) (λj _=>frozen_at hs2b hCf hC _) hnc hnn
        refine calls_post this λe w' ⟨he,hw⟩=>⟨_,he,?_⟩
        subst hw
        obtain ⟨D1,d1,d2,d3⟩:=setCells_heap news (p.2 + off + i0) w C hC (by omega)
        obtain ⟨r1,r2,r3,r4⟩:=setCells_rest (b:=p.1) news (p.2 + off + i0) w
        refine place _ D1 d1 d2 (λb hb=>setCells_other hb _ _ _) r1 r2 r3 r4 (λj hj=>?_) hroom
        rw [d3,htk,hdr,List.append_nil]
        by_cases a1 : j < i0
        · rw [if_neg (by omega),← hold j a1,List.getElem?_append_left (by omega)]
        · rw [if_pos (by omega),List.getElem?_append_right (by omega)]
          congr 1; omega
      · have:=Any2.slices_Insert_int_end_grow L (some ⟨p.1,p.2 + off,none⟩) i0 cc q.1 (q.2 + voff) m c old news w hm (by omega) (by omega) (by omega) o1 hnl (λh=>by cases h) (λa ha j v hj=>by cases ha; rw [addr_add]; exact o3 j v hj) hnc hnn
        refine calls_post this λe w' ⟨he,hw⟩=>⟨_,he,?_⟩
        subst hw
        have hge:=grownCap_ge w (i0 + m) cc (ren.t 3)
        have hle:=grownCap_le_maxLen w (i0 + m) cc (ren.t 3) (by unfold maxLen; omega)
        unfold maxLen at hle
        generalize grownCap w (i0 + m) cc (ren.t 3) = G at *
        refine fresh _ _ G rfl rfl rfl rfl (by simp [Builtin.zeroCells,Value.cells]; omega) hge hle (λj hj=>?_)
        rw [htk,hdr,List.append_nil,Array.getElem?_append_left (by simp; omega)]
        simp
  · exact (hz h7).elim
end
end Go.Ev
namespace Go.Proofs.Ytnnjlnkoomeadaa.Pv
open Go.Ev Go.Ev.Rp
set_option linter.unusedVariables false
set_option linter.unusedSimpArgs false
theorem onLook_at {mu : St} {id : Nat} {cs : List SV} {k : List SV → Prop} (h : Ev.look mu id = some cs) (hm : mkd cs = false) : onLook mu id False k = k cs:=by
  unfold onLook
  rw [h]
  show plainK False k cs = _
  unfold plainK
  rw [hm]; rfl
theorem ints_flatI (l : List Int) : (l.map intC).flatten = l.map (SV.int .i64):=by
  induction l with
  | nil=>rfl
  | cons a l ih=>rw [List.map_cons,List.flatten_cons,ih]; rfl
theorem ins_at {x : SV} {l : List Int} {t : Int} {i vid n : Nat} {fz : Fz} {mu : St} {k : AV → St → Nat → Prop} (hx : SlX (with' mu fz) 1 x (l.map intC)) (hfz : ∀ id, blk x = some id → fz id = none) (hi : i ≤ l.length)
    (hv : Ev.look mu vid = some [.int .i64 t]) (hne : blk x ≠ some vid) (hb : l.length + 1 ≤ 17592186044416)
    (h : ∀ mu',(∀ j,j ≠ n → blk x ≠ some j → Ev.look mu' j = Ev.look mu j) → (∀ j,j ≠ n → blk x = some j → Ev.look mu' j = none) → Ev.look mu' n = some ((l.take i ++ t :: l.drop i).map (SV.int .i64)) → k (.one (.osl n 0 (l.length + 1) (l.length + 1) 1)) mu' (n + 1)) :
    insK False [.one x,.one (.int .i64 (i : Nat)),.one (.osl vid 0 1 1 1)] fz mu n k:=by
  show cond (Nat.blt 0 1 && Nat.beq 1 1) (onLook mu vid False λvc=>subK vc 0 1 False λsrc=>cond (knownAll src) (insAt False src 1 vid x (i : Nat) mu n k) False) False
  show onLook mu vid False λvc=>subK vc 0 1 False λsrc=>cond (knownAll src) (insAt False src 1 vid x (i : Nat) mu n k) False
  rw [onLook_at hv rfl,subK_p]
  refine ⟨by simp,?_⟩
  show insAt False [.int .i64 t] 1 vid x (i : Nat) mu n k
  rcases hx with ⟨hn,hl⟩ | ⟨id,rfl,h2,h3,h4⟩
  · have hl : l = []:=by simpa using hl
    subst hl
    have hi0 : i = 0:=by simpa using hi
    subst hi0
    have key : k (.one (.osl n 0 1 1 1)) ((n,[.int .i64 t]) :: mu) (n + 1):=by
      refine h ((n,[.int .i64 t]) :: mu) (λj hj _=>?_) (λj hj hbj=>?_) ?_
      · rw [look_cons,if_neg (λe=>hj e.symm)]
      · rcases hn with rfl | rfl <;> cases hbj
      · rw [look_cons,if_pos rfl]; rfl
    rcases hn with rfl | rfl
    · show fN (Nat.succ n) λn'=>k (.one (.osl n 0 1 1 1)) ((n,[.int .i64 t]) :: mu) n'
      rw [fN_eq]; exact key
    · show fN (Nat.succ n) λn'=>k (.one (.osl n 0 1 1 1)) ((n,[.int .i64 t]) :: mu) n'
      rw [fN_eq]; exact key
  · have hid:=hfz id rfl
    rw [ints_flatI] at h2 h3
    rw [with_look hid] at h2
    have hne' : Nat.beq id vid = false:=by
      cases e : Nat.beq id vid with
      | false=>rfl
      | true=>exact (hne (by rw [Nat.eq_of_beq_eq_true e]; rfl)).elim
    have e1 : ltI (i : Nat) 0 = false:=show Nat.blt i 0 = false from rfl
    have e2 : Nat.ble ((i : Nat) : Int).toNat (l.map intC).length = true:=by rw [Nat.ble_eq]; simpa using hi
    have e3 : Nat.ble (Nat.add (l.map intC).length 1) 17592186044416 = true:=by rw [Nat.ble_eq]; simpa using hb
    have e4 : knownAll (l.map (SV.int .i64)) = true:=by rw [knownAll_iff]; intro s hs; obtain ⟨a,_,rfl⟩:=List.mem_map.1 hs; rfl
    show cond (Nat.beq 1 1 && not (ltI (i : Nat) 0) && Nat.ble ((i : Nat) : Int).toNat (l.map intC).length && not (Nat.beq id vid) && Nat.ble (Nat.add (l.map intC).length 1) 17592186044416)
      (onLook mu id False λknown=>cond (Nat.beq known.length (Nat.add 0 (l.map intC).length) && knownAll known)
        (copyK ((known.drop 0).take ((i : Nat) : Int).toNat ++ [.int .i64 t] ++ (known.drop 0).drop ((i : Nat) : Int).toNat) λcs=>killK mu id λmu=>fN (Nat.add (l.map intC).length 1) λl=>fN (Nat.succ n) λn'=>k (.one (.osl n 0 l l 1)) ((n,cs) :: mu) n') False) False
    rw [e1,e2,e3,hne']
    show onLook mu id False fun known => cond (Nat.beq known.length (Nat.add 0 (l.map intC).length) && knownAll known)
        (copyK ((known.drop 0).take ((i : Nat) : Int).toNat ++ [.int .i64 t] ++ (known.drop 0).drop ((i : Nat) : Int).toNat) λcs=>killK mu id λmu=>fN (Nat.add (l.map intC).length 1) λl=>fN (Nat.succ n) λn'=>k (.one (.osl n 0 l l 1)) ((n,cs) :: mu) n') False
    rw [onLook_at h2 h3]
    have e5 : Nat.beq (l.map (SV.int .i64)).length (Nat.add 0 (l.map intC).length) = true:=by
      have : (l.map (SV.int .i64)).length = Nat.add 0 (l.map intC).length:=by show _ = 0 + _; simp
      rw [this]; exact Nat.beq_refl _
    rw [e5,e4]
    show copyK _ _
    rw [copyK_eq,killK_eq,fN_eq,fN_eq]
    have e6 : Nat.add (l.map intC).length 1 = l.length + 1:=by show _ + 1 = _; simp
    rw [e6]
    refine h _ (λj hj hbj=>?_) (λj hj hbj=>?_) ?_
    · rw [look_cons,if_neg (λe=>hj e.symm),look_killS,if_neg (λe=>hbj (by rw [← e]; rfl))]
    · cases hbj
      rw [look_cons,if_neg (λe=>hj e.symm),look_killS,if_pos rfl]
    · rw [look_cons,if_pos rfl]; simp
end Go.Proofs.Ytnnjlnkoomeadaa.Pv
namespace Go.Proofs.Ytnnjlnkoomeadaa.Pv
open Go.Ev Go.Ev.Rp
set_option maxRecDepth 100000
set_option maxHeartbeats 4000000
set_option linter.unusedSimpArgs false
set_option linter.unusedVariables false
set_option linter.unusedSectionVars false
def gotB (r : Rep) (x : Rd) (m : Msg) : Bool:=decide (m.kind = 13) && repB r && msgB m && leadB r && decide (m.to = r.me) && !decide (m.frm = r.me) && decide (m.frm < r.nodes) && decide (m.view = r.view) && decide (m.round = x.round)
def got (r : Rep) (x : Rd) (m : Msg) : Rd:=if gotB r x m then { x with agreed:=putL x.agreed m.frm } else x
def InsC (P : Program) : Prop:=∀ (args : List AV) (fz : Fz) (mu : St) (n : Nat) (k : AV → St → Nat → Prop),insK False args fz mu n k → CP P n_slices_Insert_int_int args fz mu n k
theorem got_no {r : Rep} {x : Rd} {m : Msg} (h : gotB r x m = false) : got r x m = x:=by unfold got; rw [if_neg (by simp [h])]
theorem blk_from {M : Fz} {n s : Nat} {x : SV} {es : List (List SV)} (h : SlX (From n M) s x es) {id : Nat} (hb : blk x = some id) : n ≤ id:=by
  rcases h with ⟨h | h,_⟩ | ⟨j,rfl,h2,_⟩
  · subst h; cases hb
  · subst h; cases hb
  · cases hb; exact From.lt h2
theorem put_no {l : List Int} {t : Int} {i : Nat} (hr : l.Pairwise (· < ·)) (h : At l t i false) : putL l t = l.take i ++ t :: l.drop i:=by
  rw [put_at hr h.le h.lt h.ge]
  have:=h.is
  by_cases hi : i < l.length
  · rw [dif_pos hi,if_neg]
    intro he
    have : decide (∃ h : i < l.length,l[i] = t) = true:=decide_eq_true ⟨hi,he⟩
    rw [← h.is] at this; cases this
  · rw [dif_neg hi,List.take_of_length_le (by omega),List.drop_eq_nil_of_le (by omega)]
theorem put_yes {l : List Int} {t : Int} {i : Nat} (hr : l.Pairwise (· < ·)) (h : At l t i true) : putL l t = l:=by
  rw [put_at hr h.le h.lt h.ge]
  obtain ⟨h1,h2⟩:=of_decide_eq_true h.is.symm
  rw [dif_pos h1,if_pos h2]
variable {P : Program} (H : Fs P)
include H
theorem quorum_Got (hI : InsC P) (r : Rep) (xe xa xs xd : SV) (x : Rd) (ya yb ym : SV) (m : Msg) (zb zm : SV) (hz : RepSz r) (ha : x.agreed.length ≤ 17592186044414) (hb : x.msg.batch.length ≤ 4398046511104) (hx : LgSz x.msg.log) (hr : x.agreed.Pairwise (· < ·)) :
    Ctr P n_quorum_Got [.ag (repC r xe xa xs xd),.ag (rdC x ya yb ym),.ag (msgC m zb zm)] (λM=>RepS M r xe xa xs xd ∧ IntsR M ya x.agreed ∧ MsgS M x.msg yb ym ∧ MsgS M m zb zm)
      (λn _ M v=>∃ xa' xb' xm',v = .ag (rdC (got r x m) xa' xb' xm') ∧ IntsX (From n M) xa' (got r x m).agreed ∧ PtsX (From n M) xb' x.msg.batch ∧ EntsX (From n M) xm' x.msg.log.ents):=Ctr.of H.mx H.quorum_Got (λ_=>0) λfz mu n k hfr s hk=>by
  obtain ⟨s1,t1,t2,t3⟩:=s
  obtain ⟨-,-,xek,xem⟩:=s1.1.len
  obtain ⟨-,-,xak,xam⟩:=s1.2.1.len
  obtain ⟨-,-,xsk,xsm⟩:=s1.2.2.1.len
  obtain ⟨-,-,xdk,xdm⟩:=s1.2.2.2.len
  obtain ⟨yal,yas,yak,yam⟩:=t1.len
  obtain ⟨-,-,ybk,ybm⟩:=t2.1.len
  obtain ⟨-,-,ymk,ymm⟩:=t2.2.len
  obtain ⟨-,-,zbk,zbm⟩:=t3.1.len
  obtain ⟨-,-,zmk,zmm⟩:=t3.2.len
  have hM:=replica_May H r xe xa xs xd (by have:=hz.starts; omega) (by have:=hz.dos; omega) (by have:=hz.acks; omega)
  have hL:=replica_Leads H r xe xa xs xd
  have hG:=message_May H m zb zm
  have hC:=quorum_clone H x ya yb ym (by omega) hb hx
  rw [i_quorum_Got,dc_at b_quorum_Got.eq_1,rdC_eq]
  have gg : Gr n fz mu ((n + 1 + 1 + 1,[I 0,I 0,I 0,.nsl,I 0,I 0,I 0,I 0,I 0,I 0,I 0,I 0,I 0,I 0,I 0,I 0,I 0,I 0,.str 0 0,.nsl,I 0,.str 0 0,.nsl,.str 0 0]) :: (n + 1 + 1,[I m.kind,I m.frm,I m.to,I m.view,I m.normal,I m.at',I m.commit,I m.round,I m.client,I m.session,I m.number,I m.code,I m.agg,I m.until',m.series.sv,zb,I m.log.base,m.log.snap.sv,zm,m.text.sv]) :: (n + 1,[I x.round,I x.at',I x.client,ya,I x.msg.kind,I x.msg.frm,I x.msg.to,I x.msg.view,I x.msg.normal,I x.msg.at',I x.msg.commit,I x.msg.round,I x.msg.client,I x.msg.session,I x.msg.number,I x.msg.code,I x.msg.agg,I x.msg.until',x.msg.series.sv,yb,I x.msg.log.base,x.msg.log.snap.sv,ym,x.msg.text.sv]) :: (n,[I r.me,I r.nodes,I r.view,I r.normal,I r.status,I r.commit,.bool r.sent,I r.log.base,r.log.snap.sv,xe,xa,xs,xd]) :: mu) n (n + 1 + 1 + 1 + 1):=(((gr2 hfr).cons (by omega) _).cons (by omega) _)
  have b1 : Ev.look ((n + 1 + 1 + 1,[I 0,I 0,I 0,.nsl,I 0,I 0,I 0,I 0,I 0,I 0,I 0,I 0,I 0,I 0,I 0,I 0,I 0,I 0,.str 0 0,.nsl,I 0,.str 0 0,.nsl,.str 0 0]) :: (n + 1 + 1,[I m.kind,I m.frm,I m.to,I m.view,I m.normal,I m.at',I m.commit,I m.round,I m.client,I m.session,I m.number,I m.code,I m.agg,I m.until',m.series.sv,zb,I m.log.base,m.log.snap.sv,zm,m.text.sv]) :: (n + 1,[I x.round,I x.at',I x.client,ya,I x.msg.kind,I x.msg.frm,I x.msg.to,I x.msg.view,I x.msg.normal,I x.msg.at',I x.msg.commit,I x.msg.round,I x.msg.client,I x.msg.session,I x.msg.number,I x.msg.code,I x.msg.agg,I x.msg.until',x.msg.series.sv,yb,I x.msg.log.base,x.msg.log.snap.sv,ym,x.msg.text.sv]) :: (n,[I r.me,I r.nodes,I r.view,I r.normal,I r.status,I r.commit,.bool r.sent,I r.log.base,r.log.snap.sv,xe,xa,xs,xd]) :: mu) n = some [I r.me,I r.nodes,I r.view,I r.normal,I r.status,I r.commit,.bool r.sent,I r.log.base,r.log.snap.sv,xe,xa,xs,xd]:=by rw [look_c,if_neg (by omega),look_c,if_neg (by omega),look_c,if_neg (by omega),look_c,if_pos rfl]
  have b2 : Ev.look ((n + 1 + 1 + 1,[I 0,I 0,I 0,.nsl,I 0,I 0,I 0,I 0,I 0,I 0,I 0,I 0,I 0,I 0,I 0,I 0,I 0,I 0,.str 0 0,.nsl,I 0,.str 0 0,.nsl,.str 0 0]) :: (n + 1 + 1,[I m.kind,I m.frm,I m.to,I m.view,I m.normal,I m.at',I m.commit,I m.round,I m.client,I m.session,I m.number,I m.code,I m.agg,I m.until',m.series.sv,zb,I m.log.base,m.log.snap.sv,zm,m.text.sv]) :: (n + 1,[I x.round,I x.at',I x.client,ya,I x.msg.kind,I x.msg.frm,I x.msg.to,I x.msg.view,I x.msg.normal,I x.msg.at',I x.msg.commit,I x.msg.round,I x.msg.client,I x.msg.session,I x.msg.number,I x.msg.code,I x.msg.agg,I x.msg.until',x.msg.series.sv,yb,I x.msg.log.base,x.msg.log.snap.sv,ym,x.msg.text.sv]) :: (n,[I r.me,I r.nodes,I r.view,I r.normal,I r.status,I r.commit,.bool r.sent,I r.log.base,r.log.snap.sv,xe,xa,xs,xd]) :: mu) (n + 1) = some [I x.round,I x.at',I x.client,ya,I x.msg.kind,I x.msg.frm,I x.msg.to,I x.msg.view,I x.msg.normal,I x.msg.at',I x.msg.commit,I x.msg.round,I x.msg.client,I x.msg.session,I x.msg.number,I x.msg.code,I x.msg.agg,I x.msg.until',x.msg.series.sv,yb,I x.msg.log.base,x.msg.log.snap.sv,ym,x.msg.text.sv]:=by rw [look_c,if_neg (by omega),look_c,if_neg (by omega),look_c,if_pos rfl]
  have b3 : Ev.look ((n + 1 + 1 + 1,[I 0,I 0,I 0,.nsl,I 0,I 0,I 0,I 0,I 0,I 0,I 0,I 0,I 0,I 0,I 0,I 0,I 0,I 0,.str 0 0,.nsl,I 0,.str 0 0,.nsl,.str 0 0]) :: (n + 1 + 1,[I m.kind,I m.frm,I m.to,I m.view,I m.normal,I m.at',I m.commit,I m.round,I m.client,I m.session,I m.number,I m.code,I m.agg,I m.until',m.series.sv,zb,I m.log.base,m.log.snap.sv,zm,m.text.sv]) :: (n + 1,[I x.round,I x.at',I x.client,ya,I x.msg.kind,I x.msg.frm,I x.msg.to,I x.msg.view,I x.msg.normal,I x.msg.at',I x.msg.commit,I x.msg.round,I x.msg.client,I x.msg.session,I x.msg.number,I x.msg.code,I x.msg.agg,I x.msg.until',x.msg.series.sv,yb,I x.msg.log.base,x.msg.log.snap.sv,ym,x.msg.text.sv]) :: (n,[I r.me,I r.nodes,I r.view,I r.normal,I r.status,I r.commit,.bool r.sent,I r.log.base,r.log.snap.sv,xe,xa,xs,xd]) :: mu) (n + 1 + 1) = some [I m.kind,I m.frm,I m.to,I m.view,I m.normal,I m.at',I m.commit,I m.round,I m.client,I m.session,I m.number,I m.code,I m.agg,I m.until',m.series.sv,zb,I m.log.base,m.log.snap.sv,zm,m.text.sv]:=by rw [look_c,if_neg (by omega),look_c,if_pos rfl]
  have b4 : Ev.look ((n + 1 + 1 + 1,[I 0,I 0,I 0,.nsl,I 0,I 0,I 0,I 0,I 0,I 0,I 0,I 0,I 0,I 0,I 0,I 0,I 0,I 0,.str 0 0,.nsl,I 0,.str 0 0,.nsl,.str 0 0]) :: (n + 1 + 1,[I m.kind,I m.frm,I m.to,I m.view,I m.normal,I m.at',I m.commit,I m.round,I m.client,I m.session,I m.number,I m.code,I m.agg,I m.until',m.series.sv,zb,I m.log.base,m.log.snap.sv,zm,m.text.sv]) :: (n + 1,[I x.round,I x.at',I x.client,ya,I x.msg.kind,I x.msg.frm,I x.msg.to,I x.msg.view,I x.msg.normal,I x.msg.at',I x.msg.commit,I x.msg.round,I x.msg.client,I x.msg.session,I x.msg.number,I x.msg.code,I x.msg.agg,I x.msg.until',x.msg.series.sv,yb,I x.msg.log.base,x.msg.log.snap.sv,ym,x.msg.text.sv]) :: (n,[I r.me,I r.nodes,I r.view,I r.normal,I r.status,I r.commit,.bool r.sent,I r.log.base,r.log.snap.sv,xe,xa,xs,xd]) :: mu) (n + 1 + 1 + 1) = some [I 0,I 0,I 0,.nsl,I 0,I 0,I 0,I 0,I 0,I 0,I 0,I 0,I 0,I 0,I 0,I 0,I 0,I 0,.str 0 0,.nsl,I 0,.str 0 0,.nsl,.str 0 0]:=by rw [look_c,if_pos rfl]
  obtain ⟨m0,hm0⟩ : ∃ mz : St,((n + 1 + 1 + 1,[I 0,I 0,I 0,.nsl,I 0,I 0,I 0,I 0,I 0,I 0,I 0,I 0,I 0,I 0,I 0,I 0,I 0,I 0,.str 0 0,.nsl,I 0,.str 0 0,.nsl,.str 0 0]) :: (n + 1 + 1,[I m.kind,I m.frm,I m.to,I m.view,I m.normal,I m.at',I m.commit,I m.round,I m.client,I m.session,I m.number,I m.code,I m.agg,I m.until',m.series.sv,zb,I m.log.base,m.log.snap.sv,zm,m.text.sv]) :: (n + 1,[I x.round,I x.at',I x.client,ya,I x.msg.kind,I x.msg.frm,I x.msg.to,I x.msg.view,I x.msg.normal,I x.msg.at',I x.msg.commit,I x.msg.round,I x.msg.client,I x.msg.session,I x.msg.number,I x.msg.code,I x.msg.agg,I x.msg.until',x.msg.series.sv,yb,I x.msg.log.base,x.msg.log.snap.sv,ym,x.msg.text.sv]) :: (n,[I r.me,I r.nodes,I r.view,I r.normal,I r.status,I r.commit,.bool r.sent,I r.log.base,r.log.snap.sv,xe,xa,xs,xd]) :: mu) = mz:=⟨_,rfl⟩
  rw [hm0] at gg b1 b2 b3 b4
  rw [rdC_eq] at hC
  unfold repC at hM hL ⊢
  unfold msgC at hG ⊢
  have w1:=look_with (fz:=fz) b1
  have w2:=look_with (fz:=fz) b2
  have w3:=look_with (fz:=fz) b3
  have w4:=look_with (fz:=fz) b4
  simp only [↓E1,E2,zA,zB,zC,zD,zE,zF,zG,zH,zI,zJ,zK,zL,zM,zN,reduceIte,zO,zP, *]
  try rw [hm0]
  clear hm0
  try simp only [↓E1,E2,zA,zB,zC,zD,zE,zF,zG,zH,zI,zJ,zK,zL,zM,zN,reduceIte,zO,zP, *]
  refine hC.c1 gg.free ⟨IntsR.mono (gg.sub hfr (Nat.le_refl _)) t1,MsgS.mono (gg.sub hfr (Nat.le_refl _)) t2⟩ ?_
  rintro v m1 n1 g1 ⟨xa',xb',xm',n0,rfl,hxa,hlt,hn0,hxb,hxm⟩
  rw [rdC_eq]
  have l1:=g1.le
  have hlt1 : ∀ id,blk xa' = some id → id < n1:=λid hid=>blk_lt (λj B h=>g1.free.lt (From.sub _ _ h)) hxa hid
  have hge1 : ∀ id,blk xa' = some id → n + 1 + 1 + 1 + 1 ≤ id:=λid hid=>blk_from hxa hid
  obtain ⟨-,-,zak,zam⟩:=SlX.len hxa
  obtain ⟨-,-,zbk',zbm'⟩:=SlX.len hxb
  obtain ⟨-,-,zmk',zmm'⟩:=hxm.choose_spec.1.len
  have b0 : Ev.look ((n1,[I 0,I 0,I 0,.nsl,I 0,I 0,I 0,I 0,I 0,I 0,I 0,I 0,I 0,I 0,I 0,I 0,I 0,I 0,.str 0 0,.nsl,I 0,.str 0 0,.nsl,.str 0 0]) :: m1) n1 = some [I 0,I 0,I 0,.nsl,I 0,I 0,I 0,I 0,I 0,I 0,I 0,I 0,I 0,I 0,I 0,I 0,I 0,I 0,.str 0 0,.nsl,I 0,.str 0 0,.nsl,.str 0 0]:=by rw [look_c,if_pos rfl]
  have hne : (n1 = n + 1 + 1) = False:=by simp; omega
  have wq:=look_with (fz:=fz) ((g1.own (n + 1 + 1) (by omega)).trans b3)
  have g1c : Gr n1 fz m1 (putS ((n1,[I 0,I 0,I 0,.nsl,I 0,I 0,I 0,I 0,I 0,I 0,I 0,I 0,I 0,I 0,I 0,I 0,I 0,I 0,.str 0 0,.nsl,I 0,.str 0 0,.nsl,.str 0 0]) :: m1) n1 (over [I 0,I 0,I 0,.nsl,I 0,I 0,I 0,I 0,I 0,I 0,I 0,I 0,I 0,I 0,I 0,I 0,I 0,I 0,.str 0 0,.nsl,I 0,.str 0 0,.nsl,.str 0 0] 0 [I x.round,I x.at',I x.client,xa',I x.msg.kind,I x.msg.frm,I x.msg.to,I x.msg.view,I x.msg.normal,I x.msg.at',I x.msg.commit,I x.msg.round,I x.msg.client,I x.msg.session,I x.msg.number,I x.msg.code,I x.msg.agg,I x.msg.until',x.msg.series.sv,xb',I x.msg.log.base,x.msg.log.snap.sv,xm',x.msg.text.sv])) n1 (n1 + 1):=((Gr.refl g1.free).cons (Nat.le_refl _) _).put (Nat.le_refl _) b0
  have l1c:=g1c.le
  replace gg:=(gg.trans (g1.weaken (by omega))).trans (g1c.weaken (by omega))
  replace b1:=(g1c.own n (by omega)).trans ((g1.own n (by omega)).trans b1)
  replace b2:=(g1c.own (n + 1) (by omega)).trans ((g1.own (n + 1) (by omega)).trans b2)
  replace b3:=(g1c.own (n + 1 + 1) (by omega)).trans ((g1.own (n + 1 + 1) (by omega)).trans b3)
  replace b4:=(g1c.own (n + 1 + 1 + 1) (by omega)).trans ((g1.own (n + 1 + 1 + 1) (by omega)).trans b4)
  have b5 : Ev.look (putS ((n1,[I 0,I 0,I 0,.nsl,I 0,I 0,I 0,I 0,I 0,I 0,I 0,I 0,I 0,I 0,I 0,I 0,I 0,I 0,.str 0 0,.nsl,I 0,.str 0 0,.nsl,.str 0 0]) :: m1) n1 (over [I 0,I 0,I 0,.nsl,I 0,I 0,I 0,I 0,I 0,I 0,I 0,I 0,I 0,I 0,I 0,I 0,I 0,I 0,.str 0 0,.nsl,I 0,.str 0 0,.nsl,.str 0 0] 0 [I x.round,I x.at',I x.client,xa',I x.msg.kind,I x.msg.frm,I x.msg.to,I x.msg.view,I x.msg.normal,I x.msg.at',I x.msg.commit,I x.msg.round,I x.msg.client,I x.msg.session,I x.msg.number,I x.msg.code,I x.msg.agg,I x.msg.until',x.msg.series.sv,xb',I x.msg.log.base,x.msg.log.snap.sv,xm',x.msg.text.sv])) n1 = some [I x.round,I x.at',I x.client,xa',I x.msg.kind,I x.msg.frm,I x.msg.to,I x.msg.view,I x.msg.normal,I x.msg.at',I x.msg.commit,I x.msg.round,I x.msg.client,I x.msg.session,I x.msg.number,I x.msg.code,I x.msg.agg,I x.msg.until',x.msg.series.sv,xb',I x.msg.log.base,x.msg.log.snap.sv,xm',x.msg.text.sv]:=by rw [look_putS,if_pos rfl,b0]; rfl
  have hfc:=g1c.free
  have v1:=IntsX.mono (From.mono (g1c.sub g1.free (Nat.le_refl _))) hxa
  have v2:=PtsX.mono (From.mono (g1c.sub g1.free (Nat.le_refl _))) hxb
  have v3:=EntsX.mono (From.mono (g1c.sub g1.free (Nat.le_refl _))) hxm
  obtain ⟨m2,hm2⟩ : ∃ mz : St,(putS ((n1,[I 0,I 0,I 0,.nsl,I 0,I 0,I 0,I 0,I 0,I 0,I 0,I 0,I 0,I 0,I 0,I 0,I 0,I 0,.str 0 0,.nsl,I 0,.str 0 0,.nsl,.str 0 0]) :: m1) n1 (over [I 0,I 0,I 0,.nsl,I 0,I 0,I 0,I 0,I 0,I 0,I 0,I 0,I 0,I 0,I 0,I 0,I 0,I 0,.str 0 0,.nsl,I 0,.str 0 0,.nsl,.str 0 0] 0 [I x.round,I x.at',I x.client,xa',I x.msg.kind,I x.msg.frm,I x.msg.to,I x.msg.view,I x.msg.normal,I x.msg.at',I x.msg.commit,I x.msg.round,I x.msg.client,I x.msg.session,I x.msg.number,I x.msg.code,I x.msg.agg,I x.msg.until',x.msg.series.sv,xb',I x.msg.log.base,x.msg.log.snap.sv,xm',x.msg.text.sv])) = mz:=⟨_,rfl⟩
  rw [hm2] at gg b1 b2 b3 b4 b5 hfc v1 v2 v3
  have u:=Sub.refl (with' m2 fz)
  replace w1:=look_with (fz:=fz) b1
  replace w2:=look_with (fz:=fz) b2
  replace w3:=look_with (fz:=fz) b3
  replace w4:=look_with (fz:=fz) b4
  have w5:=look_with (fz:=fz) b5
  have leaf : Hide (∀ mu' n',Gr n fz mu mu' n n' → Sub (with' m2 fz) (with' mu' fz) → Ev.look mu' (n + 1 + 1 + 1) = some [I 0,I 0,I 0,.nsl,I 0,I 0,I 0,I 0,I 0,I 0,I 0,I 0,I 0,I 0,I 0,I 0,I 0,I 0,.str 0 0,.nsl,I 0,.str 0 0,.nsl,.str 0 0] → n1 + 1 ≤ n' → got r x m = x → k (.ag [I x.round,I x.at',I x.client,xa',I x.msg.kind,I x.msg.frm,I x.msg.to,I x.msg.view,I x.msg.normal,I x.msg.at',I x.msg.commit,I x.msg.round,I x.msg.client,I x.msg.session,I x.msg.number,I x.msg.code,I x.msg.agg,I x.msg.until',x.msg.series.sv,xb',I x.msg.log.base,x.msg.log.snap.sv,xm',x.msg.text.sv]) (putS mu' (n + 1 + 1 + 1) [I x.round,I x.at',I x.client,xa',I x.msg.kind,I x.msg.frm,I x.msg.to,I x.msg.view,I x.msg.normal,I x.msg.at',I x.msg.commit,I x.msg.round,I x.msg.client,I x.msg.session,I x.msg.number,I x.msg.code,I x.msg.agg,I x.msg.until',x.msg.series.sv,xb',I x.msg.log.base,x.msg.log.snap.sv,xm',x.msg.text.sv]) n'):=⟨λmu' n' g' u' b' _ hgx=>by
    have f1 : Sub (From (n + 1 + 1 + 1 + 1) (with' mu' fz)) (From n (with' (putS mu' (n + 1 + 1 + 1) (rdC x xa' xb' xm')) fz)):=(From.put (by omega) b').trans (From.le (by omega))
    have f0 : Sub (From n0 (with' mu' fz)) (From n (with' (putS mu' (n + 1 + 1 + 1) (rdC x xa' xb' xm')) fz)):=(From.le hn0).trans f1
    exact hk _ _ _ (g'.put (by omega) b') ⟨xa',xb',xm',by rw [hgx]; rfl,by rw [hgx]; exact IntsX.mono ((From.mono u').trans f1) v1,PtsX.mono ((From.mono u').trans f0) v2,EntsX.mono ((From.mono u').trans f0) v3⟩⟩
  have hxa' : IntsX (with' m2 fz) xa' x.agreed:=IntsX.mono From.sub v1
  have u1:=g1c.sub g1.free (Nat.le_refl _)
  rw [hm2] at u1
  have hf1:=g1.free
  clear hxa g1c g1
  simp only [↓E1,E2,zA,zB,zC,zD,zE,zF,zG,zH,zI,zJ,zK,zL,zM,zN,reduceIte,zO,zP, *]
  try rw [hm2]
  clear hm2
  try simp only [↓E1,E2,zA,zB,zC,zD,zE,zF,zG,zH,zI,zJ,zK,zL,zM,zN,reduceIte,zO,zP, *]
  clear wq hne b0
  refine Br_intro (λha1=>?_) (λha1=>?_)
  rotate_left
  · simp only [↓E1,E2,zA,zB,zC,zD,zE,zF,zG,zH,zI,zJ,zK,zL,zM,zN,reduceIte,zO,zP, *,with_putI,look_putS,Option.isSome_some,Option.map_some]
    exact leaf.out _ _ gg u b4 (by omega) (got_no (by first | (simp_all [gotB]; done) | (simp_all [gotB]; omega)))
  simp only [↓E1,E2,zA,zB,zC,zD,zE,zF,zG,zH,zI,zJ,zK,zL,zM,zN,reduceIte,zO,zP, *]
  refine (hM).c1 hfc (RepS.mono (gg.sub hfr (Nat.le_refl _)) s1) ?_
  rintro v mun3 n3 g3 rfl
  replace gg:=gg.trans (g3.weaken (by omega))
  replace u:=u.trans (g3.sub hfc (Nat.le_refl _))
  replace hfc:=g3.free
  have ln3:=g3.le
  replace b1:=(g3.own n (by omega)).trans b1
  replace b2:=(g3.own (n + 1) (by omega)).trans b2
  replace b3:=(g3.own (n + 1 + 1) (by omega)).trans b3
  replace b4:=(g3.own (n + 1 + 1 + 1) (by omega)).trans b4
  replace b5:=(g3.own n1 (by omega)).trans b5
  replace w1:=look_with (fz:=fz) b1
  replace w2:=look_with (fz:=fz) b2
  replace w3:=look_with (fz:=fz) b3
  replace w4:=look_with (fz:=fz) b4
  replace w5:=look_with (fz:=fz) b5
  simp only [↓E1,E2,zA,zB,zC,zD,zE,zF,zG,zH,zI,zJ,zK,zL,zM,zN,reduceIte,zO,zP, *]
  refine Br_intro (λha2=>?_) (λha2=>?_)
  rotate_left
  · simp only [↓E1,E2,zA,zB,zC,zD,zE,zF,zG,zH,zI,zJ,zK,zL,zM,zN,reduceIte,zO,zP, *,with_putI,look_putS,Option.isSome_some,Option.map_some]
    exact leaf.out _ _ gg u b4 (by omega) (got_no (by first | (simp_all [gotB]; done) | (simp_all [gotB]; omega)))
  simp only [↓E1,E2,zA,zB,zC,zD,zE,zF,zG,zH,zI,zJ,zK,zL,zM,zN,reduceIte,zO,zP, *]
  refine (hG).c1 hfc (MsgS.mono (gg.sub hfr (Nat.le_refl _)) t3) ?_
  rintro v mun4 n4 g4 rfl
  replace gg:=gg.trans (g4.weaken (by omega))
  replace u:=u.trans (g4.sub hfc (Nat.le_refl _))
  replace hfc:=g4.free
  have ln4:=g4.le
  replace b1:=(g4.own n (by omega)).trans b1
  replace b2:=(g4.own (n + 1) (by omega)).trans b2
  replace b3:=(g4.own (n + 1 + 1) (by omega)).trans b3
  replace b4:=(g4.own (n + 1 + 1 + 1) (by omega)).trans b4
  replace b5:=(g4.own n1 (by omega)).trans b5
  replace w1:=look_with (fz:=fz) b1
  replace w2:=look_with (fz:=fz) b2
  replace w3:=look_with (fz:=fz) b3
  replace w4:=look_with (fz:=fz) b4
  replace w5:=look_with (fz:=fz) b5
  simp only [↓E1,E2,zA,zB,zC,zD,zE,zF,zG,zH,zI,zJ,zK,zL,zM,zN,reduceIte,zO,zP, *]
  refine Br_intro (λha3=>?_) (λha3=>?_)
  rotate_left
  · simp only [↓E1,E2,zA,zB,zC,zD,zE,zF,zG,zH,zI,zJ,zK,zL,zM,zN,reduceIte,zO,zP, *,with_putI,look_putS,Option.isSome_some,Option.map_some]
    exact leaf.out _ _ gg u b4 (by omega) (got_no (by first | (simp_all [gotB]; done) | (simp_all [gotB]; omega)))
  simp only [↓E1,E2,zA,zB,zC,zD,zE,zF,zG,zH,zI,zJ,zK,zL,zM,zN,reduceIte,zO,zP, *]
  refine (hL).c1 hfc (RepS.mono (gg.sub hfr (Nat.le_refl _)) s1) ?_
  rintro v mun5 n5 g5 rfl
  replace gg:=gg.trans (g5.weaken (by omega))
  replace u:=u.trans (g5.sub hfc (Nat.le_refl _))
  replace hfc:=g5.free
  have ln5:=g5.le
  replace b1:=(g5.own n (by omega)).trans b1
  replace b2:=(g5.own (n + 1) (by omega)).trans b2
  replace b3:=(g5.own (n + 1 + 1) (by omega)).trans b3
  replace b4:=(g5.own (n + 1 + 1 + 1) (by omega)).trans b4
  replace b5:=(g5.own n1 (by omega)).trans b5
  replace w1:=look_with (fz:=fz) b1
  replace w2:=look_with (fz:=fz) b2
  replace w3:=look_with (fz:=fz) b3
  replace w4:=look_with (fz:=fz) b4
  replace w5:=look_with (fz:=fz) b5
  simp only [↓E1,E2,zA,zB,zC,zD,zE,zF,zG,zH,zI,zJ,zK,zL,zM,zN,reduceIte,zO,zP, *]
  refine Br_intro (λha4=>?_) (λha4=>?_)
  rotate_left
  · simp only [↓E1,E2,zA,zB,zC,zD,zE,zF,zG,zH,zI,zJ,zK,zL,zM,zN,reduceIte,zO,zP, *,with_putI,look_putS,Option.isSome_some,Option.map_some]
    exact leaf.out _ _ gg u b4 (by omega) (got_no (by first | (simp_all [gotB]; done) | (simp_all [gotB]; omega)))
  simp only [↓E1,E2,zA,zB,zC,zD,zE,zF,zG,zH,zI,zJ,zK,zL,zM,zN,reduceIte,zO,zP, *]
  refine Br_intro (λha5=>?_) (λha5=>?_)
  rotate_left
  · simp only [↓E1,E2,zA,zB,zC,zD,zE,zF,zG,zH,zI,zJ,zK,zL,zM,zN,reduceIte,zO,zP, *,with_putI,look_putS,Option.isSome_some,Option.map_some]
    exact leaf.out _ _ gg u b4 (by omega) (got_no (by first | (simp_all [gotB]; done) | (simp_all [gotB]; omega)))
  simp only [↓E1,E2,zA,zB,zC,zD,zE,zF,zG,zH,zI,zJ,zK,zL,zM,zN,reduceIte,zO,zP, *]
  refine Br_intro (λha6=>?_) (λha6=>?_)
  · simp only [↓E1,E2,zA,zB,zC,zD,zE,zF,zG,zH,zI,zJ,zK,zL,zM,zN,reduceIte,zO,zP, *,with_putI,look_putS,Option.isSome_some,Option.map_some]
    exact leaf.out _ _ gg u b4 (by omega) (got_no (by first | (simp_all [gotB]; done) | (simp_all [gotB]; omega)))
  simp only [↓E1,E2,zA,zB,zC,zD,zE,zF,zG,zH,zI,zJ,zK,zL,zM,zN,reduceIte,zO,zP, *]
  refine Br_intro (λha7=>?_) (λha7=>?_)
  · simp only [↓E1,E2,zA,zB,zC,zD,zE,zF,zG,zH,zI,zJ,zK,zL,zM,zN,reduceIte,zO,zP, *,with_putI,look_putS,Option.isSome_some,Option.map_some]
    exact leaf.out _ _ gg u b4 (by omega) (got_no (by first | (simp_all [gotB]; done) | (simp_all [gotB]; omega)))
  simp only [↓E1,E2,zA,zB,zC,zD,zE,zF,zG,zH,zI,zJ,zK,zL,zM,zN,reduceIte,zO,zP, *]
  refine Br_intro (λha8=>?_) (λha8=>?_)
  rotate_left
  · simp only [↓E1,E2,zA,zB,zC,zD,zE,zF,zG,zH,zI,zJ,zK,zL,zM,zN,reduceIte,zO,zP, *,with_putI,look_putS,Option.isSome_some,Option.map_some]
    exact leaf.out _ _ gg u b4 (by omega) (got_no (by first | (simp_all [gotB]; done) | (simp_all [gotB]; omega)))
  simp only [↓E1,E2,zA,zB,zC,zD,zE,zF,zG,zH,zI,zJ,zK,zL,zM,zN,reduceIte,zO,zP, *]
  refine Br_intro (λha9=>?_) (λha9=>?_)
  rotate_left
  · simp only [↓E1,E2,zA,zB,zC,zD,zE,zF,zG,zH,zI,zJ,zK,zL,zM,zN,reduceIte,zO,zP, *,with_putI,look_putS,Option.isSome_some,Option.map_some]
    exact leaf.out _ _ gg u b4 (by omega) (got_no (by first | (simp_all [gotB]; done) | (simp_all [gotB]; omega)))
  simp only [↓E1,E2,zA,zB,zC,zD,zE,zF,zG,zH,zI,zJ,zK,zL,zM,zN,reduceIte,zO,zP, *]
  have hgb : gotB r x m = true:=by first | (simp_all [gotB]; done) | (simp_all [gotB]; omega)
  have hgx : got r x m = { x with agreed:=putL x.agreed m.frm }:=by unfold got; rw [if_pos hgb]
  refine (slices_BinarySearch_int_int H xa' x.agreed m.frm hr (by omega)).c1 hfc (IntsR.mono (From.sub.trans u) (SlX.to v1)) ?_
  rintro v mun6 n6 g6 ⟨i,b,rfl,hat⟩
  replace gg:=gg.trans (g6.weaken (by omega))
  replace u:=u.trans (g6.sub hfc (Nat.le_refl _))
  replace hfc:=g6.free
  have ln6:=g6.le
  replace b1:=(g6.own n (by omega)).trans b1
  replace b2:=(g6.own (n + 1) (by omega)).trans b2
  replace b3:=(g6.own (n + 1 + 1) (by omega)).trans b3
  replace b4:=(g6.own (n + 1 + 1 + 1) (by omega)).trans b4
  replace b5:=(g6.own n1 (by omega)).trans b5
  replace w1:=look_with (fz:=fz) b1
  replace w2:=look_with (fz:=fz) b2
  replace w3:=look_with (fz:=fz) b3
  replace w4:=look_with (fz:=fz) b4
  replace w5:=look_with (fz:=fz) b5
  simp only [↓E1,E2,zA,zB,zC,zD,zE,zF,zG,zH,zI,zJ,zK,zL,zM,zN,reduceIte,zO,zP, *]
  cases b with
  | true =>
    have hgy : got r x m = x:=by rw [hgx,put_yes hr hat]
    simp only [↓E1,E2,zA,zB,zC,zD,zE,zF,zG,zH,zI,zJ,zK,zL,zM,zN,reduceIte,zO,zP, *,with_putI,look_putS,Option.isSome_some,Option.map_some]
    exact leaf.out _ _ gg u b4 (by omega) hgy
  | false =>
    clear leaf hgb ha1 ha2 ha3 ha4 ha5 ha6 ha7 ha8 ha9 hM hL hG hC s1 t1 t2 t3
    simp only [↓E1,E2,zA,zB,zC,zD,zE,zF,zG,zH,zI,zJ,zK,zL,zM,zN,reduceIte,zO,zP, *]
    have hv : Ev.look ((n6,[I m.frm]) :: mun6) n6 = some [I m.frm]:=by rw [look_c,if_pos rfl]
    refine hI _ _ _ _ _ (ins_at (l:=x.agreed) (t:=m.frm) (SlX.mono hxa' (u.trans (sub1 hfc))) (λid hid=>hfr.fz id (by have:=hge1 id hid; omega)) hat.le hv (λhid=>by have:=hlt1 _ hid; omega) (by omega) λmu' h1 h2 h3=>?_)
    have hlk : ∀ j,j < n6 → blk xa' ≠ some j → Ev.look mu' j = Ev.look mun6 j:=λj hj hb=>by rw [h1 j (by omega) hb,look_c,if_neg (by omega)]
    have c4 : Ev.look mu' (n + 1 + 1 + 1) = some [I 0,I 0,I 0,.nsl,I 0,I 0,I 0,I 0,I 0,I 0,I 0,I 0,I 0,I 0,I 0,I 0,I 0,I 0,.str 0 0,.nsl,I 0,.str 0 0,.nsl,.str 0 0]:=(hlk _ (by omega) (λhid=>by have:=hge1 _ hid; omega)).trans b4
    have c5 : Ev.look mu' n1 = some [I x.round,I x.at',I x.client,xa',I x.msg.kind,I x.msg.frm,I x.msg.to,I x.msg.view,I x.msg.normal,I x.msg.at',I x.msg.commit,I x.msg.round,I x.msg.client,I x.msg.session,I x.msg.number,I x.msg.code,I x.msg.agg,I x.msg.until',x.msg.series.sv,xb',I x.msg.log.base,x.msg.log.snap.sv,xm',x.msg.text.sv]:=(hlk _ (by omega) (λhid=>by have:=hlt1 _ hid; omega)).trans b5
    have g7 : Gr n fz mun6 mu' n6 (n6 + 1 + 1):=by
      refine ⟨by omega,λid hid=>with_congr (hlk id (by omega) (λhb=>by have:=hge1 _ hb; omega)),λid hid=>hlk id (by omega) (λhb=>by have:=hge1 _ hb; omega),λj=>?_⟩
      have:=h1 (n6 + 1 + 1 + j) (by omega) (λhb=>by have:=hlt1 _ hb; omega)
      rw [look_c,if_neg (by omega)] at this
      rw [with_congr this]
      exact hfc.none (by omega)
    have q1 : ∀ C',Ev.look (putS mu' n1 C') (n + 1 + 1 + 1) = some [I 0,I 0,I 0,.nsl,I 0,I 0,I 0,I 0,I 0,I 0,I 0,I 0,I 0,I 0,I 0,I 0,I 0,I 0,.str 0 0,.nsl,I 0,.str 0 0,.nsl,.str 0 0]:=λC'=>by rw [look_putS,if_neg (by omega)]; exact c4
    have f7 : ∀ C',Sub (From n0 (with' m1 fz)) (From n (with' (putS (putS mu' n1 C') (n + 1 + 1 + 1) C') fz)):=λC' j B hj=>by
      obtain ⟨e1,e2⟩:=From.el hj
      have e3:=hf1.lt e2
      have e4:=u _ _ (u1 _ _ e2)
      refine From.at (by omega) ?_
      rw [with_putS (q1 C'),if_neg (by omega),with_putS c5,if_neg (by omega),with_congr (hlk j (by omega) (λhb=>by have:=hlt _ hb; omega))]; exact e4
    have z4:=look_with (fz:=fz) c4
    have z5:=look_with (fz:=fz) c5
    have gH:=gg.trans g7
    have hput:=put_no hr hat
    rw [hput] at hgx
    have hlen : (x.agreed.take i ++ m.frm :: x.agreed.drop i).length = x.agreed.length + 1:=by have:=hat.le; simp; omega
    have hne4 : (n1 = n + 1 + 1 + 1) = False:=by simp; omega
    generalize x.agreed.take i ++ m.frm :: x.agreed.drop i = l' at *
    clear hv h1 h2 b1 b2 b3 b4 b5 w1 w2 w3 w4 w5
    simp only [↓E1,E2,zA,zB,zC,zD,zE,zF,zG,zH,zI,zJ,zK,zL,zM,zN,reduceIte,zO,zP, *,with_putI,look_putS,Option.isSome_some,Option.map_some]
    have gI:=(gH.put (id:=n1) (by omega) c5 (c:=[I x.round,I x.at',I x.client,(.osl (n6 + 1) 0 (x.agreed.length + 1) (x.agreed.length + 1) 1),I x.msg.kind,I x.msg.frm,I x.msg.to,I x.msg.view,I x.msg.normal,I x.msg.at',I x.msg.commit,I x.msg.round,I x.msg.client,I x.msg.session,I x.msg.number,I x.msg.code,I x.msg.agg,I x.msg.until',x.msg.series.sv,xb',I x.msg.log.base,x.msg.log.snap.sv,xm',x.msg.text.sv])).put (id:=n + 1 + 1 + 1) (by omega) (q1 _) (c:=[I x.round,I x.at',I x.client,(.osl (n6 + 1) 0 (x.agreed.length + 1) (x.agreed.length + 1) 1),I x.msg.kind,I x.msg.frm,I x.msg.to,I x.msg.view,I x.msg.normal,I x.msg.at',I x.msg.commit,I x.msg.round,I x.msg.client,I x.msg.session,I x.msg.number,I x.msg.code,I x.msg.agg,I x.msg.until',x.msg.series.sv,xb',I x.msg.log.base,x.msg.log.snap.sv,xm',x.msg.text.sv])
    refine hk _ _ _ gI ⟨.osl (n6 + 1) 0 (x.agreed.length + 1) (x.agreed.length + 1) 1,xb',xm',by rw [hgx]; rfl,?_,PtsX.mono (f7 _) hxb,EntsX.mono (f7 _) hxm⟩
    have hes:=SlX.mk_new (M:=From n (with' (putS (putS mu' n1 [I x.round,I x.at',I x.client,(.osl (n6 + 1) 0 (x.agreed.length + 1) (x.agreed.length + 1) 1),I x.msg.kind,I x.msg.frm,I x.msg.to,I x.msg.view,I x.msg.normal,I x.msg.at',I x.msg.commit,I x.msg.round,I x.msg.client,I x.msg.session,I x.msg.number,I x.msg.code,I x.msg.agg,I x.msg.until',x.msg.series.sv,xb',I x.msg.log.base,x.msg.log.snap.sv,xm',x.msg.text.sv]) (n + 1 + 1 + 1) [I x.round,I x.at',I x.client,(.osl (n6 + 1) 0 (x.agreed.length + 1) (x.agreed.length + 1) 1),I x.msg.kind,I x.msg.frm,I x.msg.to,I x.msg.view,I x.msg.normal,I x.msg.at',I x.msg.commit,I x.msg.round,I x.msg.client,I x.msg.session,I x.msg.number,I x.msg.code,I x.msg.agg,I x.msg.until',x.msg.series.sv,xb',I x.msg.log.base,x.msg.log.snap.sv,xm',x.msg.text.sv]) fz)) (s:=1) (id:=n6 + 1) (es:=l'.map intC) (From.at (by omega) (by rw [with_putS (q1 _),if_neg (by omega),with_putS c5,if_neg (by omega),ints_flatI]; exact look_with h3)) int_ok
    rw [List.length_map,hlen] at hes
    rw [hgx]; exact hes
end Go.Proofs.Ytnnjlnkoomeadaa.Pv
namespace Go.Proofs.Ytnnjlnkoomeadaa.Pv
open Go.Ev Go.Ev.Rp
set_option maxRecDepth 100000
set_option maxHeartbeats 4000000
set_option linter.unusedSimpArgs false
set_option linter.unusedVariables false
set_option linter.unusedSectionVars false
def andI (a b : Int) : Int:=IntKind.i64.wrap (BitVec.ofInt IntKind.i64.bits a &&& BitVec.ofInt IntKind.i64.bits b).toNat
theorem b_andI {a b : Int} {k : SV → Prop} : binI .and .i64 a b False k = k (.int .i64 (andI a b)):=b_and
variable {P : Program} (H : Fs P)
include H
end Go.Proofs.Ytnnjlnkoomeadaa.Pv
namespace Go.Proofs.Ytnnjlnkoomeadaa.Pv
open Go.Ev Go.Ev.Rp
set_option maxRecDepth 100000
set_option maxHeartbeats 4000000
set_option linter.unusedSimpArgs false
set_option linter.unusedVariables false
set_option linter.unusedSectionVars false
variable {P : Program} (H : Fs P)
include H
end Go.Proofs.Ytnnjlnkoomeadaa.Pv
namespace Go.Proofs.Ytnnjlnkoomeadaa.Pv
open Go.Ev Go.Ev.Rp
set_option maxRecDepth 100000
set_option maxHeartbeats 4000000
set_option linter.unusedSimpArgs false
set_option linter.unusedVariables false
set_option linter.unusedSectionVars false
variable {P : Program} (H : Fs P)
include H
end Go.Proofs.Ytnnjlnkoomeadaa.Pv
namespace Go.Ev
end Go.Ev
namespace Go.Proofs.Ytnnjlnkoomeadaa.Pv
open Go.Ev Go.Ev.Rp
set_option maxRecDepth 100000
set_option maxHeartbeats 4000000
set_option linter.unusedSimpArgs false
set_option linter.unusedVariables false
set_option linter.unusedSectionVars false
variable {P : Program} (H : Fs P)
include H
end Go.Proofs.Ytnnjlnkoomeadaa.Pv
namespace Go.Proofs.Ytnnjlnkoomeadaa.Pv
open Go.Ev Go.Ev.Rp
set_option maxRecDepth 100000
set_option maxHeartbeats 4000000
set_option linter.unusedSimpArgs false
set_option linter.unusedVariables false
set_option linter.unusedSectionVars false
variable {P : Program} (H : Fs P)
include H
end Go.Proofs.Ytnnjlnkoomeadaa.Pv
namespace Go.Proofs.Ytnnjlnkoomeadaa.Pv
open Go.Ev Go.Ev.Rp
set_option maxRecDepth 100000
set_option maxHeartbeats 4000000
set_option linter.unusedSimpArgs false
set_option linter.unusedVariables false
set_option linter.unusedSectionVars false
variable {P : Program} (H : Fs P)
include H
end Go.Proofs.Ytnnjlnkoomeadaa.Pv
namespace Go.Proofs.Ytnnjlnkoomeadaa.Pv
open Go.Ev Go.Ev.Rp
set_option maxRecDepth 100000
set_option maxHeartbeats 4000000
set_option linter.unusedSimpArgs false
set_option linter.unusedVariables false
set_option linter.unusedSectionVars false
theorem LentE.rs {lo : Nat} {M : Fz} {id : Nat} {l : List Ent} (h : LentE lo M id l) : EntsR M (.osl id 0 l.length (l.length + 1) 5) l:=by
  obtain ⟨cs,h1,h2⟩:=h
  have hl : cs.length = l.length + 1:=by simpa using h2.length
  rcases h1 with ⟨h | h,_⟩ | ⟨id',e,h3,h4,h5⟩
  · cases h
  · cases h
  · injection e with e1 e2 e3 e4 e5
    subst e1
    have htl : (cs.take l.length).length = l.length:=by simp; omega
    have hu : ∀ e ∈ cs.take l.length,e.length = 5 ∧ knownAll e = true:=λe he=>h5 e (List.mem_of_mem_take he)
    have hfl:=flat_length (s:=5) (es:=cs.take l.length) λe he=>(hu e he).1
    have hsplit : cs.flatten = (cs.take l.length).flatten ++ (cs.drop l.length).flatten:=by rw [← List.flatten_append,List.take_append_drop]
    rw [htl] at hfl
    have hs : Sl M 5 (.osl id 0 (cs.take l.length).length (l.length + 1) 5) (cs.take l.length):=by
      refine .inr ⟨id,0,l.length + 1,cs.flatten,rfl,by omega,From.sub _ _ h3,h4,?_,?_,hu⟩
      · rw [flat_length λe he=>(h5 e he).1,htl,hl]; omega
      · rw [List.drop_zero,hsplit,htl,List.take_left' hfl]
    rw [htl] at hs
    refine ⟨cs.take l.length,hs,All2.of_get (by omega) λi a b ha hb=>?_⟩
    obtain ⟨hi,rfl⟩:=List.getElem?_eq_some_iff.1 ha
    obtain ⟨hi2,rfl⟩:=List.getElem?_eq_some_iff.1 hb
    have h3:=h2.at (i:=i) (by omega) (by simp; omega)
    rw [List.getElem_append_left (by simpa using hi2),List.getElem_map] at h3
    obtain ⟨idp,h6,h7⟩:=h3
    rw [List.getElem_take]
    exact ⟨_,h6,PtsR.mono (Ex.sub.trans From.sub) (LentP.sl h7)⟩
theorem LentR.rs {M : Fz} {r : Rep} {ide ida ids : Nat} {xd : SV} (h : LentR M r ide ida ids xd) : RepS M r (.osl ide 0 r.log.ents.length (r.log.ents.length + 1) 5) (.osl ida 0 r.acks.length (r.acks.length + 2) 1) (.osl ids 0 r.starts.length (r.starts.length + 2) 1) xd:=by
  obtain ⟨⟨lo,h1⟩,h2,h3,lo',cs,h4,h5⟩:=h
  refine ⟨h1.rs,h2.sl,h3.sl,cs,Sl.mono h4.to From.sub,h5.imp λc d g=>?_⟩
  obtain ⟨id,lo2,e1,e2⟩:=g
  exact ⟨_,e1,EntsR.mono (Ex.sub.trans From.sub) e2.rs⟩
theorem LndSz.rs {r : Rep} (h : LndSz r) : RepSz r:=⟨⟨by have:=h.log.ents; omega,λe he=>by have:=h.log.bat e he; omega⟩,by have:=h.acks; omega,by have:=h.starts; omega,h.dos,λd hd=>⟨by have:=(h.dlog d hd).ents; omega,λe he=>by have:=(h.dlog d hd).bat e he; omega⟩⟩
variable {P : Program} (H : Fs P)
include H
end Go.Proofs.Ytnnjlnkoomeadaa.Pv
namespace Go.Proofs.Ytnnjlnkoomeadaa.Pv
open Go.Ev Go.Ev.Rp
set_option maxRecDepth 100000
set_option maxHeartbeats 4000000
set_option linter.unusedSimpArgs false
set_option linter.unusedVariables false
set_option linter.unusedSectionVars false
variable {P : Program} (H : Fs P)
include H
end Go.Proofs.Ytnnjlnkoomeadaa.Pv
