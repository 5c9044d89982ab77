/-
  ReplicaForms: part 5 of what the proof is made of.
-/
import Derived.Test.YtnnjlnkoomeadaaReplicaFormsP4
import Derived.Shelf.Spec.SlicesInsertGrow
set_option linter.unusedVariables false
set_option linter.unusedSimpArgs false
open Int renaming reduceEq → zA,reduceNe → zB,reduceLT → zC,reduceLE → zD,reduceNeg → zE,reduceAdd → zF,reduceSub → zG,reduceToNat → zH
open Nat renaming reduceEqDiff → zI,reduceAdd → zJ,reduceMul → zK,reduceSub → zL,reduceLeDiff → zM,reduceBEq → zN,reduceLT → zO,reduceBneDiff → zP
namespace Go.Proofs.Ytnnjlnkoomeadaa.Pv
open Go.Ev Go.Ev.Rp
set_option maxRecDepth 100000
set_option maxHeartbeats 4000000
set_option linter.unusedSimpArgs false
set_option linter.unusedVariables false
set_option linter.unusedSectionVars false
def PtsX (M : Fz) (x : SV) (l : List Pt) : Prop:=SlX M 3 x (l.map ptC)
def IntsX (M : Fz) (x : SV) (l : List Int) : Prop:=SlX M 1 x (l.map intC)
def EntX (M : Fz) (c : List SV) (e : Ent) : Prop:=∃ b,c = entC e b ∧ PtsX M b e.batch
def EntsX (M : Fz) (x : SV) (l : List Ent) : Prop:=∃ cs,SlX M 5 x cs ∧ All2 (EntX M) cs l
def DvX (M : Fz) (c : List SV) (d : Dv) : Prop:=∃ x,c = dvC d x ∧ EntsX M x d.log.ents
def DvsX (M : Fz) (x : SV) (l : List Dv) : Prop:=∃ cs,SlX M 6 x cs ∧ All2 (DvX M) cs l
section
variable {M M' : Fz} (hm : Sub M M')
include hm
theorem PtsX.mono {x : SV} {l : List Pt} (h : PtsX M x l) : PtsX M' x l:=SlX.mono h hm
theorem IntsX.mono {x : SV} {l : List Int} (h : IntsX M x l) : IntsX M' x l:=SlX.mono h hm
theorem EntX.mono {c : List SV} {e : Ent} (h : EntX M c e) : EntX M' c e:=let ⟨b,h1,h2⟩:=h; ⟨b,h1,PtsX.mono hm h2⟩
theorem EntsX.mono {x : SV} {l : List Ent} (h : EntsX M x l) : EntsX M' x l:=let ⟨cs,h1,h2⟩:=h; ⟨cs,SlX.mono h1 hm,h2.imp λ_ _ h=>EntX.mono hm h⟩
theorem DvX.mono {c : List SV} {d : Dv} (h : DvX M c d) : DvX M' c d:=let ⟨x,h1,h2⟩:=h; ⟨x,h1,EntsX.mono hm h2⟩
theorem DvsX.mono {x : SV} {l : List Dv} (h : DvsX M x l) : DvsX M' x l:=let ⟨cs,h1,h2⟩:=h; ⟨cs,SlX.mono h1 hm,h2.imp λ_ _ h=>DvX.mono hm h⟩
end
section
variable {M : Fz}
theorem PtsX.to {x : SV} {l : List Pt} (h : PtsX M x l) : PtsR M x l:=SlX.to h
theorem IntsX.to {x : SV} {l : List Int} (h : IntsX M x l) : IntsR M x l:=SlX.to h
theorem EntX.to {c : List SV} {e : Ent} (h : EntX M c e) : EntR M c e:=let ⟨b,h1,h2⟩:=h; ⟨b,h1,h2.to⟩
theorem EntsX.to {x : SV} {l : List Ent} (h : EntsX M x l) : EntsR M x l:=let ⟨cs,h1,h2⟩:=h; ⟨cs,h1.to,h2.imp λ_ _ h=>h.to⟩
theorem DvX.to {c : List SV} {d : Dv} (h : DvX M c d) : DvR M c d:=let ⟨x,h1,h2⟩:=h; ⟨x,h1,h2.to⟩
theorem DvsX.to {x : SV} {l : List Dv} (h : DvsX M x l) : DvsR M x l:=let ⟨cs,h1,h2⟩:=h; ⟨cs,h1.to,h2.imp λ_ _ h=>h.to⟩
end
theorem pt_ok {l : List Pt} : ∀ e ∈ l.map ptC,e.length = 3 ∧ knownAll e = true:=by
  intro e he
  obtain ⟨p,_,rfl⟩:=List.mem_map.1 he
  exact ⟨rfl,rfl⟩
theorem int_ok {l : List Int} : ∀ e ∈ l.map intC,e.length = 1 ∧ knownAll e = true:=by
  intro e he
  obtain ⟨p,_,rfl⟩:=List.mem_map.1 he
  exact ⟨rfl,rfl⟩
theorem fits_le {n b : Nat} (h : n * b ≤ 140737488355328) (h1 : 1 ≤ b) (h2 : b ≤ 65536) : fits n b = true:=by
  unfold fits
  cases Nat.ble (Nat.mul n (Nat.succ b)) roomy with
  | true=>rfl
  | false =>
    have e1 : Nat.ble (Nat.mul n b) 140737488355328 = true:=by rw [Nat.ble_eq]; exact h
    have e2 : Nat.ble 1 b = true:=by rw [Nat.ble_eq]; exact h1
    have e3 : Nat.ble b 65536 = true:=by rw [Nat.ble_eq]; exact h2
    rw [e1,e2,e3]; rfl
theorem sub1 {fz : Fz} {mu : St} {n : Nat} (hfr : Free fz mu n) {c : List SV} : Sub (with' mu fz) (with' ((n,c) :: mu) fz):=λ_ _ hh=>((Gr.refl (lo:=n) hfr).cons (Nat.le_refl _) _).old hfr hh
theorem sub2 {fz : Fz} {mu : St} {n : Nat} (hfr : Free fz mu n) {c d : List SV} : Sub (with' mu fz) (with' ((n + 1,d) :: (n,c) :: mu) fz):=λ_ _ hh=>(((Gr.refl (lo:=n) hfr).cons (Nat.le_refl _) _).cons (Nat.le_succ _) _).old hfr hh
theorem gr1 {fz : Fz} {mu : St} {n : Nat} (hfr : Free fz mu n) {c : List SV} : Gr n fz mu ((n,c) :: mu) n (n + 1):=(Gr.refl hfr).cons (Nat.le_refl _) _
theorem gr2 {fz : Fz} {mu : St} {n : Nat} (hfr : Free fz mu n) {c d : List SV} : Gr n fz mu ((n + 1,d) :: (n,c) :: mu) n (n + 2):=(gr1 hfr).cons (Nat.le_succ _) _
variable {P : Program} (H : Fs P)
include H
end Go.Proofs.Ytnnjlnkoomeadaa.Pv
namespace Go.Proofs.Ytnnjlnkoomeadaa.Pv
open Go.Ev Go.Ev.Rp
set_option maxRecDepth 100000
set_option maxHeartbeats 4000000
set_option linter.unusedSimpArgs false
set_option linter.unusedVariables false
set_option linter.unusedSectionVars false
variable {P : Program} (H : Fs P)
include H
end Go.Proofs.Ytnnjlnkoomeadaa.Pv
namespace Go.Proofs.Ytnnjlnkoomeadaa.Pv
open Go.Ev Go.Ev.Rp
set_option maxRecDepth 100000
set_option maxHeartbeats 4000000
set_option linter.unusedSimpArgs false
set_option linter.unusedVariables false
set_option linter.unusedSectionVars false
def prv (p : Int) (l : List Int) (i : Nat) : Int:=if i = 0 then p else l.getD (i - 1) 0
def riseAt (me k p : Int) (l : List Int) (i : Nat) : Bool:=decide (prv p l i < l.getD i 0) && decide (l.getD i 0 < k) && decide (l.getD i 0 ≠ me)
theorem rises_all (me k : Int) : ∀ (l : List Int) (p : Int),risesB me k p l = (List.range l.length).all (riseAt me k p l)
  | [],p=>rfl
  | a :: l,p=>by
    rw [risesB,rises_all me k l a,List.length_cons,List.range_succ_eq_map,List.all_cons,List.all_map]
    congr 1
    apply List.all_congr rfl
    intro i
    cases i <;> rfl
def dosOk (r : Rep) (i : Nat) : Bool:=match r.dos[i]? with | none=>true | some d=>lgB d.log && decide (0 ≤ d.normal) && decide (d.normal < r.view) && decide (0 ≤ d.commit)
theorem dos_all (r : Rep) : dosB r = (List.range r.dos.length).all (dosOk r):=by
  unfold dosB
  rw [Bool.eq_iff_iff,List.all_eq_true,List.all_eq_true]
  constructor
  · intro h i hi
    have hi : i < r.dos.length:=by simpa using hi
    unfold dosOk
    rw [List.getElem?_eq_getElem hi]
    exact h _ (List.getElem_mem hi)
  · intro h d hd
    obtain ⟨i,hi,rfl⟩:=List.getElem_of_mem hd
    have:=h i (by simpa using hi)
    unfold dosOk at this
    rw [List.getElem?_eq_getElem hi] at this
    exact this
def doAt (r : Rep) (i : Nat) : Bool:=riseAt r.me r.nodes (-1) (r.dos.map (·.frm)) i && dosOk r i
theorem do_all (r : Rep) : (risesB r.me r.nodes (-1) (r.dos.map (·.frm)) && dosB r) = (List.range r.dos.length).all (doAt r):=by
  rw [rises_all,dos_all,List.length_map]
  unfold doAt
  rw [Bool.eq_iff_iff]
  simp only [Bool.and_eq_true,List.all_eq_true]
  exact ⟨λh i hi=>⟨h.1 i hi,h.2 i hi⟩,λh=>⟨λi hi=>(h i hi).1,λi hi=>(h i hi).2⟩⟩
theorem repB_eq (r : Rep) : repB r = (meB r.me r.nodes && decide (0 ≤ r.status) && decide (r.status ≤ 2) && countB r.view && countB r.normal && countB r.commit &&
  decide (r.normal ≤ r.view) && (decide (r.status ≠ 0) || decide (r.normal = r.view)) && lgB r.log && decide (r.log.base ≤ r.commit) && decide (r.commit ≤ last r.log) &&
  decide ((r.acks.length : Int) = r.nodes) && !(r.acks.any λa=>!countB a) && (decide (r.status = 1) || decide (r.starts.length = 0) && decide (r.dos.length = 0) && !r.sent) &&
  risesB r.me r.nodes (-1) r.starts && (risesB r.me r.nodes (-1) (r.dos.map (·.frm)) && dosB r)):=by
  unfold repB meB
  rw [List.all_eq_not_any_not,Bool.and_assoc (_ && risesB r.me r.nodes (-1) r.starts)]
variable {P : Program} (H : Fs P)
include H
theorem replica_May (r : Rep) (xe xa xs xd : SV) (hl1 : r.starts.length ≤ 1152921504606846976) (hl2 : r.dos.length ≤ 1152921504606846976) (hl3 : r.acks.length ≤ 1152921504606846976) :
    BoolC P n_replica_May [.ag (repC r xe xa xs xd)] (λM=>EntsR M xe r.log.ents ∧ IntsR M xa r.acks ∧ IntsR M xs r.starts ∧ DvsR M xd r.dos) (repB r):=boolC H.mx H.replica_May (r.starts.length + r.dos.length + 1) λfz mu n k hfr gg s h=>by
  obtain ⟨s1,s2,s3,s4⟩:=s
  obtain ⟨xel,xes,xek,xem⟩:=s1.len
  obtain ⟨xal,xas,xak,xam⟩:=s2.len
  obtain ⟨xsl,xss,xsk,xsm⟩:=s3.len
  obtain ⟨xdl,xds,xdk,xdm⟩:=s4.len
  have hfr0:=hfr
  have loop0 : Hide (∀ (e : Env) mu1 n1 (K : LK) w, Gr n fz mu mu1 n n1 → with' mu1 fz n = some (repC r xe xa xs xd) → e 0 1 = .one (.optr n 0) → e 6 14 = .one xs → e 6 15 = .one (.int .i64 r.starts.length) → e 7 0 = .one (.int .i64 0) → e 0 3 = .one (.int .i64 (-1)) →
      (risesB r.me r.nodes (-1) r.starts = true → ∀ e' mu' n',Gr n fz mu mu' n n' → with' mu' fz n = some (repC r xe xa xs xd) → e' 0 1 = .one (.optr n 0) → K (.exit 0) (tmE 184 e') mu' n') →
      (risesB r.me r.nodes (-1) r.starts = false → ∀ e' mu' n',Gr n fz mu mu' n n' → e' 0 2 = .one (.bool false) → K .ret (tmE 184 e') mu' n') →
      Lp (dcode pOrc False (CP P) fz (r.starts.length + r.dos.length + 1) l_replica_May_0) (r.starts.length + r.dos.length + 1) (tmE 184 e) mu1 n1 K w):=⟨by
    intro e mu1 n1 K w g1 a1 a2 a3 a4 a5 a6 hd hr
    rw [rises_all] at hd hr
    refine loopI (x:=0) (L:=r.starts.length) (p:=riseAt r.me r.nodes (-1) r.starts) (λi e mu' n'=>Gr n fz mu mu' n n' ∧ with' mu' fz n = some (repC r xe xa xs xd) ∧ e 0 1 = .one (.optr n 0) ∧ e 6 14 = .one xs ∧ e 6 15 = .one (.int .i64 r.starts.length) ∧ e 7 0 = .one (.int .i64 i) ∧ e 0 3 = .one (.int .i64 (prv (-1) r.starts i)))
      (λe mu' n'=>Gr n fz mu mu' n n' ∧ e 0 2 = .one (.bool false)) ?_ ?_ e mu1 n1 K w (by omega) ⟨g1,a1,a2,a3,a4,a5,a6⟩ (λha e' mu' n' hI=>hd (all_range ha) e' mu' n' hI.1 hI.2.1 hI.2.2.1) (λhx e' mu' n' hR=>hr (not_all_range hx) e' mu' n' hR.1 hR.2)
    · rintro i e mu1 n1 K hi ⟨g1,b1,a2,a3,a4,a5,a6⟩ hy hn
      have t3:=IntsR.mono (λ_ _ hh=>g1.old hfr0 hh) s3
      obtain ⟨id,off,cap,B,rfl,hB,hmk,hbd,hsub⟩:=t3.elem hi
      have hw:=wrap_succ hi (by omega)
      have hle:=Nat.le_refl n1
      have hp : prv (-1) r.starts (i + 1) = r.starts[i]:=by simp [prv,hi]
      have hg : r.starts.getD i 0 = r.starts[i]:=by simp [hi]
      clear hd hr h
      unfold repC at b1
      rw [dc_at l_replica_May_0.eq_1]
      simp only [↓E1,E2,zA,zB,zC,zD,zE,zF,zG,zH,zI,zJ,zK,zL,zM,zN,reduceIte,zO,zP, *]
      repeat' (first | ((with_reducible refine Br_intro (λhb=>?_) (λhb=>?_)) <;> simp only [↓E1,E2,zA,zB,zC,zD,zE,zF,zG,zH,zI,zJ,zK,zL,zM,zN,reduceIte,zO,zP, *]))
      all_goals first
        | (refine hy ?_ _ _ _ ⟨g1,b1,?_,?_,?_,?_,?_⟩ <;> (try simp [updN,updE, *]) <;> (clear hy hn; simp_all [riseAt]); done)
        | (refine hn ?_ _ _ _ ⟨g1,?_⟩ <;> (try simp [updN,updE, *]) <;> (clear hy hn; simp_all [riseAt]; try omega); done)
    · rintro e mu n K hI hd
      obtain ⟨g1,a1,a2,a3,a4,a5,a6⟩:=id hI
      rw [dc_at l_replica_May_0.eq_1]
      have hlt : (r.starts.length < r.starts.length) = False:=by simp
      simp only [↓E1,E2,zA,zB,zC,zD,zE,zF,zG,zH,zI,zJ,zK,zL,zM,zN,reduceIte,zO,zP, *]
      all_goals refine hd _ _ _ ⟨g1,a1,by simp [updN,updE, *],by simp [updN,updE, *],by simp [updN,updE, *],by simp [updN,updE, *],by simp [updN,updE, *]⟩⟩
  have loop1 : Hide (∀ (e : Env) mu1 n1 (K : LK) w, Gr n fz mu mu1 n n1 → with' mu1 fz n = some (repC r xe xa xs xd) → e 0 1 = .one (.optr n 0) → e 8 6 = .one xd → e 8 7 = .one (.int .i64 r.dos.length) → e 8 8 = .one (.int .i64 0) → e 0 3 = .one (.int .i64 (-1)) →
      ((risesB r.me r.nodes (-1) (r.dos.map (·.frm)) && dosB r) = true → ∀ e' mu' n',Gr n fz mu mu' n n' → K (.exit 2) (tmE 184 e') mu' n') →
      ((risesB r.me r.nodes (-1) (r.dos.map (·.frm)) && dosB r) = false → ∀ e' mu' n',Gr n fz mu mu' n n' → e' 0 2 = .one (.bool false) → K .ret (tmE 184 e') mu' n') →
      Lp (dcode pOrc False (CP P) fz (r.starts.length + r.dos.length + 1) l_replica_May_1) (r.starts.length + r.dos.length + 1) (tmE 184 e) mu1 n1 K w):=⟨by
    clear loop0
    intro e mu1 n1 K w g1 a1 a2 a3 a4 a5 a6 hd hr
    rw [do_all] at hd hr
    refine loopI (x:=2) (L:=r.dos.length) (p:=doAt r) (λi e mu' n'=>Gr n fz mu mu' n n' ∧ with' mu' fz n = some (repC r xe xa xs xd) ∧ e 0 1 = .one (.optr n 0) ∧ e 8 6 = .one xd ∧ e 8 7 = .one (.int .i64 r.dos.length) ∧ e 8 8 = .one (.int .i64 i) ∧ e 0 3 = .one (.int .i64 (prv (-1) (r.dos.map (·.frm)) i)))
      (λe mu' n'=>Gr n fz mu mu' n n' ∧ e 0 2 = .one (.bool false)) ?_ ?_ e mu1 n1 K w (by omega) ⟨g1,a1,a2,a3,a4,a5,a6⟩ (λha e' mu' n' hI=>hd (all_range ha) e' mu' n' hI.1) (λhx e' mu' n' hR=>hr (not_all_range hx) e' mu' n' hR.1 hR.2)
    · rintro i e mu1 n1 K hi ⟨g1,b1,a2,a3,a4,a5,a6⟩ hy hn
      have t4:=DvsR.mono (λ_ _ hh=>g1.old hfr0 hh) s4
      obtain ⟨id,off,cap,B,bx,rfl,hB,hmk,hbd,hsub,t5⟩:=t4.elem hi
      obtain ⟨ybl,ybs,ybk,ybm⟩:=t5.len
      have hw:=wrap_succ hi (by omega)
      have hle:=Nat.le_refl n1
      have hfr:=g1.free
      have gg:=Gr.refl (lo:=n1) hfr
      have hp : prv (-1) (r.dos.map (·.frm)) (i + 1) = r.dos[i].frm:=by simp [prv,hi]
      have hg : (r.dos.map (·.frm)).getD i 0 = r.dos[i].frm:=by simp [hi]
      have hgi : r.dos[i]? = some r.dos[i]:=List.getElem?_eq_getElem hi
      have hn1 : n < n1:=g1.free.lt b1
      have hne : ¬ n1 = n:=by omega
      have hmm:=message_MayLog H r.dos[i].log bx
      clear hd hr h
      unfold repC at b1
      unfold dvC at hsub
      rw [dc_at l_replica_May_1.eq_1]
      simp only [↓E1,E2,zA,zB,zC,zD,zE,zF,zG,zH,zI,zJ,zK,zL,zM,zN,reduceIte,zO,zP, *]
      repeat' (first | ((with_reducible refine Br_intro (λhb=>?_) (λhb=>?_)) <;> simp only [↓E1,E2,zA,zB,zC,zD,zE,zF,zG,zH,zI,zJ,zK,zL,zM,zN,reduceIte,zO,zP, *]) | ((with_reducible refine CPr_f (f:=n_message_MayLog) ?_); ((first | (refine (hmm).d2 hfr (by first | trivial | exact t5 | assumption) ?_; rintro v mu2 n2 g2 rfl) | (refine (hmm).d3 hfr (λhm=>by first | trivial | exact EntsR.mono hm t5) ?_; rintro v mu2 n2 g2 b7 rfl) | (refine (hmm).c1 hfr (by first | trivial | exact t5 | assumption) ?_; rintro v mu2 n2 g2 rfl) | (refine (hmm).c2 hfr (λhm=>by first | trivial | exact EntsR.mono hm t5) ?_; rintro v mu2 n2 g2 b7 rfl) | (refine (hmm).c3 hfr (λhm=>by first | trivial | exact EntsR.mono hm t5) ?_; rintro v mu2 n2 g2 b7 b8 rfl)); (try replace b1:=g2.old hfr b1); (try replace b7:=g2.old hfr b7); (try replace t5:=EntsR.mono (λ_ _ hh=>g2.old hfr hh) t5); replace gg:=gg.trans (g2.weaken hle); replace hle:=Nat.le_trans hle g2.le; replace hfr:=g2.free; clear g2; simp only [↓E1,E2,zA,zB,zC,zD,zE,zF,zG,zH,zI,zJ,zK,zL,zM,zN,reduceIte,zO,zP, *])))
      all_goals first
        | (refine hy ?_ _ _ _ ⟨g1.trans (gg.weaken g1.le),b1,?_,?_,?_,?_,?_⟩ <;> (try simp [updN,updE, *]) <;> (clear hy hn hmm; simp_all [doAt,riseAt,dosOk]); done)
        | (refine hn ?_ _ _ _ ⟨(by first | exact g1.trans (gg.weaken g1.le) | exact g1.cons g1.le _),?_⟩ <;> (try simp [updN,updE, *]) <;> (clear hy hn hmm; simp_all [doAt,riseAt,dosOk]; try omega); done)
    · rintro e mu n K hI hd
      obtain ⟨g1,a1,a2,a3,a4,a5,a6⟩:=id hI
      rw [dc_at l_replica_May_1.eq_1]
      have hlt : (r.dos.length < r.dos.length) = False:=by simp
      simp only [↓E1,E2,zA,zB,zC,zD,zE,zF,zG,zH,zI,zJ,zK,zL,zM,zN,reduceIte,zO,zP, *]
      all_goals refine hd _ _ _ ⟨g1,a1,by simp [updN,updE, *],by simp [updN,updE, *],by simp [updN,updE, *],by simp [updN,updE, *],by simp [updN,updE, *]⟩⟩
  rw [i_replica_May,dc_at b_replica_May.eq_1]
  have hA : True:=trivial
  have hle:=Nat.le_refl n
  have hwa : IntKind.i64.wrap ((r.starts.length : Int) + r.dos.length) = ((r.starts.length + r.dos.length : Nat) : Int):=by rw [wrap64 (by omega) (by omega)]; rfl
  unfold repC
  simp only [↓E1,E2,zA,zB,zC,zD,zE,zF,zG,zH,zI,zJ,zK,zL,zM,zN,reduceIte,zO,zP, *]
  repeat' (first | ((with_reducible refine Br_intro (λhb=>?_) (λhb=>?_)) <;> (replace hA:=And.intro hA hb; clear hb; simp only [↓E1,E2,zA,zB,zC,zD,zE,zF,zG,zH,zI,zJ,zK,zL,zM,zN,reduceIte,zO,zP, *])) | ((with_reducible refine CPr_f (f:=n_repair_Nodes) ?_); ((first | (refine (repair_Nodes H _ _).d2 hfr (by first | trivial | exact s1 | exact s2 | exact s3 | exact s4 | assumption) ?_; rintro v mu2 n2 g2 rfl) | (refine (repair_Nodes H _ _).d3 hfr (λhm=>by first | trivial | exact EntsR.mono hm s1 | exact IntsR.mono hm s2 | exact IntsR.mono hm s3 | exact DvsR.mono hm s4) ?_; rintro v mu2 n2 g2 b1 rfl) | (refine (repair_Nodes H _ _).c1 hfr (by first | trivial | exact s1 | exact s2 | exact s3 | exact s4 | assumption) ?_; rintro v mu2 n2 g2 rfl) | (refine (repair_Nodes H _ _).c2 hfr (λhm=>by first | trivial | exact EntsR.mono hm s1 | exact IntsR.mono hm s2 | exact IntsR.mono hm s3 | exact DvsR.mono hm s4) ?_; rintro v mu2 n2 g2 b1 rfl) | (refine (repair_Nodes H _ _).c3 hfr (λhm=>by first | trivial | exact EntsR.mono hm s1 | exact IntsR.mono hm s2 | exact IntsR.mono hm s3 | exact DvsR.mono hm s4) ?_; rintro v mu2 n2 g2 b1 b2 rfl)); (try replace b1:=g2.old hfr b1); (try replace s1:=EntsR.mono (λ_ _ hh=>g2.old hfr hh) s1); (try replace s2:=IntsR.mono (λ_ _ hh=>g2.old hfr hh) s2); (try replace s3:=IntsR.mono (λ_ _ hh=>g2.old hfr hh) s3); (try replace s4:=DvsR.mono (λ_ _ hh=>g2.old hfr hh) s4); replace gg:=gg.trans (g2.weaken hle); replace hle:=Nat.le_trans hle g2.le; replace hfr:=g2.free; clear g2; simp only [↓E1,E2,zA,zB,zC,zD,zE,zF,zG,zH,zI,zJ,zK,zL,zM,zN,reduceIte,zO,zP, *])) | ((with_reducible refine CPr_f (f:=n_replica_within) ?_); ((first | (refine (replica_within H _).d2 hfr (by first | trivial | exact s1 | exact s2 | exact s3 | exact s4 | assumption) ?_; rintro v mu2 n2 g2 rfl) | (refine (replica_within H _).d3 hfr (λhm=>by first | trivial | exact EntsR.mono hm s1 | exact IntsR.mono hm s2 | exact IntsR.mono hm s3 | exact DvsR.mono hm s4) ?_; rintro v mu2 n2 g2 b1 rfl) | (refine (replica_within H _).c1 hfr (by first | trivial | exact s1 | exact s2 | exact s3 | exact s4 | assumption) ?_; rintro v mu2 n2 g2 rfl) | (refine (replica_within H _).c2 hfr (λhm=>by first | trivial | exact EntsR.mono hm s1 | exact IntsR.mono hm s2 | exact IntsR.mono hm s3 | exact DvsR.mono hm s4) ?_; rintro v mu2 n2 g2 b1 rfl) | (refine (replica_within H _).c3 hfr (λhm=>by first | trivial | exact EntsR.mono hm s1 | exact IntsR.mono hm s2 | exact IntsR.mono hm s3 | exact DvsR.mono hm s4) ?_; rintro v mu2 n2 g2 b1 b2 rfl)); (try replace b1:=g2.old hfr b1); (try replace s1:=EntsR.mono (λ_ _ hh=>g2.old hfr hh) s1); (try replace s2:=IntsR.mono (λ_ _ hh=>g2.old hfr hh) s2); (try replace s3:=IntsR.mono (λ_ _ hh=>g2.old hfr hh) s3); (try replace s4:=DvsR.mono (λ_ _ hh=>g2.old hfr hh) s4); replace gg:=gg.trans (g2.weaken hle); replace hle:=Nat.le_trans hle g2.le; replace hfr:=g2.free; clear g2; simp only [↓E1,E2,zA,zB,zC,zD,zE,zF,zG,zH,zI,zJ,zK,zL,zM,zN,reduceIte,zO,zP, *])) | ((with_reducible refine CPr_f (f:=n_message_MayLog) ?_); ((first | (refine (message_MayLog H r.log xe).d2 hfr (by first | trivial | exact s1 | exact s2 | exact s3 | exact s4 | assumption) ?_; rintro v mu2 n2 g2 rfl) | (refine (message_MayLog H r.log xe).d3 hfr (λhm=>by first | trivial | exact EntsR.mono hm s1 | exact IntsR.mono hm s2 | exact IntsR.mono hm s3 | exact DvsR.mono hm s4) ?_; rintro v mu2 n2 g2 b1 rfl) | (refine (message_MayLog H r.log xe).c1 hfr (by first | trivial | exact s1 | exact s2 | exact s3 | exact s4 | assumption) ?_; rintro v mu2 n2 g2 rfl) | (refine (message_MayLog H r.log xe).c2 hfr (λhm=>by first | trivial | exact EntsR.mono hm s1 | exact IntsR.mono hm s2 | exact IntsR.mono hm s3 | exact DvsR.mono hm s4) ?_; rintro v mu2 n2 g2 b1 rfl) | (refine (message_MayLog H r.log xe).c3 hfr (λhm=>by first | trivial | exact EntsR.mono hm s1 | exact IntsR.mono hm s2 | exact IntsR.mono hm s3 | exact DvsR.mono hm s4) ?_; rintro v mu2 n2 g2 b1 b2 rfl)); (try replace b1:=g2.old hfr b1); (try replace s1:=EntsR.mono (λ_ _ hh=>g2.old hfr hh) s1); (try replace s2:=IntsR.mono (λ_ _ hh=>g2.old hfr hh) s2); (try replace s3:=IntsR.mono (λ_ _ hh=>g2.old hfr hh) s3); (try replace s4:=DvsR.mono (λ_ _ hh=>g2.old hfr hh) s4); replace gg:=gg.trans (g2.weaken hle); replace hle:=Nat.le_trans hle g2.le; replace hfr:=g2.free; clear g2; simp only [↓E1,E2,zA,zB,zC,zD,zE,zF,zG,zH,zI,zJ,zK,zL,zM,zN,reduceIte,zO,zP, *])) | ((with_reducible refine CPr_f (f:=n_choose_Last) ?_); ((first | (refine (choose_Last H r.log xe).d2 hfr (by first | trivial | exact s1 | exact s2 | exact s3 | exact s4 | assumption) ?_; rintro v mu2 n2 g2 rfl) | (refine (choose_Last H r.log xe).d3 hfr (λhm=>by first | trivial | exact EntsR.mono hm s1 | exact IntsR.mono hm s2 | exact IntsR.mono hm s3 | exact DvsR.mono hm s4) ?_; rintro v mu2 n2 g2 b1 rfl) | (refine (choose_Last H r.log xe).c1 hfr (by first | trivial | exact s1 | exact s2 | exact s3 | exact s4 | assumption) ?_; rintro v mu2 n2 g2 rfl) | (refine (choose_Last H r.log xe).c2 hfr (λhm=>by first | trivial | exact EntsR.mono hm s1 | exact IntsR.mono hm s2 | exact IntsR.mono hm s3 | exact DvsR.mono hm s4) ?_; rintro v mu2 n2 g2 b1 rfl) | (refine (choose_Last H r.log xe).c3 hfr (λhm=>by first | trivial | exact EntsR.mono hm s1 | exact IntsR.mono hm s2 | exact IntsR.mono hm s3 | exact DvsR.mono hm s4) ?_; rintro v mu2 n2 g2 b1 b2 rfl)); (try replace b1:=g2.old hfr b1); (try replace s1:=EntsR.mono (λ_ _ hh=>g2.old hfr hh) s1); (try replace s2:=IntsR.mono (λ_ _ hh=>g2.old hfr hh) s2); (try replace s3:=IntsR.mono (λ_ _ hh=>g2.old hfr hh) s3); (try replace s4:=DvsR.mono (λ_ _ hh=>g2.old hfr hh) s4); replace gg:=gg.trans (g2.weaken hle); replace hle:=Nat.le_trans hle g2.le; replace hfr:=g2.free; clear g2; simp only [↓E1,E2,zA,zB,zC,zD,zE,zF,zG,zH,zI,zJ,zK,zL,zM,zN,reduceIte,zO,zP, *])) | ((with_reducible refine CPr_f (f:=n_slices_ContainsFunc_int_int) ?_); ((first | (refine (contains_ints H _ _ (replica_May_1 H) xa r.acks (Nat.le_trans hl3 (by decide))).d2 hfr (by first | trivial | exact s1 | exact s2 | exact s3 | exact s4 | assumption) ?_; rintro v mu2 n2 g2 rfl) | (refine (contains_ints H _ _ (replica_May_1 H) xa r.acks (Nat.le_trans hl3 (by decide))).d3 hfr (λhm=>by first | trivial | exact EntsR.mono hm s1 | exact IntsR.mono hm s2 | exact IntsR.mono hm s3 | exact DvsR.mono hm s4) ?_; rintro v mu2 n2 g2 b1 rfl) | (refine (contains_ints H _ _ (replica_May_1 H) xa r.acks (Nat.le_trans hl3 (by decide))).c1 hfr (by first | trivial | exact s1 | exact s2 | exact s3 | exact s4 | assumption) ?_; rintro v mu2 n2 g2 rfl) | (refine (contains_ints H _ _ (replica_May_1 H) xa r.acks (Nat.le_trans hl3 (by decide))).c2 hfr (λhm=>by first | trivial | exact EntsR.mono hm s1 | exact IntsR.mono hm s2 | exact IntsR.mono hm s3 | exact DvsR.mono hm s4) ?_; rintro v mu2 n2 g2 b1 rfl) | (refine (contains_ints H _ _ (replica_May_1 H) xa r.acks (Nat.le_trans hl3 (by decide))).c3 hfr (λhm=>by first | trivial | exact EntsR.mono hm s1 | exact IntsR.mono hm s2 | exact IntsR.mono hm s3 | exact DvsR.mono hm s4) ?_; rintro v mu2 n2 g2 b1 b2 rfl)); (try replace b1:=g2.old hfr b1); (try replace s1:=EntsR.mono (λ_ _ hh=>g2.old hfr hh) s1); (try replace s2:=IntsR.mono (λ_ _ hh=>g2.old hfr hh) s2); (try replace s3:=IntsR.mono (λ_ _ hh=>g2.old hfr hh) s3); (try replace s4:=DvsR.mono (λ_ _ hh=>g2.old hfr hh) s4); replace gg:=gg.trans (g2.weaken hle); replace hle:=Nat.le_trans hle g2.le; replace hfr:=g2.free; clear g2; simp only [↓E1,E2,zA,zB,zC,zD,zE,zF,zG,zH,zI,zJ,zK,zL,zM,zN,reduceIte,zO,zP, *])))
  all_goals try (refine leafB h (by first | exact gg | exact gg.cons hle _ | exact (gg.cons hle _).cons (Nat.le_succ_of_le hle) _) ?_; (clear h gg hle hfr); (try clear loop); (try clear loop0); (try clear loop1); (try clear s1); (try clear s2); (try clear s3); (try clear s4); (try clear b1); (try clear b2); clear xel xes xek xem xal xas xak xam xsl xss xsk xsm xdl xds xdk xdm hfr0 hwa; rw [repB_eq]; (try generalize (r.acks.any λa=>!countB a) = qq at hA ⊢); first | (simp_all [-List.length_eq_zero_iff]; done) | (simp_all [-List.length_eq_zero_iff]; omega))
  all_goals ((with_reducible refine Lp_at ?_); refine loop0.out _ _ _ _ _ gg b1 (by simp [updN,updE]) (by simp [updN,updE]) (by simp [updN,updE]) (by simp [updN,updE]) (by simp [updN,updE]) (λhr e1 mu1 n1 g1 b1 a2=>?_) (λhr e1 mu1 n1 g1 a1=>?_))
  all_goals (replace hA:=And.intro hA hr; clear hr gg s1 s2 s3 s4 hfr hle)
  all_goals try (simp only [↓E1,E2,zA,zB,zC,zD,zE,zF,zG,zH,zI,zJ,zK,zL,zM,zN,reduceIte,zO,zP, *]; refine leafB h g1 ?_; clear h g1 loop0 loop1 b1 xel xes xek xem xal xas xak xam xsl xss xsk xsm xdl xds xdk xdm hfr0 hwa; rw [repB_eq]; (try generalize (r.acks.any λa=>!countB a) = qq at hA ⊢); simp_all [-List.length_eq_zero_iff]; done)
  all_goals
    have b0:=b1
    unfold repC at b1
    simp only [↓E1,E2,zA,zB,zC,zD,zE,zF,zG,zH,zI,zJ,zK,zL,zM,zN,reduceIte,zO,zP, *]
    refine loop1.out _ _ _ _ _ g1 b0 (by simp [updN,updE, *]) (by simp [updN,updE, *]) (by simp [updN,updE, *]) (by simp [updN,updE, *]) (by simp [updN,updE, *]) (λhr e2 mu2 n2 g2=>?_) (λhr e2 mu2 n2 g2 a1=>?_)
  all_goals (replace hA:=And.intro hA hr; clear hr; simp only [↓E1,E2,zA,zB,zC,zD,zE,zF,zG,zH,zI,zJ,zK,zL,zM,zN,reduceIte,zO,zP, *]; refine leafB h g2 ?_; clear h g1 g2 loop0 loop1 b0 b1 xel xes xek xem xal xas xak xam xsl xss xsk xsm xdl xds xdk xdm hfr0 hwa; rw [repB_eq]; (try generalize (r.acks.any λa=>!countB a) = qq at hA ⊢); first | (simp_all [-List.length_eq_zero_iff]; done) | (simp_all [-List.length_eq_zero_iff]; omega) | (simp_all [-List.length_eq_zero_iff]; exfalso; omega))
end Go.Proofs.Ytnnjlnkoomeadaa.Pv
namespace Go.Proofs.Ytnnjlnkoomeadaa.Pv
open Go.Ev Go.Ev.Rp
set_option maxRecDepth 100000
set_option maxHeartbeats 4000000
set_option linter.unusedSimpArgs false
set_option linter.unusedVariables false
set_option linter.unusedSectionVars false
variable {P : Program} (H : Fs P)
include H
end Go.Proofs.Ytnnjlnkoomeadaa.Pv
namespace Go.Proofs.Ytnnjlnkoomeadaa.Pv
open Go.Ev Go.Ev.Rp
set_option maxRecDepth 100000
set_option maxHeartbeats 4000000
set_option linter.unusedSimpArgs false
set_option linter.unusedVariables false
set_option linter.unusedSectionVars false
def prim (v k : Int) : Int:=if k < 1 ∨ v < 0 then 0 else v.tmod k
variable {P : Program} (H : Fs P)
include H
theorem ref1_Count (x : Int) : BoolC P n_ref1_Count [.one (I x)] (λ_=>True) (countB x):=boolC H.mx H.ref1_Count 0 λfz mu n k hfr gg _ h=>by
  rw [i_ref1_Count,dc_at b_ref1_Count.eq_1]
  have hA : True:=trivial
  have hle:=Nat.le_refl n
  simp only [↓E1,E2,zA,zB,zC,zD,zE,zF,zG,zH,zI,zJ,zK,zL,zM,zN,reduceIte,zO,zP]
  repeat' (first | ((with_reducible refine Br_intro (λhb=>?_) (λhb=>?_)) <;> (replace hA:=And.intro hA hb; clear hb; simp only [↓E1,E2,zA,zB,zC,zD,zE,zF,zG,zH,zI,zJ,zK,zL,zM,zN,reduceIte,zO,zP, *])))
  all_goals try (refine leafB h (by first | exact gg | exact gg.cons hle _ | exact (gg.cons hle _).cons (Nat.le_succ_of_le hle) _) ?_; (clear h gg hle hfr); (try clear loop); (try clear loop0); (try clear loop1); (try clear s1); (try clear s2); (try clear s3); (try clear s4); (try clear b1); (try clear b2); skip; first | (simp_all [countB]; done) | (simp_all [countB]; omega))
theorem ref1_Small (x : Int) : BoolC P n_ref1_Small [.one (I x)] (λ_=>True) (smallB x):=boolC H.mx H.ref1_Small 0 λfz mu n k hfr gg _ h=>by
  rw [i_ref1_Small,dc_at b_ref1_Small.eq_1]
  have hA : True:=trivial
  have hle:=Nat.le_refl n
  simp only [↓E1,E2,zA,zB,zC,zD,zE,zF,zG,zH,zI,zJ,zK,zL,zM,zN,reduceIte,zO,zP]
  repeat' (first | ((with_reducible refine Br_intro (λhb=>?_) (λhb=>?_)) <;> (replace hA:=And.intro hA hb; clear hb; simp only [↓E1,E2,zA,zB,zC,zD,zE,zF,zG,zH,zI,zJ,zK,zL,zM,zN,reduceIte,zO,zP, *])))
  all_goals try (refine leafB h (by first | exact gg | exact gg.cons hle _ | exact (gg.cons hle _).cons (Nat.le_succ_of_le hle) _) ?_; (clear h gg hle hfr); (try clear loop); (try clear loop0); (try clear loop1); (try clear s1); (try clear s2); (try clear s3); (try clear s4); (try clear b1); (try clear b2); skip; first | (simp_all [smallB]; done) | (simp_all [smallB]; omega))
theorem ref16_Nodes (x : Int) : BoolC P n_ref16_Nodes [.one (I x)] (λ_=>True) (nodesB x):=boolC H.mx H.ref16_Nodes 0 λfz mu n k hfr gg _ h=>by
  rw [i_ref16_Nodes,dc_at b_ref16_Nodes.eq_1]
  have hA : True:=trivial
  have hle:=Nat.le_refl n
  simp only [↓E1,E2,zA,zB,zC,zD,zE,zF,zG,zH,zI,zJ,zK,zL,zM,zN,reduceIte,zO,zP]
  repeat' (first | ((with_reducible refine Br_intro (λhb=>?_) (λhb=>?_)) <;> (replace hA:=And.intro hA hb; clear hb; simp only [↓E1,E2,zA,zB,zC,zD,zE,zF,zG,zH,zI,zJ,zK,zL,zM,zN,reduceIte,zO,zP, *])))
  all_goals try (refine leafB h (by first | exact gg | exact gg.cons hle _ | exact (gg.cons hle _).cons (Nat.le_succ_of_le hle) _) ?_; (clear h gg hle hfr); (try clear loop); (try clear loop0); (try clear loop1); (try clear s1); (try clear s2); (try clear s3); (try clear s4); (try clear b1); (try clear b2); skip; first | (simp_all [nodesB]; done) | (simp_all [nodesB]; omega))
theorem ref16_Last (l : Lg) (x : SV) : Ctr P n_ref16_Last [.ag (lgC l x)] (λM=>EntsR M x l.ents) (λ_ _ _ v=>v = .one (I (last l))):=Ctr.of H.mx H.ref16_Last (λ_=>0) λfz mu n k hfr hx hk=>by
  obtain ⟨xl,xs,xk,xm⟩:=hx.len
  rw [i_ref16_Last,dc_at b_ref16_Last.eq_1]
  unfold lgC
  simp only [↓E1,E2,zA,zB,zC,zD,zE,zF,zG,zH,zI,zJ,zK,zL,zM,zN,reduceIte,zO,zP,xl,xs,xk,xm]
  exact hk _ _ _ ((Gr.refl hfr).cons (Nat.le_refl _) _) rfl
theorem replica_Primary (v k0 : Int) : Ctr P n_replica_Primary [.one (I v),.one (I k0)] (λ_=>True) (λ_ _ _ w=>w = .one (I (prim v k0))):=Ctr.of H.mx H.replica_Primary (λ_=>0) λfz mu n k hfr _ h=>by
  rw [i_replica_Primary,dc_at b_replica_Primary.eq_1]
  have gg:=Gr.refl (lo:=n) hfr
  have hA : True:=trivial
  have hle:=Nat.le_refl n
  simp only [↓E1,E2,zA,zB,zC,zD,zE,zF,zG,zH,zI,zJ,zK,zL,zM,zN,reduceIte,zO,zP]
  repeat' (first | ((with_reducible refine Br_intro (λhb=>?_) (λhb=>?_)) <;> (replace hA:=And.intro hA hb; clear hb; simp only [↓E1,E2,zA,zB,zC,zD,zE,zF,zG,zH,zI,zJ,zK,zL,zM,zN,reduceIte,zO,zP, *])))
  all_goals try (refine h _ _ _ gg ?_; clear h; simp_all [prim]; done)
  have hz : ¬ k0 = 0:=by simp at hA; omega
  simp only [↓E1,E2,zA,zB,zC,zD,zE,zF,zG,zH,zI,zJ,zK,zL,zM,zN,reduceIte,zO,zP,hz]
  refine h _ _ _ gg ?_
  simp at hA
  simp [prim]; omega
theorem ref16_Primary (v k0 : Int) : Ctr P n_ref16_Primary [.one (I v),.one (I k0)] (λ_=>True) (λ_ _ _ w=>w = .one (I (prim v k0))):=Ctr.of H.mx H.ref16_Primary (λ_=>0) λfz mu n k hfr _ h=>by
  rw [i_ref16_Primary,dc_at b_ref16_Primary.eq_1]
  have gg:=Gr.refl (lo:=n) hfr
  have hA : True:=trivial
  have hle:=Nat.le_refl n
  simp only [↓E1,E2,zA,zB,zC,zD,zE,zF,zG,zH,zI,zJ,zK,zL,zM,zN,reduceIte,zO,zP]
  repeat' (first | ((with_reducible refine Br_intro (λhb=>?_) (λhb=>?_)) <;> (replace hA:=And.intro hA hb; clear hb; simp only [↓E1,E2,zA,zB,zC,zD,zE,zF,zG,zH,zI,zJ,zK,zL,zM,zN,reduceIte,zO,zP, *])))
  all_goals try (refine h _ _ _ gg ?_; clear h; simp_all [prim]; done)
  have hz : ¬ k0 = 0:=by simp at hA; omega
  simp only [↓E1,E2,zA,zB,zC,zD,zE,zF,zG,zH,zI,zJ,zK,zL,zM,zN,reduceIte,zO,zP,hz]
  refine h _ _ _ gg ?_
  simp at hA
  simp [prim]; omega
end Go.Proofs.Ytnnjlnkoomeadaa.Pv
namespace Go.Proofs.Ytnnjlnkoomeadaa.Pv
open Go.Ev Go.Ev.Rp
set_option maxRecDepth 100000
set_option maxHeartbeats 4000000
set_option linter.unusedSimpArgs false
set_option linter.unusedVariables false
set_option linter.unusedSectionVars false
variable {P : Program} (H : Fs P)
include H
theorem ref1_Name (t : Tx) : BoolC P n_ref1_Name [.one t.sv] (λ_=>True) (nameB t):=boolC H.mx H.ref1_Name 14 λfz mu n k hfr gg _ h=>by
  rw [i_ref1_Name,dc_at b_ref1_Name.eq_1]
  have hA : True:=trivial
  have hle:=Nat.le_refl n
  simp only [↓E1,E2,zA,zB,zC,zD,zE,zF,zG,zH,zI,zJ,zK,zL,zM,zN,reduceIte,zO,zP]
  repeat' (first | ((with_reducible refine Br_intro (λhb=>?_) (λhb=>?_)) <;> (replace hA:=And.intro hA hb; clear hb; simp only [↓E1,E2,zA,zB,zC,zD,zE,zF,zG,zH,zI,zJ,zK,zL,zM,zN,reduceIte,zO,zP, *])))
  all_goals try (refine leafB h (by first | exact gg | exact gg.cons hle _ | exact (gg.cons hle _).cons (Nat.le_succ_of_le hle) _) ?_; (clear h gg hle hfr); (try clear loop); (try clear loop0); (try clear loop1); (try clear s1); (try clear s2); (try clear s3); (try clear s4); (try clear b1); (try clear b2); skip; first | (simp_all [nameB]; done) | (simp_all [nameB]; omega))
  obtain ⟨⟨-,h1⟩,h2⟩:=hA
  have hl : t.l ≤ 12:=by simp at h2; omega
  have hl1 : 1 ≤ t.l:=by simp at h1; omega
  refine loopI (x:=0) (L:=t.l) (p:=λi=>okByte (byteAt t.l t.n i)) (λi e mu' n'=>Gr n fz mu mu' n n' ∧ e 0 0 = .one t.sv ∧ e 0 3 = .one (.int .i64 i)) (λe mu' n'=>Gr n fz mu mu' n n' ∧ e 0 2 = .one (.bool false)) ?_ ?_ _ mu n _ _ (by omega) ⟨gg,by simp [updN,updE,envI],by simp [updN,updE]⟩ ?_ ?_
  · rintro i e mu1 n1 K hi ⟨g1,h0,hc⟩ hy hn
    rw [dc_at l_ref1_Name_0.eq_1]
    have hw:=wrap_succ hi (by omega)
    obtain ⟨b,hbe⟩ : ∃ b,t.n / 256 ^ (t.l - 1 - i) % 256 = b:=⟨_,rfl⟩
    rw [show byteAt t.l t.n i = b from hbe,ok_byte] at hy hn
    clear h
    have hA : True:=trivial
    simp only [↓E1,E2,zA,zB,zC,zD,zE,zF,zG,zH,zI,zJ,zK,zL,zM,zN,reduceIte,zO,zP,h0,hc,hi,hbe]
    repeat' ((with_reducible refine Br_intro (λhb=>?_) (λhb=>?_)) <;> (replace hA:=And.intro hA hb; clear hb; simp only [↓E1,E2,zA,zB,zC,zD,zE,zF,zG,zH,zI,zJ,zK,zL,zM,zN,reduceIte,zO,zP,hA,hc,hw,hbe]))
    all_goals first
      | (refine hn (by clear hy hn hbe; simp_all; try omega) _ _ _ ⟨g1,?_⟩; simp [updN,updE]; done)
      | (refine hy (by clear hy hn hbe; simp_all; try omega) _ _ _ ⟨g1,?_,?_⟩ <;> simp [updN,updE,h0]; done)
  · rintro e mu1 n1 K ⟨g1,h0,hc⟩ hx
    rw [dc_at l_ref1_Name_0.eq_1]
    have hlt : (t.l < t.l) = False:=by simp
    simp only [↓E1,E2,zA,zB,zC,zD,zE,zF,zG,zH,zI,zJ,zK,zL,zM,zN,reduceIte,zO,zP,h0,hc,hlt]
    exact hx _ _ _ ⟨g1,by simp [updN,updE,h0],by simp [updN,updE,hc]⟩
  · intro ha e' mu' n' ⟨g,_⟩
    simp only [↓E1,E2,zA,zB,zC,zD,zE,zF,zG,zH,zI,zJ,zK,zL,zM,zN,reduceIte,zO,zP]
    exact leafB h g (by unfold nameB; simp [hl,hl1,all_range ha])
  · intro hx e' mu' n' ⟨g,hR⟩
    simp only [↓E1,E2,zA,zB,zC,zD,zE,zF,zG,zH,zI,zJ,zK,zL,zM,zN,reduceIte,zO,zP,hR]
    exact leafB h g (by unfold nameB; rw [not_all_range hx]; simp)
theorem ref1_May (p : Pt) : BoolC P n_ref1_May [.ag (ptC p)] (λ_=>True) (ptB p):=boolC H.mx H.ref1_May 0 λfz mu n k hfr gg _ h=>by
  rw [i_ref1_May,dc_at b_ref1_May.eq_1]
  unfold ptC
  have hA : True:=trivial
  have hle:=Nat.le_refl n
  simp only [↓E1,E2,zA,zB,zC,zD,zE,zF,zG,zH,zI,zJ,zK,zL,zM,zN,reduceIte,zO,zP]
  repeat' (first | ((with_reducible refine Br_intro (λhb=>?_) (λhb=>?_)) <;> (replace hA:=And.intro hA hb; clear hb; simp only [↓E1,E2,zA,zB,zC,zD,zE,zF,zG,zH,zI,zJ,zK,zL,zM,zN,reduceIte,zO,zP, *])) | ((with_reducible refine CPr_f (f:=n_ref1_Name) ?_); ((first | (refine (ref1_Name H p.series).d2 hfr (by first | trivial | assumption) ?_; rintro v mu2 n2 g2 rfl) | (refine (ref1_Name H p.series).d3 hfr (λhm=>by first | trivial) ?_; rintro v mu2 n2 g2 b1 rfl) | (refine (ref1_Name H p.series).c1 hfr (by first | trivial | assumption) ?_; rintro v mu2 n2 g2 rfl) | (refine (ref1_Name H p.series).c2 hfr (λhm=>by first | trivial) ?_; rintro v mu2 n2 g2 b1 rfl) | (refine (ref1_Name H p.series).c3 hfr (λhm=>by first | trivial) ?_; rintro v mu2 n2 g2 b1 b2 rfl)); (try replace b1:=g2.old hfr b1); replace gg:=gg.trans (g2.weaken hle); replace hle:=Nat.le_trans hle g2.le; replace hfr:=g2.free; clear g2; simp only [↓E1,E2,zA,zB,zC,zD,zE,zF,zG,zH,zI,zJ,zK,zL,zM,zN,reduceIte,zO,zP, *])) | ((with_reducible refine CPr_f (f:=n_ref1_Small) ?_); ((first | (refine (ref1_Small H _).d2 hfr (by first | trivial | assumption) ?_; rintro v mu2 n2 g2 rfl) | (refine (ref1_Small H _).d3 hfr (λhm=>by first | trivial) ?_; rintro v mu2 n2 g2 b1 rfl) | (refine (ref1_Small H _).c1 hfr (by first | trivial | assumption) ?_; rintro v mu2 n2 g2 rfl) | (refine (ref1_Small H _).c2 hfr (λhm=>by first | trivial) ?_; rintro v mu2 n2 g2 b1 rfl) | (refine (ref1_Small H _).c3 hfr (λhm=>by first | trivial) ?_; rintro v mu2 n2 g2 b1 b2 rfl)); (try replace b1:=g2.old hfr b1); replace gg:=gg.trans (g2.weaken hle); replace hle:=Nat.le_trans hle g2.le; replace hfr:=g2.free; clear g2; simp only [↓E1,E2,zA,zB,zC,zD,zE,zF,zG,zH,zI,zJ,zK,zL,zM,zN,reduceIte,zO,zP, *])))
  all_goals try (refine leafB h (by first | exact gg | exact gg.cons hle _ | exact (gg.cons hle _).cons (Nat.le_succ_of_le hle) _) ?_; (clear h gg hle hfr); (try clear loop); (try clear loop0); (try clear loop1); (try clear s1); (try clear s2); (try clear s3); (try clear s4); (try clear b1); (try clear b2); skip; first | (simp_all [ptB]; done) | (simp_all [ptB]; omega))
theorem ref1_Batch (x : SV) (l : List Pt) (hl : l.length ≤ 1152921504606846976) : BoolC P n_ref1_Batch [.one x] (λM=>PtsR M x l) (batchB l):=boolC H.mx H.ref1_Batch (l.length + 1) λfz mu n k hfr gg s1 h=>by
  obtain ⟨xl,xs,xk,xm⟩:=s1.len
  have hfr0:=hfr
  rw [i_ref1_Batch,dc_at b_ref1_Batch.eq_1]
  have hA : True:=trivial
  have hle:=Nat.le_refl n
  simp only [↓E1,E2,zA,zB,zC,zD,zE,zF,zG,zH,zI,zJ,zK,zL,zM,zN,reduceIte,zO,zP, *]
  refine loopI (x:=0) (L:=l.length) (p:=λi=>(l[i]?.map ptB).getD true) (λi e mu' n'=>Gr n fz mu mu' n n' ∧ e 0 0 = .one x ∧ e 0 3 = .one (.int .i64 i)) (λe mu' n'=>Gr n fz mu mu' n n' ∧ e 0 2 = .one (.bool false)) ?_ ?_ _ mu n _ _ (by omega) ⟨gg,by simp [updN,updE,envI],by simp [updN,updE]⟩ ?_ ?_
  · rintro i e mu1 n1 K hi ⟨g1,h0,hc⟩ hy hn
    have s2:=PtsR.mono (λ_ _ hh=>g1.old hfr0 hh) s1
    obtain ⟨id,off,cap,B,rfl,hB,hmk,hbd,hsub⟩:=s2.elem hi
    rw [dc_at l_ref1_Batch_0.eq_1]
    have hw:=wrap_succ hi (by omega)
    simp only [↓E1,E2,zA,zB,zC,zD,zE,zF,zG,zH,zI,zJ,zK,zL,zM,zN,reduceIte,zO,zP,h0,hc,hi,hB,hmk,hbd,hsub]
    refine (ref1_May H l[i]).c1 g1.free trivial ?_
    rintro v mu' n' g rfl
    have g2:=g1.trans (g.weaken g1.le)
    cases hp : ptB l[i] with
    | true =>
      simp only [↓E1,E2,zA,zB,zC,zD,zE,zF,zG,zH,zI,zJ,zK,zL,zM,zN,reduceIte,zO,zP,hc,hw]
      exact hy (by simp [hi,hp]) _ _ _ ⟨g2,by simp [updN,updE,h0],by simp [updN,updE]⟩
    | false =>
      simp only [↓E1,E2,zA,zB,zC,zD,zE,zF,zG,zH,zI,zJ,zK,zL,zM,zN,reduceIte,zO,zP]
      exact hn (by simp [hi,hp]) _ _ _ ⟨g2,by simp [updN,updE]⟩
  · rintro e mu1 n1 K ⟨g1,h0,hc⟩ hx
    rw [dc_at l_ref1_Batch_0.eq_1]
    have hlt : (l.length < l.length) = False:=by simp
    simp only [↓E1,E2,zA,zB,zC,zD,zE,zF,zG,zH,zI,zJ,zK,zL,zM,zN,reduceIte,zO,zP,h0,hc,hlt,xl,xs]
    exact hx _ _ _ ⟨g1,by simp [updN,updE,h0],by simp [updN,updE,hc]⟩
  · intro ha e' mu' n' ⟨g,h0,_⟩
    simp only [↓E1,E2,zA,zB,zC,zD,zE,zF,zG,zH,zI,zJ,zK,zL,zM,zN,reduceIte,zO,zP,h0,xl,xs]
    exact leafB h g (by unfold batchB; rw [all_list ha]; simp; try omega)
  · intro hx e' mu' n' ⟨g,hR⟩
    simp only [↓E1,E2,zA,zB,zC,zD,zE,zF,zG,zH,zI,zJ,zK,zL,zM,zN,reduceIte,zO,zP,hR]
    exact leafB h g (by unfold batchB; rw [not_all_list hx]; simp)
theorem ref4_EntryMay (e : Ent) (b : SV) (hl : e.batch.length ≤ 1152921504606846976) : BoolC P n_ref4_EntryMay [.ag (entC e b)] (λM=>PtsR M b e.batch) (entB e):=boolC H.mx H.ref4_EntryMay 0 λfz mu n k hfr gg s1 h=>by
  obtain ⟨xl,xs,xk,xm⟩:=s1.len
  rw [i_ref4_EntryMay,dc_at b_ref4_EntryMay.eq_1]
  unfold entC
  have hA : True:=trivial
  have hle:=Nat.le_refl n
  simp only [↓E1,E2,zA,zB,zC,zD,zE,zF,zG,zH,zI,zJ,zK,zL,zM,zN,reduceIte,zO,zP,xl,xs,xk,xm]
  repeat' (first | ((with_reducible refine Br_intro (λhb=>?_) (λhb=>?_)) <;> (replace hA:=And.intro hA hb; clear hb; simp only [↓E1,E2,zA,zB,zC,zD,zE,zF,zG,zH,zI,zJ,zK,zL,zM,zN,reduceIte,zO,zP, *])) | ((with_reducible refine CPr_f (f:=n_ref1_Count) ?_); ((first | (refine (ref1_Count H _).d2 hfr (by first | trivial | exact s1 | assumption) ?_; rintro v mu2 n2 g2 rfl) | (refine (ref1_Count H _).d3 hfr (λhm=>by first | trivial | exact PtsR.mono hm s1) ?_; rintro v mu2 n2 g2 b1 rfl) | (refine (ref1_Count H _).c1 hfr (by first | trivial | exact s1 | assumption) ?_; rintro v mu2 n2 g2 rfl) | (refine (ref1_Count H _).c2 hfr (λhm=>by first | trivial | exact PtsR.mono hm s1) ?_; rintro v mu2 n2 g2 b1 rfl) | (refine (ref1_Count H _).c3 hfr (λhm=>by first | trivial | exact PtsR.mono hm s1) ?_; rintro v mu2 n2 g2 b1 b2 rfl)); (try replace b1:=g2.old hfr b1); (try replace s1:=PtsR.mono (λ_ _ hh=>g2.old hfr hh) s1); replace gg:=gg.trans (g2.weaken hle); replace hle:=Nat.le_trans hle g2.le; replace hfr:=g2.free; clear g2; simp only [↓E1,E2,zA,zB,zC,zD,zE,zF,zG,zH,zI,zJ,zK,zL,zM,zN,reduceIte,zO,zP, *])) | ((with_reducible refine CPr_f (f:=n_ref1_Batch) ?_); ((first | (refine (ref1_Batch H b e.batch hl).d2 hfr (by first | trivial | exact s1 | assumption) ?_; rintro v mu2 n2 g2 rfl) | (refine (ref1_Batch H b e.batch hl).d3 hfr (λhm=>by first | trivial | exact PtsR.mono hm s1) ?_; rintro v mu2 n2 g2 b1 rfl) | (refine (ref1_Batch H b e.batch hl).c1 hfr (by first | trivial | exact s1 | assumption) ?_; rintro v mu2 n2 g2 rfl) | (refine (ref1_Batch H b e.batch hl).c2 hfr (λhm=>by first | trivial | exact PtsR.mono hm s1) ?_; rintro v mu2 n2 g2 b1 rfl) | (refine (ref1_Batch H b e.batch hl).c3 hfr (λhm=>by first | trivial | exact PtsR.mono hm s1) ?_; rintro v mu2 n2 g2 b1 b2 rfl)); (try replace b1:=g2.old hfr b1); (try replace s1:=PtsR.mono (λ_ _ hh=>g2.old hfr hh) s1); replace gg:=gg.trans (g2.weaken hle); replace hle:=Nat.le_trans hle g2.le; replace hfr:=g2.free; clear g2; simp only [↓E1,E2,zA,zB,zC,zD,zE,zF,zG,zH,zI,zJ,zK,zL,zM,zN,reduceIte,zO,zP, *])))
  all_goals try (refine leafB h (by first | exact gg | exact gg.cons hle _ | exact (gg.cons hle _).cons (Nat.le_succ_of_le hle) _) ?_; (clear h gg hle hfr); (try clear loop); (try clear loop0); (try clear loop1); (try clear s1); (try clear s2); (try clear s3); (try clear s4); (try clear b1); (try clear b2); clear xl xs xk xm; first | (simp_all [entB,-List.length_eq_zero_iff]; done) | (simp_all [entB,-List.length_eq_zero_iff]; omega))
end Go.Proofs.Ytnnjlnkoomeadaa.Pv
namespace Go.Proofs.Ytnnjlnkoomeadaa.Pv
open Go.Ev Go.Ev.Rp
set_option maxRecDepth 100000
set_option maxHeartbeats 4000000
set_option linter.unusedSimpArgs false
set_option linter.unusedVariables false
set_option linter.unusedSectionVars false
def RepS (M : Fz) (r : Rep) (xe xa xs xd : SV) : Prop:=EntsR M xe r.log.ents ∧ IntsR M xa r.acks ∧ IntsR M xs r.starts ∧ DvsR M xd r.dos
def MsgS (M : Fz) (m : Msg) (xb xe : SV) : Prop:=PtsR M xb m.batch ∧ EntsR M xe m.log.ents
theorem RepS.mono {M M' : Fz} (hm : ∀ id B,M id = some B → M' id = some B) {r : Rep} {xe xa xs xd : SV} (h : RepS M r xe xa xs xd) : RepS M' r xe xa xs xd:=⟨EntsR.mono hm h.1,IntsR.mono hm h.2.1,IntsR.mono hm h.2.2.1,DvsR.mono hm h.2.2.2⟩
theorem MsgS.mono {M M' : Fz} (hm : ∀ id B,M id = some B → M' id = some B) {m : Msg} {xb xe : SV} (h : MsgS M m xb xe) : MsgS M' m xb xe:=⟨PtsR.mono hm h.1,EntsR.mono hm h.2⟩
def Ok (l : Lg) : Prop:=∀ e ∈ l.ents,e.batch.length ≤ 1152921504606846976
variable {P : Program} (H : Fs P)
include H
theorem ref4_LogMay (l : Lg) (x : SV) (hok : Ok l) : BoolC P n_ref4_LogMay [.ag (lgC l x)] (λM=>EntsR M x l.ents) (lgB l):=boolC H.mx H.ref4_LogMay 4098 λfz mu n k hfr gg s1 h=>by
  obtain ⟨xl,xs,xk,xm⟩:=s1.len
  have hfr0:=hfr
  have z1:=s1
  have loop : Hide (∀ (e : Env) mu1 n1 (K : LK) w, l.ents.length ≤ 4096 → Gr n fz mu mu1 n n1 → with' mu1 fz n = some (lgC l x) → e 0 1 = .one (.optr n 0) → e 0 3 = .one (.int .i64 0) →
      (l.ents.all entB = true → ∀ e' mu' n',Gr n fz mu mu' n n' → K (.exit 0) (tmE 44 e') mu' n') → (l.ents.all entB = false → ∀ e' mu' n',Gr n fz mu mu' n n' → e' 0 2 = .one (.bool false) → K .ret (tmE 44 e') mu' n') →
      Lp (dcode pOrc False (CP P) fz 4098 l_ref4_LogMay_0) 4098 (tmE 44 e) mu1 n1 K w):=⟨by
    intro e mu1 n1 K w hl g1 b1 h0 hc hd hr
    refine loopI (x:=0) (L:=l.ents.length) (p:=λi=>(l.ents[i]?.map entB).getD true) (λi e mu' n'=>Gr n fz mu mu' n n' ∧ with' mu' fz n = some (lgC l x) ∧ e 0 1 = .one (.optr n 0) ∧ e 0 3 = .one (.int .i64 i)) (λe mu' n'=>Gr n fz mu mu' n n' ∧ e 0 2 = .one (.bool false)) ?_ ?_ e mu1 n1 K w (by omega) ⟨g1,b1,h0,hc⟩ (λha e' mu' n' hI=>hd (all_list ha) e' mu' n' hI.1) (λhx e' mu' n' hR=>hr (not_all_list hx) e' mu' n' hR.1 hR.2)
    · rintro i e mu1 n1 K hi ⟨g1,b1,h0,hc⟩ hy hn
      have b0:=b1
      have t1:=EntsR.mono (λ_ _ hh=>g1.old hfr0 hh) z1
      obtain ⟨id,off,cap,B,bx,rfl,hB,hmk,hbd,hsub,s2⟩:=t1.elem hi
      have hw:=wrap_succ hi (by omega)
      unfold lgC at b1
      unfold entC at hsub
      rw [dc_at l_ref4_LogMay_0.eq_1]
      simp only [↓E1,E2,zA,zB,zC,zD,zE,zF,zG,zH,zI,zJ,zK,zL,zM,zN,reduceIte,zO,zP,h0,hc,hi,hB,hmk,hbd,hsub,b1]
      refine (ref4_EntryMay H l.ents[i] bx (hok _ (List.getElem_mem hi))).c1 g1.free s2 ?_
      rintro v mu' n' g rfl
      have g2:=g1.trans (g.weaken g1.le)
      have b2:=g.old g1.free b0
      cases hp : entB l.ents[i] with
      | true =>
        simp only [↓E1,E2,zA,zB,zC,zD,zE,zF,zG,zH,zI,zJ,zK,zL,zM,zN,reduceIte,zO,zP,hc,hw]
        exact hy (by simp [hi,hp]) _ _ _ ⟨g2,b2,by simp [updN,updE,h0],by simp [updN,updE]⟩
      | false =>
        simp only [↓E1,E2,zA,zB,zC,zD,zE,zF,zG,zH,zI,zJ,zK,zL,zM,zN,reduceIte,zO,zP]
        exact hn (by simp [hi,hp]) _ _ _ ⟨g2,by simp [updN,updE]⟩
    · rintro e mu1 n1 K ⟨g1,b1,h0,hc⟩ hx
      have b0:=b1
      unfold lgC at b1
      rw [dc_at l_ref4_LogMay_0.eq_1]
      have hlt : (l.ents.length < l.ents.length) = False:=by simp
      simp only [↓E1,E2,zA,zB,zC,zD,zE,zF,zG,zH,zI,zJ,zK,zL,zM,zN,reduceIte,zO,zP,h0,hc,hlt,xl,xs,b1]
      exact hx _ _ _ ⟨g1,b0,by simp [updN,updE,h0],by simp [updN,updE,hc]⟩⟩
  rw [i_ref4_LogMay,dc_at b_ref4_LogMay.eq_1]
  unfold lgC
  have hA : True:=trivial
  have hle:=Nat.le_refl n
  simp only [↓E1,E2,zA,zB,zC,zD,zE,zF,zG,zH,zI,zJ,zK,zL,zM,zN,reduceIte,zO,zP,xl,xs,xk,xm,tx_empty]
  repeat' (first | ((with_reducible refine Br_intro (λhb=>?_) (λhb=>?_)) <;> (replace hA:=And.intro hA hb; clear hb; simp only [↓E1,E2,zA,zB,zC,zD,zE,zF,zG,zH,zI,zJ,zK,zL,zM,zN,reduceIte,zO,zP, *,tx_empty])) | ((with_reducible refine CPr_f (f:=n_ref1_Count) ?_); ((first | (refine (ref1_Count H _).d2 hfr (by first | trivial | exact s1 | assumption) ?_; rintro v mu2 n2 g2 rfl) | (refine (ref1_Count H _).d3 hfr (λhm=>by first | trivial | exact EntsR.mono hm s1) ?_; rintro v mu2 n2 g2 b1 rfl) | (refine (ref1_Count H _).c1 hfr (by first | trivial | exact s1 | assumption) ?_; rintro v mu2 n2 g2 rfl) | (refine (ref1_Count H _).c2 hfr (λhm=>by first | trivial | exact EntsR.mono hm s1) ?_; rintro v mu2 n2 g2 b1 rfl) | (refine (ref1_Count H _).c3 hfr (λhm=>by first | trivial | exact EntsR.mono hm s1) ?_; rintro v mu2 n2 g2 b1 b2 rfl)); (try replace b1:=g2.old hfr b1); (try replace s1:=EntsR.mono (λ_ _ hh=>g2.old hfr hh) s1); replace gg:=gg.trans (g2.weaken hle); replace hle:=Nat.le_trans hle g2.le; replace hfr:=g2.free; clear g2; simp only [↓E1,E2,zA,zB,zC,zD,zE,zF,zG,zH,zI,zJ,zK,zL,zM,zN,reduceIte,zO,zP, *,tx_empty])))
  all_goals try (refine leafB h (by first | exact gg | exact gg.cons hle _ | exact (gg.cons hle _).cons (Nat.le_succ_of_le hle) _) ?_; (clear h gg hle hfr); (try clear loop); (try clear loop0); (try clear loop1); (try clear s1); (try clear s2); (try clear s3); (try clear s4); (try clear b1); (try clear b2); clear xl xs xk xm hfr0 z1; first | (simp_all [lgB,countB,-List.length_eq_zero_iff]; done) | (simp_all [lgB,countB,-List.length_eq_zero_iff]; omega))
  all_goals ((with_reducible refine Lp_at ?_); refine loop.out _ _ _ _ _ (by clear loop h; simp at hA; omega) gg b1 (by simp [updN,updE]) (by simp [updN,updE]) (λhr e2 mu2 n2 g2=>?_) (λhr e2 mu2 n2 g2 a1=>?_))
  all_goals (replace hA:=And.intro hA hr; clear hr; simp only [↓E1,E2,zA,zB,zC,zD,zE,zF,zG,zH,zI,zJ,zK,zL,zM,zN,reduceIte,zO,zP, *]; refine leafB h g2 ?_; clear h g2 loop b1 xl xs xk xm s1 z1; first | (simp_all [lgB,countB,-List.length_eq_zero_iff]; done) | (simp_all [lgB,countB,-List.length_eq_zero_iff]; omega))
end Go.Proofs.Ytnnjlnkoomeadaa.Pv
namespace Go.Proofs.Ytnnjlnkoomeadaa.Pv
open Go.Ev Go.Ev.Rp
set_option maxRecDepth 100000
set_option maxHeartbeats 4000000
set_option linter.unusedSimpArgs false
set_option linter.unusedVariables false
set_option linter.unusedSectionVars false
variable {P : Program} (H : Fs P)
include H
end Go.Proofs.Ytnnjlnkoomeadaa.Pv
namespace Go.Ev
set_option linter.unusedVariables false
def Tag (o : Nat → Nat) (t : Nat) (M : Fz) : Fz:=λj=>if o j = t then M j else none
theorem Tag.at {o : Nat → Nat} {t j : Nat} {M : Fz} {B : List SV} (h : o j = t) (g : M j = some B) : Tag o t M j = some B:=by unfold Tag; rw [if_pos h]; exact g
theorem Tag.el {o : Nat → Nat} {t j : Nat} {M : Fz} {B : List SV} (h : Tag o t M j = some B) : o j = t ∧ M j = some B:=by
  unfold Tag at h
  split at h
  · rename_i e; exact ⟨e,h⟩
  · cases h
theorem Tag.sub {o : Nat → Nat} {t : Nat} {M : Fz} : Sub (Tag o t M) M:=λ_ _ h=>(Tag.el h).2
theorem Tag.mono {o : Nat → Nat} {t : Nat} {M M' : Fz} (h : Sub M M') : Sub (Tag o t M) (Tag o t M'):=λ_ _ g=>Tag.at (Tag.el g).1 (h _ _ (Tag.el g).2)
def tagN (o : Nat → Nat) (n : Nat) (τ : Nat → Nat) : Nat → Nat:=λj=>if j < n then o j else τ j
theorem tagN_lt {o τ : Nat → Nat} {n j : Nat} (h : j < n) : tagN o n τ j = o j:=by unfold tagN; rw [if_pos h]
theorem tagN_ge {o τ : Nat → Nat} {n j : Nat} (h : n ≤ j) : tagN o n τ j = τ j:=by unfold tagN; rw [if_neg (by omega)]
theorem Tag.old {o τ : Nat → Nat} {t n : Nat} {fz : Fz} {mu mu' : St} (hf : Free fz mu n) (h : Sub (with' mu fz) (with' mu' fz)) : Sub (Tag o t (with' mu fz)) (Tag (tagN o n τ) t (with' mu' fz)):=λj B g=>by
  obtain ⟨g1,g2⟩:=Tag.el g
  exact Tag.at (by rw [tagN_lt (hf.lt g2)]; exact g1) (h _ _ g2)
theorem Tag.new {o τ : Nat → Nat} {t n : Nat} {M : Fz} (h : ∀ j,n ≤ j → τ j = t) : Sub (From n M) (Tag (tagN o n τ) t M):=λj B g=>by
  obtain ⟨g1,g2⟩:=From.el g
  exact Tag.at (by rw [tagN_ge g1]; exact h j g1) g2
theorem Tag.put {o : Nat → Nat} {t id : Nat} {fz : Fz} {mu : St} {c : List SV} (h : (look mu id).isSome = true) (ho : o id ≠ t) : Sub (Tag o t (with' mu fz)) (Tag o t (with' (putS mu id c) fz)):=λj B g=>by
  obtain ⟨g1,g2⟩:=Tag.el g
  exact Tag.at g1 (by rw [with_putI h,if_neg (by rintro rfl; exact ho g1)]; exact g2)
theorem flat_sub {s : Nat} : ∀ {es : List (List SV)} {i k m : Nat},(∀ e ∈ es,e.length = s) → (hi : i < es.length) → k + m ≤ s → (es.flatten.drop (i * s + k)).take m = (es[i].drop k).take m
  | [],i,_,_,_,h,_=>by simp at h
  | e :: es,0,k,m,hl,_,hk=>by
    have he:=hl e (by simp)
    simp only [Nat.zero_mul,Nat.zero_add,List.flatten_cons,List.getElem_cons_zero]
    rw [List.drop_append,show k - e.length = 0 by omega,List.drop_zero,List.take_append,show m - (e.drop k).length = 0 by simp; omega]
    simp
  | e :: es,i + 1,k,m,hl,hi,hk=>by
    have he:=hl e (by simp)
    have ih:=flat_sub (es:=es) (i:=i) (k:=k) (m:=m) (λx hx=>hl x (by simp [hx])) (by simpa using hi) hk
    simp only [List.flatten_cons,List.getElem_cons_succ]
    rw [← ih,show (i + 1) * s + k = e.length + (i * s + k) by rw [Nat.add_mul,he]; omega,List.drop_append,List.drop_eq_nil_of_le (by omega),show e.length + (i * s + k) - e.length = i * s + k by omega]
    simp
theorem All2.set {α β : Type} {R : α → β → Prop} : ∀ {x : List α} {y : List β} {i : Nat} {a : α},All2 R x y → (∀ b,y[i]? = some b → R a b) → All2 R (x.set i a) y
  | [],[],_,_,_,_=>trivial
  | [],_ :: _,_,_,h,_=>h.elim
  | _ :: _,[],_,_,h,_=>h.elim
  | x :: xs,y :: ys,0,a,h,hb=>⟨hb y rfl,h.2⟩
  | x :: xs,y :: ys,i + 1,a,h,hb=>⟨h.1,All2.set h.2 λb hh=>hb b (by simpa using hh)⟩
section
variable {P : Program} {f : Nat} {args : List AV} {fz : Fz} {mu : St} {n : Nat} {k : KT Prop} {w : WK k} {c d e : List SV}
theorem CPr.abs1 (hfr : Free fz mu n) (h : ∀ mu1 n1,Gr n fz mu mu1 n n1 → n + 1 ≤ n1 → look mu1 n = some c → CPr P f args fz mu1 n1 k w) : CPr P f args fz ((n,c) :: mu) (n + 1) k w :=
  h _ _ ((Gr.refl hfr).cons (Nat.le_refl _) _) (Nat.le_refl _) (by rw [look_c,if_pos rfl])
end
def Ids (a : St) (lo hi : Nat) : Prop:=∀ id,look a id ≠ none → lo ≤ id ∧ id < hi
theorem Ids.apart {a b : St} {l1 h1 l2 h2 id : Nat} (ha : Ids a l1 h1) (hb : Ids b l2 h2) (h : h1 ≤ l2 ∨ h2 ≤ l1) (hn : look a id ≠ none) : look b id = none:=by
  have:=ha id hn
  cases eb : look b id with
  | none=>rfl
  | some c=>have:=hb id (by rw [eb]; simp); omega
theorem Gr.congr {lo : Nat} {fz : Fz} {mu mu1 mu2 : St} {n n' : Nat} (g : Gr lo fz mu mu1 n n') (h : ∀ id,look mu2 id = look mu1 id) : Gr lo fz mu mu2 n n' :=
  ⟨g.le,λid hi=>by rw [with_congr (h id)]; exact g.ext id hi,λid hi=>by rw [h]; exact g.own id hi,λj=>by rw [with_congr (h _)]; exact g.free j⟩
theorem Ctr.d4 {P : Program} {f : Nat} {args : List AV} {pre : Fz → Prop} {post : Nat → Nat → Fz → AV → Prop} {fz : Fz} {mu : St} {n : Nat} {k : KT Prop} (h : Ctr P f args pre post) {w : WK k} (hf : Free fz mu n) (hp : pre (with' mu fz))
    (hk : ∀ v new n',Gr n fz mu (new ++ mu) n n' → Ids new n n' → post n n' (with' (new ++ mu) fz) v → k v new n') : CPr P f args (with' mu fz) [] n k w :=
  h.d1 hf hp λv new n' hg hpost=>hk v new n' (hg.join hf (Nat.le_refl _)) (λid hn=>by
    refine ⟨?_,?_⟩
    · rcases Nat.lt_or_ge id n with h1 | h1
      · exfalso; exact hn (hg.own id h1)
      · exact h1
    · rcases Nat.lt_or_ge id n' with h1 | h1
      · exact h1
      · exfalso
        refine hn ?_
        have:=hg.free.none h1
        rw [with_eq] at this
        cases e : look new id with
        | none=>rfl
        | some c=>rw [e] at this; cases this) (by rw [with_append]; exact hpost)
end Go.Ev
namespace Go.Proofs.Ytnnjlnkoomeadaa.Pv
open Go.Ev Go.Ev.Rp
set_option maxRecDepth 100000
set_option maxHeartbeats 4000000
set_option linter.unusedSimpArgs false
set_option linter.unusedVariables false
set_option linter.unusedSectionVars false
structure LgSz (l : Lg) : Prop where
  ents : l.ents.length ≤ 2513169434916
  bat : ∀ e ∈ l.ents,e.batch.length ≤ 4398046511104
structure RepSz (r : Rep) : Prop where
  log : LgSz r.log
  acks : r.acks.length ≤ 17592186044415
  starts : r.starts.length ≤ 17592186044415
  dos : r.dos.length ≤ 1954687338267
  dlog : ∀ d ∈ r.dos,LgSz d.log
def RestT (o : Nat → Nat) (M : Fz) (r : Rep) (xe xa xs : SV) : Prop:=(∃ cs,SlX (Tag o 1 M) 5 xe cs ∧ All2 (EntX (Tag o 2 M)) cs r.log.ents) ∧ IntsX (Tag o 3 M) xa r.acks ∧ IntsX (Tag o 4 M) xs r.starts
theorem RestT.mono {o o' : Nat → Nat} {M M' : Fz} (h : ∀ t,1 ≤ t → t ≤ 4 → Sub (Tag o t M) (Tag o' t M')) {r : Rep} {xe xa xs : SV} (g : RestT o M r xe xa xs) : RestT o' M' r xe xa xs:=by
  obtain ⟨⟨cs,h1,h2⟩,h3,h4⟩:=g
  exact ⟨⟨cs,h1.mono (h 1 (by omega) (by omega)),h2.imp λc a g=>EntX.mono (h 2 (by omega) (by omega)) g⟩,IntsX.mono (h 3 (by omega) (by omega)) h3,IntsX.mono (h 4 (by omega) (by omega)) h4⟩
def MixD (o : Nat → Nat) (M0 M : Fz) (l : List Dv) (i : Nat) (xd : SV) : Prop:=∃ cs,SlX (Tag o 5 M) 6 xd cs ∧ cs.length = l.length ∧ ∀ j (h1 : j < cs.length) (h2 : j < l.length),if j < i then DvX (Tag o 6 M) cs[j] l[j] else DvR M0 cs[j] l[j]
theorem MixD.mono {o o' : Nat → Nat} {M0 M M' : Fz} (h : ∀ t,5 ≤ t → t ≤ 6 → Sub (Tag o t M) (Tag o' t M')) {l : List Dv} {i : Nat} {xd : SV} (g : MixD o M0 M l i xd) : MixD o' M0 M' l i xd:=by
  obtain ⟨cs,h1,h2,h3⟩:=g
  refine ⟨cs,h1.mono (h 5 (by omega) (by omega)),h2,λj g1 g2=>?_⟩
  have:=h3 j g1 g2
  split
  · rename_i hj; rw [if_pos hj] at this; exact DvX.mono (h 6 (by omega) (by omega)) this
  · rename_i hj; rw [if_neg hj] at this; exact this
variable {P : Program} (H : Fs P)
include H
end Go.Proofs.Ytnnjlnkoomeadaa.Pv
namespace Go.Proofs.Ytnnjlnkoomeadaa.Pv
open Go.Ev Go.Ev.Rp
set_option maxRecDepth 100000
set_option maxHeartbeats 4000000
set_option linter.unusedSimpArgs false
set_option linter.unusedVariables false
set_option linter.unusedSectionVars false
def startAt (me k : Int) (l : List Int) (i : Nat) : Bool:=decide (0 ≤ l.getD i 0) && decide (l.getD i 0 < k) && decide (l.getD i 0 ≠ me) && (decide (i = 0) || decide (l.getD (i - 1) 0 < l.getD i 0))
theorem start_all (me k : Int) (l : List Int) : risesB me k (-1) l = (List.range l.length).all (startAt me k l):=by
  rw [rises_all,Bool.eq_iff_iff,List.all_eq_true,List.all_eq_true]
  simp only [List.mem_range]
  constructor
  · intro h
    have pos : ∀ i,i < l.length → 0 ≤ l.getD i 0:=by
      intro i
      induction i with
      | zero=>intro hi; have:=h 0 hi; simp only [riseAt,prv,Bool.and_eq_true,decide_eq_true_eq] at this; have:=this.1.1; simp at this; simp; omega
      | succ i ih=>intro hi; have h1:=h (i + 1) hi; have h2:=ih (by omega); simp only [riseAt,prv,Bool.and_eq_true,decide_eq_true_eq] at h1; have:=h1.1.1; simp at this h2 ⊢; omega
    intro i hi
    have h1:=h i hi
    have h2:=pos i hi
    cases i with
    | zero=>simp only [riseAt,startAt,prv,Bool.and_eq_true,decide_eq_true_eq] at h1 ⊢; exact ⟨⟨⟨h2,h1.1.2⟩,h1.2⟩,by simp⟩
    | succ i=>simp only [riseAt,startAt,prv,Bool.and_eq_true,decide_eq_true_eq] at h1 ⊢; exact ⟨⟨⟨h2,h1.1.2⟩,h1.2⟩,by have:=h1.1.1; simp at this ⊢; exact this⟩
  · intro h i hi
    have h1:=h i hi
    cases i with
    | zero=>simp only [riseAt,startAt,prv,Bool.and_eq_true,decide_eq_true_eq] at h1 ⊢; exact ⟨⟨by have:=h1.1.1.1; simp at this ⊢; omega,h1.1.1.2⟩,h1.1.2⟩
    | succ i=>simp only [riseAt,startAt,prv,Bool.and_eq_true,decide_eq_true_eq] at h1 ⊢; exact ⟨⟨by have:=h1.2; simp at this ⊢; exact this,h1.1.1.2⟩,h1.1.2⟩
def doAt' (r : Rep) (i : Nat) : Bool:=startAt r.me r.nodes (r.dos.map (·.frm)) i && dosOk r i
theorem do_all' (r : Rep) : (risesB r.me r.nodes (-1) (r.dos.map (·.frm)) && dosB r) = (List.range r.dos.length).all (doAt' r):=by
  rw [start_all,dos_all,List.length_map]
  unfold doAt'
  rw [Bool.eq_iff_iff]
  simp only [Bool.and_eq_true,List.all_eq_true]
  exact ⟨λh i hi=>⟨h.1 i hi,h.2 i hi⟩,λh=>⟨λi hi=>(h i hi).1,λi hi=>(h i hi).2⟩⟩
variable {P : Program} (H : Fs P)
include H
theorem ref16_May_0 (r : Rep) (xe xa xs xd : SV) (hl3 : r.acks.length ≤ 1152921504606846976) {fz : Fz} {mu : St} {n fu : Nat} (hfr0 : Free fz mu n) (s2 : IntsR (with' mu fz) xa r.acks) (hfu : r.acks.length < fu) :
    Hide (∀ (e : Env) mu1 n1 (K : LK) w,Gr n fz mu mu1 n n1 → with' mu1 fz n = some (repC r xe xa xs xd) → e 0 1 = .one (.optr n 0) → e 0 3 = .one (.int .i64 0) →
      (r.acks.all countB = true → ∀ e' mu' n',Gr n fz mu mu' n n' → with' mu' fz n = some (repC r xe xa xs xd) → e' 0 1 = .one (.optr n 0) → K (.exit 0) (tmE 241 e') mu' n') →
      (r.acks.all countB = false → ∀ e' mu' n',Gr n fz mu mu' n n' → e' 0 2 = .one (.bool false) → K .ret (tmE 241 e') mu' n') →
      Lp (dcode pOrc False (CP P) fz fu l_ref16_May_0) fu (tmE 241 e) mu1 n1 K w):=⟨by
    intro e mu1 n1 K w g1 b1 h0 hc hd hr
    obtain ⟨xal,xas,xak,xam⟩:=s2.len
    refine loopI (x:=0) (L:=r.acks.length) (p:=λi=>(r.acks[i]?.map countB).getD true) (λi e mu' n'=>Gr n fz mu mu' n n' ∧ with' mu' fz n = some (repC r xe xa xs xd) ∧ e 0 1 = .one (.optr n 0) ∧ e 0 3 = .one (.int .i64 i)) (λe mu' n'=>Gr n fz mu mu' n n' ∧ e 0 2 = .one (.bool false)) ?_ ?_ e mu1 n1 K w (by omega) ⟨g1,b1,h0,hc⟩ (λha e' mu' n' hI=>hd (all_list ha) e' mu' n' hI.1 hI.2.1 hI.2.2.1) (λhx e' mu' n' hR=>hr (not_all_list hx) e' mu' n' hR.1 hR.2)
    · rintro i e mu1 n1 K hi ⟨g1,b1,h0,hc⟩ hy hn
      have b0:=b1
      have t1:=IntsR.mono (λ_ _ hh=>g1.old hfr0 hh) s2
      obtain ⟨id,off,cap,B,rfl,hB,hmk,hbd,hsub⟩:=t1.elem hi
      have hw:=wrap_succ hi (by omega)
      unfold repC at b1
      rw [dc_at l_ref16_May_0.eq_1]
      simp only [↓E1,E2,zA,zB,zC,zD,zE,zF,zG,zH,zI,zJ,zK,zL,zM,zN,reduceIte,zO,zP,h0,hc,hi,hB,hmk,hbd,hsub,b1]
      refine (ref1_Count H r.acks[i]).c1 g1.free trivial ?_
      rintro v mu' n' g rfl
      have g2:=g1.trans (g.weaken g1.le)
      have b2:=g.old g1.free b0
      cases hp : countB r.acks[i] with
      | true =>
        simp only [↓E1,E2,zA,zB,zC,zD,zE,zF,zG,zH,zI,zJ,zK,zL,zM,zN,reduceIte,zO,zP,hc,hw]
        exact hy (by simp [hi,hp]) _ _ _ ⟨g2,b2,by simp [updN,updE,h0],by simp [updN,updE]⟩
      | false =>
        simp only [↓E1,E2,zA,zB,zC,zD,zE,zF,zG,zH,zI,zJ,zK,zL,zM,zN,reduceIte,zO,zP]
        exact hn (by simp [hi,hp]) _ _ _ ⟨g2,by simp [updN,updE]⟩
    · rintro e mu1 n1 K ⟨g1,b1,h0,hc⟩ hx
      have b0:=b1
      unfold repC at b1
      rw [dc_at l_ref16_May_0.eq_1]
      have hlt : (r.acks.length < r.acks.length) = False:=by simp
      simp only [↓E1,E2,zA,zB,zC,zD,zE,zF,zG,zH,zI,zJ,zK,zL,zM,zN,reduceIte,zO,zP,h0,hc,hlt,xal,xas,b1]
      exact hx _ _ _ ⟨g1,b0,by simp [updN,updE,h0],by simp [updN,updE,hc]⟩⟩
theorem ref16_May_1 (r : Rep) (xe xa xs xd : SV) (hl1 : r.starts.length ≤ 1152921504606846976) {fz : Fz} {mu : St} {n fu : Nat} (hfr0 : Free fz mu n) (s3 : IntsR (with' mu fz) xs r.starts) (hfu : r.starts.length < fu) :
    Hide (∀ (e : Env) mu1 n1 (K : LK) w,Gr n fz mu mu1 n n1 → with' mu1 fz n = some (repC r xe xa xs xd) → e 0 1 = .one (.optr n 0) → e 0 4 = .one (.int .i64 0) →
      (risesB r.me r.nodes (-1) r.starts = true → ∀ e' mu' n',Gr n fz mu mu' n n' → with' mu' fz n = some (repC r xe xa xs xd) → e' 0 1 = .one (.optr n 0) → K (.exit 2) (tmE 241 e') mu' n') →
      (risesB r.me r.nodes (-1) r.starts = false → ∀ e' mu' n',Gr n fz mu mu' n n' → e' 0 2 = .one (.bool false) → K .ret (tmE 241 e') mu' n') →
      Lp (dcode pOrc False (CP P) fz fu l_ref16_May_1) fu (tmE 241 e) mu1 n1 K w):=⟨by
    intro e mu1 n1 K w g1 b1 h0 hc hd hr
    obtain ⟨xsl,xss,xsk,xsm⟩:=s3.len
    rw [start_all] at hd hr
    refine loopI (x:=2) (L:=r.starts.length) (p:=startAt r.me r.nodes r.starts) (λi e mu' n'=>Gr n fz mu mu' n n' ∧ with' mu' fz n = some (repC r xe xa xs xd) ∧ e 0 1 = .one (.optr n 0) ∧ e 0 4 = .one (.int .i64 i)) (λe mu' n'=>Gr n fz mu mu' n n' ∧ e 0 2 = .one (.bool false)) ?_ ?_ e mu1 n1 K w (by omega) ⟨g1,b1,h0,hc⟩ (λha e' mu' n' hI=>hd (all_range ha) e' mu' n' hI.1 hI.2.1 hI.2.2.1) (λhx e' mu' n' hR=>hr (not_all_range hx) e' mu' n' hR.1 hR.2)
    · rintro i e mu1 n1 K hi ⟨g1,b1,h0,hc⟩ hy hn
      have b0:=b1
      have t1:=IntsR.mono (λ_ _ hh=>g1.old hfr0 hh) s3
      obtain ⟨id,off,cap,B,rfl,hB,hmk,hbd,hsub⟩:=t1.elem hi
      have hw:=wrap_succ hi (by omega)
      have hg : r.starts.getD i 0 = r.starts[i]:=by simp [hi]
      clear hd hr
      unfold repC at b1
      rw [dc_at l_ref16_May_1.eq_1]
      cases i with
      | zero =>
        have hA : True:=trivial
        have hi0 : ((0 : Int) < (r.starts.length : Int)) = True:=by simp; exact hi
        simp only [Nat.zero_mul,Nat.add_zero] at hsub hbd
        simp only [↓E1,E2,zA,zB,zC,zD,zE,zF,zG,zH,zI,zJ,zK,zL,zM,zN,reduceIte,zO,zP, *,Nat.add_zero]
        repeat' ((with_reducible refine Br_intro (λhb=>?_) (λhb=>?_)) <;> (replace hA:=And.intro hA hb; clear hb; simp only [↓E1,E2,zA,zB,zC,zD,zE,zF,zG,zH,zI,zJ,zK,zL,zM,zN,reduceIte,zO,zP, *,Nat.add_zero]))
        all_goals first
          | (refine hy (by clear hy hn hB hsub b1 b0; simp_all [startAt]) _ _ _ ⟨g1,b0,?_,?_⟩ <;> simp [updN,updE,h0]; done)
          | (refine hn (by clear hy hn hB hsub b1 b0; simp_all [startAt]; try omega) _ _ _ ⟨g1,?_⟩; simp [updN,updE]; done)
      | succ i =>
        have hi' : i < r.starts.length:=by omega
        obtain ⟨id',off',cap',B',he,hB',hmk',hbd',hsub'⟩:=t1.elem hi'
        cases he
        rw [hB] at hB'
        cases hB'
        have hw1 : IntKind.i64.wrap (((i + 1 : Nat) : Int) - 1) = (i : Int):=by rw [wrap64 (by omega) (by omega)]; omega
        have hp0 : ((0 : Int) < ((i + 1 : Nat) : Int)) = True:=by simp; try omega
        have hg' : r.starts.getD i 0 = r.starts[i]:=by simp [hi']
        have hA : True:=trivial
        simp only [↓E1,E2,zA,zB,zC,zD,zE,zF,zG,zH,zI,zJ,zK,zL,zM,zN,reduceIte,zO,zP, *]
        repeat' ((with_reducible refine Br_intro (λhb=>?_) (λhb=>?_)) <;> (replace hA:=And.intro hA hb; clear hb; simp only [↓E1,E2,zA,zB,zC,zD,zE,zF,zG,zH,zI,zJ,zK,zL,zM,zN,reduceIte,zO,zP, *]))
        all_goals first
          | (refine hy (by clear hy hn hB hsub hsub' b1 b0; simp_all [startAt]) _ _ _ ⟨g1,b0,?_,?_⟩ <;> simp [updN,updE,h0]; done)
          | (refine hn (by clear hy hn hB hsub hsub' b1 b0; simp_all [startAt]; try omega) _ _ _ ⟨g1,?_⟩; simp [updN,updE]; done)
    · rintro e mu1 n1 K ⟨g1,b1,h0,hc⟩ hx
      have b0:=b1
      unfold repC at b1
      rw [dc_at l_ref16_May_1.eq_1]
      have hlt : (r.starts.length < r.starts.length) = False:=by simp
      simp only [↓E1,E2,zA,zB,zC,zD,zE,zF,zG,zH,zI,zJ,zK,zL,zM,zN,reduceIte,zO,zP,h0,hc,hlt,xsl,xss,b1]
      exact hx _ _ _ ⟨g1,b0,by simp [updN,updE,h0],by simp [updN,updE,hc]⟩⟩
theorem ref16_May_2 (r : Rep) (xe xa xs xd : SV) (hl2 : r.dos.length ≤ 1152921504606846976) (hok : ∀ d ∈ r.dos, Ok d.log) {fz : Fz} {mu : St} {n fu : Nat} (hfr0 : Free fz mu n) (s4 : DvsR (with' mu fz) xd r.dos) (hfu : r.dos.length < fu) :
    Hide (∀ (e : Env) mu1 n1 (K : LK) w,Gr n fz mu mu1 n n1 → with' mu1 fz n = some (repC r xe xa xs xd) → e 0 1 = .one (.optr n 0) → e 0 6 = .one (.int .i64 0) →
      ((risesB r.me r.nodes (-1) (r.dos.map (·.frm)) && dosB r) = true → ∀ e' mu' n',Gr n fz mu mu' n n' → with' mu' fz n = some (repC r xe xa xs xd) → e' 0 1 = .one (.optr n 0) → K (.exit 4) (tmE 241 e') mu' n') →
      ((risesB r.me r.nodes (-1) (r.dos.map (·.frm)) && dosB r) = false → ∀ e' mu' n',Gr n fz mu mu' n n' → e' 0 2 = .one (.bool false) → K .ret (tmE 241 e') mu' n') →
      Lp (dcode pOrc False (CP P) fz fu l_ref16_May_2) fu (tmE 241 e) mu1 n1 K w):=⟨by
    intro e mu1 n1 K w g1 b1 h0 hc hd hr
    obtain ⟨xdl,xds,xdk,xdm⟩:=s4.len
    rw [do_all'] at hd hr
    refine loopI (x:=4) (L:=r.dos.length) (p:=doAt' r) (λi e mu' n'=>Gr n fz mu mu' n n' ∧ with' mu' fz n = some (repC r xe xa xs xd) ∧ e 0 1 = .one (.optr n 0) ∧ e 0 6 = .one (.int .i64 i)) (λe mu' n'=>Gr n fz mu mu' n n' ∧ e 0 2 = .one (.bool false)) ?_ ?_ e mu1 n1 K w (by omega) ⟨g1,b1,h0,hc⟩ (λha e' mu' n' hI=>hd (all_range ha) e' mu' n' hI.1 hI.2.1 hI.2.2.1) (λhx e' mu' n' hR=>hr (not_all_range hx) e' mu' n' hR.1 hR.2)
    · rintro i e mu1 n1 K hi ⟨g1,b1,h0,hc⟩ hy hn
      have b0:=b1
      have t1:=DvsR.mono (λ_ _ hh=>g1.old hfr0 hh) s4
      obtain ⟨id,off,cap,B,bx,rfl,hB,hmk,hbd,hsub,t5⟩:=t1.elem hi
      have hmm:=ref4_LogMay H r.dos[i].log bx (hok _ (List.getElem_mem hi))
      have hw:=wrap_succ hi (by omega)
      have hle:=Nat.le_refl n1
      have hfr:=g1.free
      have gg:=Gr.refl (lo:=n1) hfr
      have hg : (r.dos.map (·.frm)).getD i 0 = r.dos[i].frm:=by simp [hi]
      have hgi : r.dos[i]? = some r.dos[i]:=List.getElem?_eq_getElem hi
      have hn1 : n < n1:=g1.free.lt b1
      have hne : ¬ n1 = n:=by omega
      have hid:=hfr.lt hB
      have hne2 : ¬ n1 = id:=by omega
      obtain ⟨ybl,ybs,ybk,ybm⟩:=t5.len
      clear hd hr
      unfold repC at b1
      unfold dvC at hsub
      unfold lgC at hmm
      rw [dc_at l_ref16_May_2.eq_1]
      cases i with
      | zero =>
        have hi0 : ((0 : Int) < (r.dos.length : Int)) = True:=by simp; exact hi
        simp only [Nat.zero_mul,Nat.add_zero] at hsub hbd
        have hA : True:=trivial
        simp only [↓E1,E2,zA,zB,zC,zD,zE,zF,zG,zH,zI,zJ,zK,zL,zM,zN,reduceIte,zO,zP, *,Nat.add_zero]
        repeat' (first | ((with_reducible refine Br_intro (λhb=>?_) (λhb=>?_)) <;> simp only [↓E1,E2,zA,zB,zC,zD,zE,zF,zG,zH,zI,zJ,zK,zL,zM,zN,reduceIte,zO,zP, *,Nat.add_zero]) | ((with_reducible refine CPr_f (f:=n_ref4_LogMay) ?_); ((first | (refine (hmm).d2 hfr (by first | trivial | exact t5 | assumption) ?_; rintro v mu2 n2 g2 rfl) | (refine (hmm).d3 hfr (λhm=>by first | trivial | exact EntsR.mono hm t5) ?_; rintro v mu2 n2 g2 b7 rfl) | (refine (hmm).c1 hfr (by first | trivial | exact t5 | assumption) ?_; rintro v mu2 n2 g2 rfl) | (refine (hmm).c2 hfr (λhm=>by first | trivial | exact EntsR.mono hm t5) ?_; rintro v mu2 n2 g2 b7 rfl) | (refine (hmm).c3 hfr (λhm=>by first | trivial | exact EntsR.mono hm t5) ?_; rintro v mu2 n2 g2 b7 b8 rfl)); (try replace b1:=g2.old hfr b1); (try replace b7:=g2.old hfr b7); (try replace t5:=EntsR.mono (λ_ _ hh=>g2.old hfr hh) t5); replace gg:=gg.trans (g2.weaken hle); replace hle:=Nat.le_trans hle g2.le; replace hfr:=g2.free; clear g2; simp only [↓E1,E2,zA,zB,zC,zD,zE,zF,zG,zH,zI,zJ,zK,zL,zM,zN,reduceIte,zO,zP, *,Nat.add_zero])))
        all_goals first
          | (refine hy (by clear hy hn hB hsub b1 b0 hmm; simp_all [doAt',startAt,dosOk]) _ _ _ ⟨g1.trans (gg.weaken g1.le),b1,?_,?_⟩ <;> simp [updN,updE,h0]; done)
          | (refine hn (by clear hy hn hB hsub b1 b0 hmm; simp_all [doAt',startAt,dosOk]; try omega) _ _ _ ⟨(by first | exact g1.trans (gg.weaken g1.le) | exact g1.cons g1.le _),?_⟩; simp [updN,updE]; done)
      | succ i =>
        have hi' : i < r.dos.length:=by omega
        obtain ⟨id',off',cap',B',bx',he,hB',hmk',hbd',hsub',_⟩:=t1.elem hi'
        cases he
        rw [hB] at hB'
        cases hB'
        have hw1 : IntKind.i64.wrap (((i + 1 : Nat) : Int) - 1) = (i : Int):=by rw [wrap64 (by omega) (by omega)]; omega
        have hp0 : ((0 : Int) < ((i + 1 : Nat) : Int)) = True:=by simp; try omega
        have hg' : (r.dos.map (·.frm)).getD i 0 = r.dos[i].frm:=by simp [hi']
        have hbx : (B.drop (off + i * 6)).take 1 = [I r.dos[i].frm]:=by
          have:=congrArg (List.take 1) hsub'
          rw [List.take_take] at this; simpa [dvC] using this
        have hbb : off + i * 6 + 1 ≤ B.length:=by omega
        clear hsub'
        have hA : True:=trivial
        simp only [↓E1,E2,zA,zB,zC,zD,zE,zF,zG,zH,zI,zJ,zK,zL,zM,zN,reduceIte,zO,zP, *,Nat.add_zero]
        repeat' (first | ((with_reducible refine Br_intro (λhb=>?_) (λhb=>?_)) <;> simp only [↓E1,E2,zA,zB,zC,zD,zE,zF,zG,zH,zI,zJ,zK,zL,zM,zN,reduceIte,zO,zP, *,Nat.add_zero]) | ((with_reducible refine CPr_f (f:=n_ref4_LogMay) ?_); ((first | (refine (hmm).d2 hfr (by first | trivial | exact t5 | assumption) ?_; rintro v mu2 n2 g2 rfl) | (refine (hmm).d3 hfr (λhm=>by first | trivial | exact EntsR.mono hm t5) ?_; rintro v mu2 n2 g2 b7 rfl) | (refine (hmm).c1 hfr (by first | trivial | exact t5 | assumption) ?_; rintro v mu2 n2 g2 rfl) | (refine (hmm).c2 hfr (λhm=>by first | trivial | exact EntsR.mono hm t5) ?_; rintro v mu2 n2 g2 b7 rfl) | (refine (hmm).c3 hfr (λhm=>by first | trivial | exact EntsR.mono hm t5) ?_; rintro v mu2 n2 g2 b7 b8 rfl)); (try replace b1:=g2.old hfr b1); (try replace b7:=g2.old hfr b7); (try replace t5:=EntsR.mono (λ_ _ hh=>g2.old hfr hh) t5); replace gg:=gg.trans (g2.weaken hle); replace hle:=Nat.le_trans hle g2.le; replace hfr:=g2.free; clear g2; simp only [↓E1,E2,zA,zB,zC,zD,zE,zF,zG,zH,zI,zJ,zK,zL,zM,zN,reduceIte,zO,zP, *,Nat.add_zero])))
        all_goals first
          | (refine hy (by clear hy hn hB hsub b1 b0 hmm; simp_all [doAt',startAt,dosOk]) _ _ _ ⟨g1.trans (gg.weaken g1.le),b1,?_,?_⟩ <;> simp [updN,updE,h0]; done)
          | (refine hn (by clear hy hn hB hsub b1 b0 hmm; simp_all [doAt',startAt,dosOk]; try omega) _ _ _ ⟨(by first | exact g1.trans (gg.weaken g1.le) | exact g1.cons g1.le _),?_⟩; simp [updN,updE]; done)
    · rintro e mu1 n1 K ⟨g1,b1,h0,hc⟩ hx
      have b0:=b1
      unfold repC at b1
      rw [dc_at l_ref16_May_2.eq_1]
      have hlt : (r.dos.length < r.dos.length) = False:=by simp
      simp only [↓E1,E2,zA,zB,zC,zD,zE,zF,zG,zH,zI,zJ,zK,zL,zM,zN,reduceIte,zO,zP,h0,hc,hlt,xdl,xds,b1]
      exact hx _ _ _ ⟨g1,b0,by simp [updN,updE,h0],by simp [updN,updE,hc]⟩⟩
end Go.Proofs.Ytnnjlnkoomeadaa.Pv
namespace Go.Proofs.Ytnnjlnkoomeadaa.Pv
open Go.Ev Go.Ev.Rp
set_option maxRecDepth 100000
set_option maxHeartbeats 4000000
set_option linter.unusedSimpArgs false
set_option linter.unusedVariables false
set_option linter.unusedSectionVars false
theorem repB_eq2 (r : Rep) : repB r = (nodesB r.nodes && decide (0 ≤ r.me) && decide (r.me < r.nodes) && decide (0 ≤ r.status) && decide (r.status ≤ 2) && countB r.view && countB r.normal && countB r.commit &&
  decide (r.normal ≤ r.view) && (decide (r.status ≠ 0) || decide (r.normal = r.view)) && lgB r.log && decide (r.log.base ≤ r.commit) && decide (r.commit ≤ last r.log) &&
  decide ((r.acks.length : Int) = r.nodes) && r.acks.all countB && (decide (r.status = 1) || decide (r.starts.length = 0) && decide (r.dos.length = 0) && !r.sent) &&
  risesB r.me r.nodes (-1) r.starts && (risesB r.me r.nodes (-1) (r.dos.map (·.frm)) && dosB r)):=by
  unfold repB
  rw [Bool.and_assoc (_ && risesB r.me r.nodes (-1) r.starts)]
theorem with_swap {a b mu : St} {fz : Fz} {id : Nat} {c : List SV} (h1 : with' (a ++ mu) fz id = some c) (h2 : with' (b ++ (a ++ mu)) fz id = some c) : with' (a ++ b ++ mu) fz id = some c:=by
  rw [with_eq,look_append] at h1
  rw [with_eq,look_append,look_append] at h2
  rw [List.append_assoc,with_eq,look_append,look_append]
  cases ea : Ev.look a id with
  | some x=>rw [ea] at h1; exact h1
  | none =>
    rw [ea] at h1 h2
    cases eb : Ev.look b id with
    | some x=>rw [eb] at h2; exact h2
    | none=>exact h1
variable {P : Program} (H : Fs P)
include H
theorem ref16_May (r : Rep) (xe xa xs xd : SV) (hl1 : r.starts.length ≤ 1152921504606846976) (hl2 : r.dos.length ≤ 1152921504606846976) (hl3 : r.acks.length ≤ 1152921504606846976) (hok1 : Ok r.log) (hok2 : ∀ d ∈ r.dos, Ok d.log) :
    BoolC P n_ref16_May [.ag (repC r xe xa xs xd)] (λM=>RepS M r xe xa xs xd) (repB r):=boolC H.mx H.ref16_May (r.acks.length + r.starts.length + r.dos.length + 1) λfz mu n k hfr gg s h=>by
  obtain ⟨s1,s2,s3,s4⟩:=s
  obtain ⟨xel,xes,xek,xem⟩:=s1.len
  obtain ⟨xal,xas,xak,xam⟩:=s2.len
  obtain ⟨xsl,xss,xsk,xsm⟩:=s3.len
  obtain ⟨xdl,xds,xdk,xdm⟩:=s4.len
  have hfr0:=hfr
  have loop0:=ref16_May_0 H r xe xa xs xd hl3 (fu:=r.acks.length + r.starts.length + r.dos.length + 1) hfr0 s2 (by omega)
  have loop1:=ref16_May_1 H r xe xa xs xd hl1 (fu:=r.acks.length + r.starts.length + r.dos.length + 1) hfr0 s3 (by omega)
  have loop2:=ref16_May_2 H r xe xa xs xd hl2 hok2 (fu:=r.acks.length + r.starts.length + r.dos.length + 1) hfr0 s4 (by omega)
  rw [i_ref16_May,dc_at b_ref16_May.eq_1]
  unfold repC
  have hA : True:=trivial
  have hle:=Nat.le_refl n
  simp only [↓E1,E2,zA,zB,zC,zD,zE,zF,zG,zH,zI,zJ,zK,zL,zM,zN,reduceIte,zO,zP, *]
  repeat' (first | ((with_reducible refine Br_intro (λhb=>?_) (λhb=>?_)) <;> (replace hA:=And.intro hA hb; clear hb; simp only [↓E1,E2,zA,zB,zC,zD,zE,zF,zG,zH,zI,zJ,zK,zL,zM,zN,reduceIte,zO,zP, *])) | ((with_reducible refine CPr_f (f:=n_ref16_Nodes) ?_); ((first | (refine (ref16_Nodes H _).d2 hfr (by first | trivial | exact s1 | assumption) ?_; rintro v mu2 n2 g2 rfl) | (refine (ref16_Nodes H _).d3 hfr (λhm=>by first | trivial | exact EntsR.mono hm s1) ?_; rintro v mu2 n2 g2 b1 rfl) | (refine (ref16_Nodes H _).c1 hfr (by first | trivial | exact s1 | assumption) ?_; rintro v mu2 n2 g2 rfl) | (refine (ref16_Nodes H _).c2 hfr (λhm=>by first | trivial | exact EntsR.mono hm s1) ?_; rintro v mu2 n2 g2 b1 rfl) | (refine (ref16_Nodes H _).c3 hfr (λhm=>by first | trivial | exact EntsR.mono hm s1) ?_; rintro v mu2 n2 g2 b1 b2 rfl)); (try replace b1:=g2.old hfr b1); (try replace s1:=EntsR.mono (λ_ _ hh=>g2.old hfr hh) s1); replace gg:=gg.trans (g2.weaken hle); replace hle:=Nat.le_trans hle g2.le; replace hfr:=g2.free; clear g2; simp only [↓E1,E2,zA,zB,zC,zD,zE,zF,zG,zH,zI,zJ,zK,zL,zM,zN,reduceIte,zO,zP, *])) | ((with_reducible refine CPr_f (f:=n_ref1_Count) ?_); ((first | (refine (ref1_Count H _).d2 hfr (by first | trivial | exact s1 | assumption) ?_; rintro v mu2 n2 g2 rfl) | (refine (ref1_Count H _).d3 hfr (λhm=>by first | trivial | exact EntsR.mono hm s1) ?_; rintro v mu2 n2 g2 b1 rfl) | (refine (ref1_Count H _).c1 hfr (by first | trivial | exact s1 | assumption) ?_; rintro v mu2 n2 g2 rfl) | (refine (ref1_Count H _).c2 hfr (λhm=>by first | trivial | exact EntsR.mono hm s1) ?_; rintro v mu2 n2 g2 b1 rfl) | (refine (ref1_Count H _).c3 hfr (λhm=>by first | trivial | exact EntsR.mono hm s1) ?_; rintro v mu2 n2 g2 b1 b2 rfl)); (try replace b1:=g2.old hfr b1); (try replace s1:=EntsR.mono (λ_ _ hh=>g2.old hfr hh) s1); replace gg:=gg.trans (g2.weaken hle); replace hle:=Nat.le_trans hle g2.le; replace hfr:=g2.free; clear g2; simp only [↓E1,E2,zA,zB,zC,zD,zE,zF,zG,zH,zI,zJ,zK,zL,zM,zN,reduceIte,zO,zP, *])) | ((with_reducible refine CPr_f (f:=n_ref4_LogMay) ?_); ((first | (refine (ref4_LogMay H r.log xe hok1).d2 hfr (by first | trivial | exact s1 | assumption) ?_; rintro v mu2 n2 g2 rfl) | (refine (ref4_LogMay H r.log xe hok1).d3 hfr (λhm=>by first | trivial | exact EntsR.mono hm s1) ?_; rintro v mu2 n2 g2 b1 rfl) | (refine (ref4_LogMay H r.log xe hok1).c1 hfr (by first | trivial | exact s1 | assumption) ?_; rintro v mu2 n2 g2 rfl) | (refine (ref4_LogMay H r.log xe hok1).c2 hfr (λhm=>by first | trivial | exact EntsR.mono hm s1) ?_; rintro v mu2 n2 g2 b1 rfl) | (refine (ref4_LogMay H r.log xe hok1).c3 hfr (λhm=>by first | trivial | exact EntsR.mono hm s1) ?_; rintro v mu2 n2 g2 b1 b2 rfl)); (try replace b1:=g2.old hfr b1); (try replace s1:=EntsR.mono (λ_ _ hh=>g2.old hfr hh) s1); replace gg:=gg.trans (g2.weaken hle); replace hle:=Nat.le_trans hle g2.le; replace hfr:=g2.free; clear g2; simp only [↓E1,E2,zA,zB,zC,zD,zE,zF,zG,zH,zI,zJ,zK,zL,zM,zN,reduceIte,zO,zP, *])))
  all_goals try ((with_reducible refine CPr_f (f:=n_ref16_Last) ?_); refine (ref16_Last H r.log xe).d2 hfr s1 ?_; rintro v w2 n2 g2 rfl; have b8:=b1; replace b1:=g2.old hfr b1; have b9:=with_swap b8 b1; clear b8; replace s1:=EntsR.mono (λ_ _ hh=>g2.old hfr hh) s1; replace gg:=gg.trans (g2.weaken hle); replace hle:=Nat.le_trans hle g2.le; replace hfr:=g2.free; clear g2; simp only [↓E1,E2,zA,zB,zC,zD,zE,zF,zG,zH,zI,zJ,zK,zL,zM,zN,reduceIte,zO,zP, *])
  repeat' (first | ((with_reducible refine Br_intro (λhb=>?_) (λhb=>?_)) <;> (replace hA:=And.intro hA hb; clear hb; simp only [↓E1,E2,zA,zB,zC,zD,zE,zF,zG,zH,zI,zJ,zK,zL,zM,zN,reduceIte,zO,zP, *])))
  all_goals (try clear b9)
  all_goals try (refine leafB h (by first | exact gg | exact gg.cons hle _ | exact (gg.cons hle _).cons (Nat.le_succ_of_le hle) _) ?_; (clear h gg hle hfr); (try clear loop); (try clear loop0); (try clear loop1); (try clear s1); (try clear s2); (try clear s3); (try clear s4); (try clear b1); (try clear b2); clear loop2 xel xes xek xem xal xas xak xam xsl xss xsk xsm xdl xds xdk xdm hfr0; rw [repB_eq2]; (try generalize r.acks.all countB = qq at hA ⊢); first | (simp_all [-List.length_eq_zero_iff]; done) | (simp_all [-List.length_eq_zero_iff]; omega))
  all_goals ((with_reducible refine Lp_at ?_); refine loop0.out _ _ _ _ _ gg b1 (by simp [updN,updE]) (by simp [updN,updE]) (λhr e1 mu1 n1 g1 b1 a2=>?_) (λhr e1 mu1 n1 g1 a1=>?_))
  all_goals (replace hA:=And.intro hA hr; clear hr gg s1 hfr hle)
  all_goals try (simp only [↓E1,E2,zA,zB,zC,zD,zE,zF,zG,zH,zI,zJ,zK,zL,zM,zN,reduceIte,zO,zP, *]; refine leafB h g1 ?_; clear h g1 loop0 loop1 loop2 b1 xel xes xek xem xal xas xak xam xsl xss xsk xsm xdl xds xdk xdm hfr0; rw [repB_eq2]; (try generalize r.acks.all countB = qq at hA ⊢); simp_all [-List.length_eq_zero_iff]; done)
  all_goals simp only [↓E1,E2,zA,zB,zC,zD,zE,zF,zG,zH,zI,zJ,zK,zL,zM,zN,reduceIte,zO,zP, *]
  all_goals (refine loop1.out _ _ _ _ _ g1 b1 (by simp [updN,updE, *]) (by simp [updN,updE, *]) (λhr e2 mu2 n2 g2 b2 a3=>?_) (λhr e2 mu2 n2 g2 a1=>?_))
  all_goals (replace hA:=And.intro hA hr; clear hr)
  all_goals try (simp only [↓E1,E2,zA,zB,zC,zD,zE,zF,zG,zH,zI,zJ,zK,zL,zM,zN,reduceIte,zO,zP, *]; refine leafB h g2 ?_; clear h g1 g2 loop0 loop1 loop2 b1 xel xes xek xem xal xas xak xam xsl xss xsk xsm xdl xds xdk xdm hfr0; rw [repB_eq2]; (try generalize r.acks.all countB = qq at hA ⊢); simp_all [-List.length_eq_zero_iff]; done)
  all_goals simp only [↓E1,E2,zA,zB,zC,zD,zE,zF,zG,zH,zI,zJ,zK,zL,zM,zN,reduceIte,zO,zP, *]
  all_goals (refine loop2.out _ _ _ _ _ g2 b2 (by simp [updN,updE, *]) (by simp [updN,updE, *]) (λhr e3 mu3 n3 g3 b3 a4=>?_) (λhr e3 mu3 n3 g3 a1=>?_))
  all_goals (replace hA:=And.intro hA hr; clear hr)
  all_goals try (simp only [↓E1,E2,zA,zB,zC,zD,zE,zF,zG,zH,zI,zJ,zK,zL,zM,zN,reduceIte,zO,zP, *]; refine leafB h g3 ?_; clear h g1 g2 g3 loop0 loop1 loop2 b1 b2 xel xes xek xem xal xas xak xam xsl xss xsk xsm xdl xds xdk xdm hfr0; rw [repB_eq2]; (try generalize r.acks.all countB = qq at hA ⊢); simp_all [-List.length_eq_zero_iff]; done)
  all_goals (clear b1 b2 g1 g2; unfold repC at b3; simp only [↓E1,E2,zA,zB,zC,zD,zE,zF,zG,zH,zI,zJ,zK,zL,zM,zN,reduceIte,zO,zP, *])
  all_goals repeat' ((with_reducible refine Br_intro (λhb=>?_) (λhb=>?_)) <;> (replace hA:=And.intro hA hb; clear hb; simp only [↓E1,E2,zA,zB,zC,zD,zE,zF,zG,zH,zI,zJ,zK,zL,zM,zN,reduceIte,zO,zP, *]))
  all_goals (refine leafB h g3 ?_; clear h g3 loop0 loop1 loop2 b3 xel xes xek xem xal xas xak xam xsl xss xsk xsm xdl xds xdk xdm hfr0; rw [repB_eq2]; (try generalize r.acks.all countB = qq at hA ⊢); first | (simp_all [-List.length_eq_zero_iff]; done) | (simp_all [-List.length_eq_zero_iff]; omega))
end Go.Proofs.Ytnnjlnkoomeadaa.Pv
namespace Go.Proofs.Ytnnjlnkoomeadaa.Pv
open Go.Ev Go.Ev.Rp
set_option maxRecDepth 100000
set_option maxHeartbeats 4000000
set_option linter.unusedSimpArgs false
set_option linter.unusedVariables false
set_option linter.unusedSectionVars false
theorem RepSz.s (r : Rep) (h : RepSz r) : r.starts.length ≤ 1152921504606846976 ∧ r.dos.length ≤ 1152921504606846976 ∧ r.acks.length ≤ 1152921504606846976:=⟨by have:=h.starts; omega,by have:=h.dos; omega,by have:=h.acks; omega⟩
variable {P : Program} (H : Fs P)
include H
end Go.Proofs.Ytnnjlnkoomeadaa.Pv
namespace Go.Proofs.Ytnnjlnkoomeadaa.Pv
open Go.Ev Go.Ev.Rp
set_option maxRecDepth 100000
set_option maxHeartbeats 4000000
set_option linter.unusedSimpArgs false
set_option linter.unusedVariables false
set_option linter.unusedSectionVars false
def tx0 : Tx:=⟨0,0,by decide⟩
def newR (me nodes : Int) : Rep:=⟨me,nodes,0,0,0,0,false,⟨0,tx0,[]⟩,List.replicate nodes.toNat 0,[],[]⟩
theorem nodes_cases {b : Int} (h : nodesB b = true) : b = 1 ∨ b = 3 ∨ b = 5 ∨ b = 7:=by
  unfold nodesB at h; simp at h; omega
variable {P : Program} (H : Fs P)
include H
theorem replica_New (me nodes : Int) (hm : meB me nodes = true) : Ctr P n_replica_New [.one (I me),.one (I nodes)] (λ_=>True) (λn _ M v=>∃ xa,v = .tp [.ag (repC (newR me nodes) .nsl xa .nsl .nsl),.one (I 0)] ∧ IntsX (From n M) xa (newR me nodes).acks):=Ctr.of H.mx H.replica_New (λ_=>0) λfz mu n k hfr _ hk=>by
  rw [i_replica_New,dc_at b_replica_New.eq_1]
  have hn : nodesB nodes = true:=by unfold meB at hm; simp at hm; exact hm.1.1
  simp only [↓E1,E2,zA,zB,zC,zD,zE,zF,zG,zH,zI,zJ,zK,zL,zM,zN,reduceIte,zO,zP]
  refine CPr.abs1 hfr λmu0 n0 gg h3 b1=>?_
  refine (repair_Nodes H me nodes).c1 gg.free trivial ?_
  rintro v mu1 n1 g1 rfl
  have hlt:=g1.le
  have c1:=(g1.own n (by omega)).trans b1
  have wc1:=look_with (fz:=fz) c1
  have hne : (n1 = n) = False:=by simp; omega
  have gz:=gg.trans (g1.weaken (by omega))
  clear b1
  rcases nodes_cases hn with rfl | rfl | rfl | rfl
  all_goals
    simp only [↓E1,E2,zA,zB,zC,zD,zE,zF,zG,zH,zI,zJ,zK,zL,zM,zN,reduceIte,zO,zP, *,with_putI,look_putS,Option.isSome_some]
    refine ⟨fits_le (by decide) (by decide) (by decide),?_⟩
    refine hk _ _ _ ((gz.put (Nat.le_refl _) c1).cons (by omega) _) ⟨_,rfl,?_⟩
    exact .inr ⟨n1,rfl,From.at (by omega) (by rw [with_c,if_pos rfl]; rfl),rfl,int_ok⟩
end Go.Proofs.Ytnnjlnkoomeadaa.Pv
namespace Go.Proofs.Ytnnjlnkoomeadaa.Pv
open Go.Ev Go.Ev.Rp
set_option maxRecDepth 100000
set_option maxHeartbeats 4000000
set_option linter.unusedSimpArgs false
set_option linter.unusedVariables false
set_option linter.unusedSectionVars false
def zeroR : Rep:=⟨0,0,0,0,0,0,false,⟨0,tx0,[]⟩,[],[],[]⟩
variable {P : Program} (H : Fs P)
include H
theorem replica_New_bad (me nodes : Int) (hm : meB me nodes = false) : Ctr P n_replica_New [.one (I me),.one (I nodes)] (λ_=>True) (λn _ M v=>v = .tp [.ag (repC zeroR .nsl .nsl .nsl .nsl),.one (I 1700)]):=Ctr.of H.mx H.replica_New (λ_=>0) λfz mu n k hfr _ hk=>by
  rw [i_replica_New,dc_at b_replica_New.eq_1]
  simp only [↓E1,E2,zA,zB,zC,zD,zE,zF,zG,zH,zI,zJ,zK,zL,zM,zN,reduceIte,zO,zP]
  refine CPr.abs1 hfr λmu0 n0 gg h3 b1=>?_
  refine (repair_Nodes H me nodes).c1 gg.free trivial ?_
  rintro v mu1 n1 g1 rfl
  have hlt:=g1.le
  have c1:=(g1.own n (by omega)).trans b1
  have wc1:=look_with (fz:=fz) c1
  have gz:=gg.trans (g1.weaken (by omega))
  clear b1
  simp only [↓E1,E2,zA,zB,zC,zD,zE,zF,zG,zH,zI,zJ,zK,zL,zM,zN,reduceIte,zO,zP, *,with_putI,look_putS,Option.isSome_some,Option.map_some]
  exact hk _ _ _ (gz.put (Nat.le_refl _) c1) rfl
theorem ref16_New (me nodes : Int) (hm : meB me nodes = true) : Ctr P n_ref16_New [.one (I me),.one (I nodes)] (λ_=>True) (λn _ M v=>∃ xa,v = .tp [.ag (repC (newR me nodes) .nsl xa .nsl .nsl),.one (I 0)] ∧ IntsX (From n M) xa (newR me nodes).acks):=Ctr.of H.mx H.ref16_New (λ_=>0) λfz mu n k hfr _ hk=>by
  rw [i_ref16_New,dc_at b_ref16_New.eq_1]
  have hn : nodesB nodes = true:=by unfold meB at hm; simp at hm; exact hm.1.1
  have hd1 : decide (me < 0) = false:=by unfold meB at hm; simp at hm; simp; omega
  have hd2 : decide (nodes ≤ me) = false:=by unfold meB at hm; simp at hm; simp; omega
  simp only [↓E1,E2,zA,zB,zC,zD,zE,zF,zG,zH,zI,zJ,zK,zL,zM,zN,reduceIte,zO,zP]
  refine CPr.abs1 hfr λmu0 n0 gg h3 b1=>?_
  refine (ref16_Nodes H nodes).c1 gg.free trivial ?_
  rintro v mu1 n1 g1 rfl
  have hlt:=g1.le
  have c1:=(g1.own n (by omega)).trans b1
  have wc1:=look_with (fz:=fz) c1
  have hne : (n1 = n) = False:=by simp; omega
  have gz:=gg.trans (g1.weaken (by omega))
  clear b1 hm
  rcases nodes_cases hn with rfl | rfl | rfl | rfl
  all_goals
    simp only [↓E1,E2,zA,zB,zC,zD,zE,zF,zG,zH,zI,zJ,zK,zL,zM,zN,reduceIte,zO,zP, *,with_putI,look_putS,Option.isSome_some]
    refine ⟨fits_le (by decide) (by decide) (by decide),?_⟩
    refine hk _ _ _ ((gz.put (Nat.le_refl _) c1).cons (by omega) _) ⟨_,rfl,?_⟩
    exact .inr ⟨n1,rfl,From.at (by omega) (by rw [with_c,if_pos rfl]; rfl),rfl,int_ok⟩
theorem ref16_New_bad (me nodes : Int) (hm : meB me nodes = false) : Ctr P n_ref16_New [.one (I me),.one (I nodes)] (λ_=>True) (λn _ M v=>v = .tp [.ag (repC zeroR .nsl .nsl .nsl .nsl),.one (I 1700)]):=Ctr.of H.mx H.ref16_New (λ_=>0) λfz mu n k hfr _ hk=>by
  rw [i_ref16_New,dc_at b_ref16_New.eq_1]
  simp only [↓E1,E2,zA,zB,zC,zD,zE,zF,zG,zH,zI,zJ,zK,zL,zM,zN,reduceIte,zO,zP]
  refine CPr.abs1 hfr λmu0 n0 gg h3 b1=>?_
  refine (ref16_Nodes H nodes).c1 gg.free trivial ?_
  rintro v mu1 n1 g1 rfl
  have hlt:=g1.le
  have c1:=(g1.own n (by omega)).trans b1
  have wc1:=look_with (fz:=fz) c1
  have gz:=gg.trans (g1.weaken (by omega))
  clear b1
  cases hn : nodesB nodes with
  | false =>
    simp only [↓E1,E2,zA,zB,zC,zD,zE,zF,zG,zH,zI,zJ,zK,zL,zM,zN,reduceIte,zO,zP, *,with_putI,look_putS,Option.isSome_some,Option.map_some]
    exact hk _ _ _ (gz.put (Nat.le_refl _) c1) rfl
  | true =>
    cases hd1 : decide (me < 0) with
    | true =>
      simp only [↓E1,E2,zA,zB,zC,zD,zE,zF,zG,zH,zI,zJ,zK,zL,zM,zN,reduceIte,zO,zP, *,with_putI,look_putS,Option.isSome_some,Option.map_some]
      exact hk _ _ _ (gz.put (Nat.le_refl _) c1) rfl
    | false =>
      have hd2 : decide (nodes ≤ me) = true:=by
        unfold meB at hm
        simp at hd1 hm ⊢
        exact hm hn (by omega)
      simp only [↓E1,E2,zA,zB,zC,zD,zE,zF,zG,zH,zI,zJ,zK,zL,zM,zN,reduceIte,zO,zP, *,with_putI,look_putS,Option.isSome_some,Option.map_some]
      exact hk _ _ _ (gz.put (Nat.le_refl _) c1) rfl
end Go.Proofs.Ytnnjlnkoomeadaa.Pv
namespace Go.Ev
def oth (me : Int) : List Int → Nat → List Int
  | [],_=>[]
  | x :: t,i=>if (i : Int) = me then oth me t (i + 1) else x :: oth me t (i + 1)
theorem oth_append (me : Int) : ∀ (a b : List Int) (i : Nat),oth me (a ++ b) i = oth me a i ++ oth me b (i + a.length)
  | [],b,i=>by simp [oth]
  | x :: a,b,i=>by
    simp only [List.cons_append,oth,oth_append me a b (i + 1),List.length_cons]
    rw [show i + 1 + a.length = i + (a.length + 1) by omega]
    split <;> simp
theorem oth_take (me : Int) {l : List Int} {i : Nat} (h : i < l.length) : oth me (l.take (i + 1)) 0 = if (i : Int) = me then oth me (l.take i) 0 else oth me (l.take i) 0 ++ [l[i]]:=by
  rw [List.take_succ_eq_append_getElem h,oth_append]
  simp only [oth,List.length_take,Nat.zero_add,show min i l.length = i by omega]
  split <;> simp
theorem oth_length (me : Int) : ∀ (l : List Int) (i : Nat),(oth me l i).length ≤ l.length
  | [],_=>by simp [oth]
  | x :: t,i=>by
    have:=oth_length me t (i + 1)
    simp only [oth]
    split <;> simp <;> omega
def manyL (me : Int) (l : List Int) (t : Int) : Nat:=(oth me l 0).countP (λx=>decide (t ≤ x))
theorem many_take (me : Int) (t : Int) {l : List Int} {i : Nat} (h : i < l.length) : manyL me (l.take (i + 1)) t = if (i : Int) ≠ me ∧ t ≤ l[i] then manyL me (l.take i) t + 1 else manyL me (l.take i) t:=by
  unfold manyL
  rw [oth_take me h]
  by_cases h1 : (i : Int) = me
  · simp [h1]
  · by_cases h2 : t ≤ l[i] <;> simp [h1,h2]
theorem many_le (me : Int) (l : List Int) (t : Int) : manyL me l t ≤ l.length:=Nat.le_trans List.countP_le_length (oth_length me l 0)
theorem count_at {S : List Int} (hs : S.Pairwise (· ≤ ·)) {f : Nat} (h0 : 0 < f) (hf : f ≤ S.length) (t : Int) : f ≤ S.countP (λx=>decide (t ≤ x)) ↔ t ≤ S[S.length - f]'(by omega):=by
  constructor
  · intro h
    rcases Int.lt_or_le (S[S.length - f]'(by omega)) t with h1 | h1
    · exfalso
      have h2 : (S.take (S.length - f + 1)).countP (λx=>decide (t ≤ x)) = 0:=by
        rw [List.countP_eq_zero]
        intro x hx
        obtain ⟨j,hj,rfl⟩:=List.getElem_of_mem hx
        simp only [List.length_take] at hj
        rw [List.getElem_take]
        simp only [decide_eq_true_eq]
        rcases Nat.lt_or_ge j (S.length - f) with h3 | h3
        · have:=List.pairwise_iff_getElem.1 hs j (S.length - f) (by omega) (by omega) h3; omega
        · have : j = S.length - f:=by omega
          subst this; omega
      have h3:=@List.countP_le_length _ (λx=>decide (t ≤ x)) (S.drop (S.length - f + 1))
      have h4 : S.countP (λx=>decide (t ≤ x)) = (S.take (S.length - f + 1) ++ S.drop (S.length - f + 1)).countP (λx=>decide (t ≤ x)):=by rw [List.take_append_drop]
      rw [List.countP_append,h2] at h4
      simp only [List.length_drop] at h3
      omega
    · exact h1
  · intro h
    have h1 : (S.drop (S.length - f)).countP (λx=>decide (t ≤ x)) = (S.drop (S.length - f)).length:=by
      rw [List.countP_eq_length]
      intro x hx
      obtain ⟨j,hj,rfl⟩:=List.getElem_of_mem hx
      simp only [List.length_drop] at hj
      rw [List.getElem_drop]
      simp only [decide_eq_true_eq]
      rcases Nat.eq_zero_or_pos j with rfl | h3
      · simpa using h
      · have:=List.pairwise_iff_getElem.1 hs (S.length - f) (S.length - f + j) (by omega) (by omega) (by omega); omega
    have h4 : S.countP (λx=>decide (t ≤ x)) = (S.take (S.length - f) ++ S.drop (S.length - f)).countP (λx=>decide (t ≤ x)):=by rw [List.take_append_drop]
    rw [List.countP_append,h1] at h4
    simp only [List.length_drop] at h4
    omega
def srt (l : List Int) : List Int:=l.mergeSort λx y=>decide (x ≤ y)
def commF (acks : List Int) (me last : Int) : Int :=
  let f:=(acks.length - 1) / 2
  let S:=srt (oth me acks 0)
  if f = 0 then max 0 last else if h : f ≤ S.length ∧ 0 < f then max 0 (min last (S[S.length - f]'(by omega))) else 0
theorem srt_length (l : List Int) : (srt l).length = l.length:=by unfold srt; exact List.length_mergeSort l
theorem srt_sorted (l : List Int) : (srt l).Pairwise (· ≤ ·):=by
  have:=List.pairwise_mergeSort (le:=λx y : Int=>decide (x ≤ y)) (λa b c h1 h2=>by simp at *; omega) (λa b=>by simp; omega) l
  exact this.imp λh=>by simpa using h
theorem commF_zero {acks : List Int} {me last : Int} (h : (acks.length - 1) / 2 = 0) : commF acks me last = max 0 last:=by
  unfold commF; dsimp only; rw [if_pos h]
theorem commF_few {acks : List Int} {me last : Int} (h : ¬ (acks.length - 1) / 2 = 0) (h2 : (oth me acks 0).length < (acks.length - 1) / 2) : commF acks me last = 0:=by
  unfold commF; dsimp only; rw [if_neg h,dif_neg (by rw [srt_length]; omega)]
theorem commF_mid {acks : List Int} {me last : Int} {f j : Nat} (hf : (acks.length - 1) / 2 = f) (h : 0 < f) (h2 : f ≤ (oth me acks 0).length) (hj : j = (oth me acks 0).length - f) (hj2 : j < (srt (oth me acks 0)).length) : commF acks me last = max 0 (min last (srt (oth me acks 0))[j]):=by
  subst hf
  unfold commF; dsimp only
  rw [if_neg (by omega),dif_pos ⟨by rw [srt_length]; exact h2,h⟩]
  have : (srt (oth me acks 0)).length - (acks.length - 1) / 2 = j:=by rw [srt_length]; exact hj.symm
  simp only [this]
theorem many_srt (me : Int) (l : List Int) (t : Int) : manyL me l t = (srt (oth me l 0)).countP (λx=>decide (t ≤ x)) :=
  ((List.mergeSort_perm _ _).countP_eq _).symm
theorem comm_at {acks : List Int} {me last t : Int} (h0 : 0 < t) (hl : t ≤ last) (hn : ∀ u,t < u → u ≤ last → manyL me acks u < (acks.length - 1) / 2) (h : (acks.length - 1) / 2 ≤ manyL me acks t) : commF acks me last = t:=by
  unfold commF
  dsimp only
  by_cases hf : (acks.length - 1) / 2 = 0
  · rw [if_pos hf]
    rcases Int.lt_or_le t last with h1 | h1
    · have:=hn last h1 (Int.le_refl _); omega
    · omega
  · rw [if_neg hf]
    have hlen : (acks.length - 1) / 2 ≤ (srt (oth me acks 0)).length:=by rw [many_srt] at h; exact Nat.le_trans h List.countP_le_length
    rw [dif_pos ⟨hlen,by omega⟩]
    rw [many_srt,count_at (srt_sorted _) (by omega) hlen] at h
    rcases Int.lt_or_le t last with h1 | h1
    · have:=hn (t + 1) (by omega) (by omega)
      rw [many_srt] at this
      have h2:=mt (count_at (srt_sorted (oth me acks 0)) (by omega) hlen (t + 1)).2 (by omega)
      omega
    · omega
theorem comm_none {acks : List Int} {me last : Int} (hn : ∀ u,0 < u → u ≤ last → manyL me acks u < (acks.length - 1) / 2) : commF acks me last = 0:=by
  unfold commF
  dsimp only
  by_cases h1 : 0 < last
  · have h2:=hn last h1 (Int.le_refl _)
    have hf : ¬ (acks.length - 1) / 2 = 0:=by omega
    rw [if_neg hf]
    split
    · rename_i h3
      have h4:=hn 1 (by omega) (by omega)
      rw [many_srt] at h4
      have h5:=mt (count_at (srt_sorted (oth me acks 0)) h3.2 h3.1 1).2 (by omega)
      omega
    · rfl
  · split
    · omega
    · split <;> omega
end Go.Ev
namespace Go.Proofs.Ytnnjlnkoomeadaa.Pv
open Go.Ev Go.Ev.Rp
set_option maxRecDepth 100000
set_option maxHeartbeats 4000000
set_option linter.unusedSimpArgs false
set_option linter.unusedVariables false
set_option linter.unusedSectionVars false
def IntR (_ : Fz) (c : List SV) (a : Int) : Prop:=c = intC a
theorem all2_ints {M : Fz} : ∀ {cs : List (List SV)} {l : List Int},All2 (IntR M) cs l → cs = l.map intC
  | [],[],_=>rfl
  | c :: cs,a :: l,h=>by rw [show c = intC a from h.1,all2_ints h.2]; rfl
theorem grow_ints {lo : Nat} {M : Fz} {x : SV} {l : List Int} (h : Grow lo M 1 IntR x l) : IntsX (From lo M) x l:=by
  obtain ⟨cs,h1,h2⟩:=h
  rw [all2_ints h2] at h1; exact h1
theorem cm_flat (l : List Int) : (l.map intC).flatten = l.map (SV.int .i64):=by
  induction l with
  | nil=>rfl
  | cons a l ih=>rw [List.map_cons,List.flatten_cons,ih]; rfl
theorem cm_mkd (l : List Int) : mkd (l.map (SV.int .i64)) = false:=by cases l <;> rfl
theorem cm_sub {l : List Int} {j : Nat} (h : j < l.length) : List.take 1 (List.drop (j * 1) (l.map (SV.int .i64))) = [I l[j]]:=by
  rw [Nat.mul_one,List.drop_eq_getElem_cons (by simpa using h)]
  simp
theorem cm_evs_nil {tm : TM} : evs tm [] = []:=rfl
theorem cm_evs_cons {tm : TM} {x : Od} {l : List Od} : evs tm (x :: l) = ev tm x :: evs tm l:=rfl
def SortC (P : Program) : Prop:=∀ (id cap : Nat) (l : List Int) (fz : Fz) (mu : St) (n : Nat) (k : AV → St → Nat → Prop),Ev.look mu id = some (l.map (SV.int .i64)) → l.length < 4611686018427387904 → k (.tp []) (putS mu id ((srt l).map (SV.int .i64))) n → CP P n_slices_Sort_int_int [.one (.osl id 0 l.length cap 1)] fz mu n k
variable {P : Program} (H : Fs P)
include H
theorem replica_Committed (hS : SortC P) (x : SV) (acks : List Int) (me last : Int) (hl : acks.length ≤ 17592186044415) : Ctr P n_replica_Committed [.one x,.one (I me),.one (I last)] (λM=>IntsR M x acks) (λ_ _ _ v=>v = .one (I (commF acks me last))):=Ctr.of H.mx H.replica_Committed (λ_=>acks.length + 1) λfz mu n k hfr s1 hk=>by
  obtain ⟨xl,xs,xk,xm⟩:=s1.len
  rw [i_replica_Committed,dc_at b_replica_Committed.eq_1]
  simp only [↓E1,E2,zA,zB,zC,zD,zE,zF,zG,zH,zI,zJ,zK,zL,zM,zN,reduceIte,zO,zP, *]
  refine loopI (x:=0) (L:=acks.length) (p:=λ_=>true) (λi e mu' n'=>∃ xo,Gr n fz mu mu' n n' ∧ Grow n (with' mu' fz) 1 IntR xo (oth me (acks.take i) 0) ∧ e 0 0 = .one x ∧ e 0 1 = .one (I me) ∧ e 0 2 = .one (I last) ∧ e 0 7 = .one xo ∧ e 0 11 = .one x ∧ e 0 12 = .one (.int .i64 acks.length) ∧ e 0 13 = .one (.int .i64 i)) (λe mu' n'=>False) ?_ ?_ _ _ _ _ _ (by omega) ?_ ?_ ?_
  · rintro i e mu1 n1 K hi ⟨xo,g1,c4,e0,e1,e2,e7,e11,e12,e13⟩ hy hn
    rw [dc_at l_replica_Committed_0.eq_1]
    have hw:=wrap_succ hi (by omega)
    obtain ⟨id,off,cap,B,rfl,hB,hmk,hbd,hsub⟩:=(IntsR.mono (λ_ _ hh=>g1.old hfr hh) s1).elem hi
    have hot:=oth_take me hi
    obtain ⟨xol,xos,xok,xom⟩:=c4.len
    have hol:=oth_length me (acks.take i) 0
    rw [List.length_take] at hol
    simp only [↓E1,E2,zA,zB,zC,zD,zE,zF,zG,zH,zI,zJ,zK,zL,zM,zN,reduceIte,zO,zP, *]
    refine Br_intro (λhb=>?_) (λhb=>?_)
    · have hme : (i : Int) = me:=by simpa using hb
      rw [if_pos hme] at hot
      clear hme
      simp only [↓E1,E2,zA,zB,zC,zD,zE,zF,zG,zH,zI,zJ,zK,zL,zM,zN,reduceIte,zO,zP, *]
      refine hy rfl _ _ _ ⟨xo,g1,by rw [hot]; exact c4,?_,?_,?_,?_,?_,?_,?_⟩
      all_goals simp [updN,updE, *]
    · have hme : ¬ (i : Int) = me:=by simpa using hb
      rw [if_neg hme] at hot
      clear hme
      simp only [↓E1,E2,zA,zB,zC,zD,zE,zF,zG,zH,zI,zJ,zK,zL,zM,zN,reduceIte,zO,zP, *]
      refine Grow.more (R:=IntR) (λ_ h=>h) (a:=acks[i]) c4 g1.free g1.le (λj hj=>hfr.fz j hj) ((Gr.refl g1.free).cons (Nat.le_refl _) _) rfl ⟨rfl,rfl⟩ (fits_le (by omega) (by decide) (by decide)) (λmu3 g3 G3=>?_)
      simp only [↓E1,E2,zA,zB,zC,zD,zE,zF,zG,zH,zI,zJ,zK,zL,zM,zN,reduceIte,zO,zP, *]
      refine hy rfl _ _ _ ⟨_,g1.trans g3,by rw [hot]; exact G3,?_,?_,?_,?_,?_,?_,?_⟩
      all_goals simp [updN,updE, *]
  · rintro e mu1 n1 K ⟨xo,g1,c4,e0,e1,e2,e7,e11,e12,e13⟩ hx
    rw [dc_at l_replica_Committed_0.eq_1]
    have hlt : ((acks.length : Int) < acks.length) = False:=by simp
    simp only [↓E1,E2,zA,zB,zC,zD,zE,zF,zG,zH,zI,zJ,zK,zL,zM,zN,reduceIte,zO,zP, *]
    exact hx _ _ _ ⟨xo,g1,c4,by simp [updN,updE,e0],by simp [updN,updE,e1],by simp [updN,updE,e2],by simp [updN,updE,e7],by simp [updN,updE,e11],by simp [updN,updE,e12],by simp [updN,updE,e13]⟩
  · exact ⟨.nsl,Gr.refl hfr,Grow.nil,by simp [updN,updE,envI],by simp [updN,updE,envI],by simp [updN,updE,envI],by simp [updN,updE],by simp [updN,updE],by simp [updN,updE],by simp [updN,updE]⟩
  · rintro - e1 mu1 n1 ⟨xo,g1,c4,e0,e1,e2,e7,e11,e12,e13⟩
    rw [List.take_length] at c4
    obtain ⟨f,hf⟩ : ∃ f,(acks.length - 1) / 2 = f:=⟨_,rfl⟩
    have hw1 : IntKind.i64.wrap ((acks.length : Int) - 1) = (acks.length : Int) - 1:=wrap64 (by omega) (by omega)
    have hq : ((acks.length : Int) - 1).tdiv 2 = (f : Int):=by
      rcases Nat.eq_zero_or_pos acks.length with h0 | h0
      · rw [h0] at hf ⊢; subst hf; rfl
      · rw [Int.tdiv_eq_ediv_of_nonneg (by omega)]; omega
    have hw2 : IntKind.i64.wrap (f : Int) = (f : Int):=wrap64 (by omega) (by omega)
    obtain ⟨xol,xos,xok,xom⟩:=c4.len
    have hol:=oth_length me acks 0
    simp only [↓E1,E2,zA,zB,zC,zD,zE,zF,zG,zH,zI,zJ,zK,zL,zM,zN,reduceIte,zO,zP, *]
    refine Br_intro (λhb=>?_) (λhb=>?_)
    · simp only [↓E1,E2,zA,zB,zC,zD,zE,zF,zG,zH,zI,zJ,zK,zL,zM,zN,reduceIte,zO,zP, *]
      simp only [cm_evs_cons,cm_evs_nil]
      simp only [↓E1,E2,zA,zB,zC,zD,zE,zF,zG,zH,zI,zJ,zK,zL,zM,zN,reduceIte,zO,zP]
      refine hk _ _ _ g1 ?_
      have h0 : acks.length = 0:=by simpa using hb
      have h1 : f = 0:=by omega
      rw [commF_zero (hf.trans h1)]
    · simp only [↓E1,E2,zA,zB,zC,zD,zE,zF,zG,zH,zI,zJ,zK,zL,zM,zN,reduceIte,zO,zP, *]
      refine Br_intro (λhc=>?_) (λhc=>?_)
      · simp only [↓E1,E2,zA,zB,zC,zD,zE,zF,zG,zH,zI,zJ,zK,zL,zM,zN,reduceIte,zO,zP, *]
        simp only [cm_evs_cons,cm_evs_nil]
        simp only [↓E1,E2,zA,zB,zC,zD,zE,zF,zG,zH,zI,zJ,zK,zL,zM,zN,reduceIte,zO,zP]
        refine hk _ _ _ g1 ?_
        have h1 : f = 0:=by have : (f : Int) ≤ 0:=(by simpa using hc); omega
        rw [commF_zero (hf.trans h1)]
      · simp only [↓E1,E2,zA,zB,zC,zD,zE,zF,zG,zH,zI,zJ,zK,zL,zM,zN,reduceIte,zO,zP, *]
        have h1 : 0 < f:=by have : ¬ (f : Int) ≤ 0:=(by simpa using hc); omega
        refine Br_intro (λhd=>?_) (λhd=>?_)
        · simp only [↓E1,E2,zA,zB,zC,zD,zE,zF,zG,zH,zI,zJ,zK,zL,zM,zN,reduceIte,zO,zP, *]
          refine hk _ _ _ g1 ?_
          have h2 : (oth me acks 0).length < f:=by simpa using hd
          rw [commF_few (by omega) (by omega)]
        · have h2 : f ≤ (oth me acks 0).length:=Nat.not_lt.1 (of_decide_eq_false hd)
          rcases grow_ints c4 with ⟨_,h3⟩ | ⟨id,rfl,h3,hmk,hes⟩
          · have h9 : (oth me acks 0).length = 0:=by have:=congrArg List.length h3; rwa [List.length_map] at this
            omega
          have hlk : Ev.look mu1 id = some ((oth me acks 0).map (SV.int .i64)):=by
            obtain ⟨h4,h5⟩:=From.el h3
            rw [with_look (hfr.fz id h4)] at h5
            rw [h5,cm_flat]
          have hid : n ≤ id:=From.lt h3
          clear h3 hmk hes c4
          simp only [List.length_map] at e7 xol xos xok xom
          obtain ⟨j,hj⟩ : ∃ j,j = (oth me acks 0).length - f:=⟨_,rfl⟩
          have hj2 : j < (srt (oth me acks 0)).length:=by rw [srt_length]; omega
          have hco:=commF_mid (last:=last) hf h1 h2 hj hj2
          have hw5 : IntKind.i64.wrap (((oth me acks 0).length : Int) - f) = (j : Int):=by rw [wrap64 (by omega) (by omega)]; omega
          have hcall:=hS id (oth me acks 0).length (oth me acks 0) fz mu1 n1
          simp only [↓E1,E2,zA,zB,zC,zD,zE,zF,zG,zH,zI,zJ,zK,zL,zM,zN,reduceIte,zO,zP, *]
          refine hcall _ hlk (by omega) ?_
          have hB : with' (putS mu1 id ((srt (oth me acks 0)).map (SV.int .i64))) fz id = some ((srt (oth me acks 0)).map (SV.int .i64)):=by rw [with_putS hlk,if_pos rfl]
          have hmk:=cm_mkd (srt (oth me acks 0))
          have hbd : j * 1 + 1 ≤ ((srt (oth me acks 0)).map (SV.int .i64)).length:=by rw [List.length_map]; omega
          have hsub:=cm_sub hj2
          have hjl : j < (oth me acks 0).length:=by omega
          have gp:=g1.put hid hlk (c:=(srt (oth me acks 0)).map (SV.int .i64))
          clear hj
          simp only [↓E1,E2,zA,zB,zC,zD,zE,zF,zG,zH,zI,zJ,zK,zL,zM,zN,reduceIte,zO,zP, *]
          simp only [cm_evs_cons,cm_evs_nil]
          simp only [↓E1,E2,zA,zB,zC,zD,zE,zF,zG,zH,zI,zJ,zK,zL,zM,zN,reduceIte,zO,zP]
          try simp only [cm_evs_cons,cm_evs_nil]
          try simp only [↓E1,E2,zA,zB,zC,zD,zE,zF,zG,zH,zI,zJ,zK,zL,zM,zN,reduceIte,zO,zP]
          exact hk _ _ _ gp (by rw [hco])
  · rintro ⟨_,_,_,h⟩; cases h
end Go.Proofs.Ytnnjlnkoomeadaa.Pv
namespace Go.Proofs.Ytnnjlnkoomeadaa.Pv
open Go.Ev Go.Ev.Rp
set_option maxRecDepth 100000
set_option maxHeartbeats 4000000
set_option linter.unusedSimpArgs false
set_option linter.unusedVariables false
set_option linter.unusedSectionVars false
variable {P : Program} (H : Fs P)
include H
theorem ref16_Committed (x : SV) (acks : List Int) (me last : Int) (hl : acks.length ≤ 4611686018427387904) (hlast : last ≤ 5000) : Ctr P n_ref16_Committed [.one x,.one (I me),.one (I last)] (λM=>IntsR M x acks) (λ_ _ _ v=>v = .one (I (commF acks me last))):=Ctr.of H.mx H.ref16_Committed (λ_=>acks.length + 5002) λfz mu n k hfr s1 hk=>by
  obtain ⟨xl,xs,xk,xm⟩:=s1.len
  obtain ⟨f,hf⟩ : ∃ f,(acks.length - 1) / 2 = f:=⟨_,rfl⟩
  have hw1 : IntKind.i64.wrap ((acks.length : Int) - 1) = (acks.length : Int) - 1:=wrap64 (by omega) (by omega)
  have hq : ((acks.length : Int) - 1).tdiv 2 = (f : Int):=by
    rcases Nat.eq_zero_or_pos acks.length with h0 | h0
    · rw [h0] at hf ⊢; subst hf; rfl
    · rw [Int.tdiv_eq_ediv_of_nonneg (by omega)]; omega
  have hw2 : IntKind.i64.wrap (f : Int) = (f : Int):=wrap64 (by omega) (by omega)
  rw [i_ref16_Committed,dc_at b_ref16_Committed.eq_1]
  simp only [↓E1,E2,zA,zB,zC,zD,zE,zF,zG,zH,zI,zJ,zK,zL,zM,zN,reduceIte,zO,zP, *]
  refine loopI (x:=0) (L:=last.toNat) (p:=λi=>decide (manyL me acks (last - (i : Nat)) < f)) (λi e mu' n'=>Gr n fz mu mu' n n' ∧ (∀ j : Nat,j < i → manyL me acks (last - j) < f) ∧ e 0 0 = .one x ∧ e 0 1 = .one (I me) ∧ e 0 7 = .one (.int .i64 (f : Nat)) ∧ e 0 8 = .one (I (last - (i : Nat)))) (λe mu' n'=>∃ i : Nat,Gr n fz mu mu' n n' ∧ i < last.toNat ∧ (∀ j : Nat,j < i → manyL me acks (last - j) < f) ∧ f ≤ manyL me acks (last - i) ∧ e 0 6 = .one (I (last - (i : Nat)))) ?_ ?_ _ _ _ _ _ (by omega) ?_ ?_ ?_
  · rintro i e mu1 n1 K hi ⟨g1,hlo,e0,e1,e7,e8⟩ hy hn
    rw [dc_at l_ref16_Committed_1.eq_1]
    have hgt : (0 < last - (i : Int)) = True:=by simp; omega
    have hsub : IntKind.i64.wrap (last - (i : Int) - 1) = last - ((i + 1 : Nat) : Int):=by rw [wrap64 (by omega) (by omega)]; omega
    simp only [↓E1,E2,zA,zB,zC,zD,zE,zF,zG,zH,zI,zJ,zK,zL,zM,zN,reduceIte,zO,zP, *]
    refine loopI (x:=2) (L:=acks.length) (p:=λ_=>true) (λj e mu' n'=>Gr n fz mu mu' n n' ∧ e 0 0 = .one x ∧ e 0 1 = .one (I me) ∧ e 0 7 = .one (.int .i64 (f : Nat)) ∧ e 0 8 = .one (I (last - (i : Nat))) ∧ e 0 9 = .one (.int .i64 (manyL me (acks.take j) (last - (i : Nat)) : Nat)) ∧ e 0 10 = .one (.int .i64 j)) (λ_ _ _=>False) ?_ ?_ _ _ _ _ _ (by omega) ?_ ?_ ?_
    · rintro j e mu1 n1 K hj ⟨g2,e0,e1,e7,e8,e9,e10⟩ hy2 hn2
      rw [dc_at l_ref16_Committed_0.eq_1]
      have hw:=wrap_succ hj hl
      have hmt:=many_take me (last - (i : Int)) hj
      have hml:=many_le me (acks.take j) (last - (i : Int))
      have hml2 : (acks.take j).length ≤ acks.length:=by rw [List.length_take]; omega
      have hw9 : IntKind.i64.wrap ((manyL me (acks.take j) (last - (i : Int)) : Int) + 1) = ((manyL me (acks.take j) (last - (i : Int)) + 1 : Nat) : Int):=by rw [wrap64 (by omega) (by omega)]; omega
      obtain ⟨id,off,cap,B,rfl,hB,hmk,hbd,hsub2⟩:=(IntsR.mono (λ_ _ hh=>g2.old hfr hh) s1).elem hj
      simp only [↓E1,E2,zA,zB,zC,zD,zE,zF,zG,zH,zI,zJ,zK,zL,zM,zN,reduceIte,zO,zP, *]
      clear hk hy hn hlo hf hw1 hq hw2
      have hA : True:=trivial
      repeat' (refine Br_intro (λhb=>?_) (λhb=>?_) <;> replace hA:=And.intro hA hb <;> simp only [↓E1,E2,zA,zB,zC,zD,zE,zF,zG,zH,zI,zJ,zK,zL,zM,zN,reduceIte,zO,zP,hb, *] <;> clear hb)
      all_goals
        first
          | (have hm : manyL me (acks.take (j + 1)) (last - (i : Int)) = manyL me (acks.take j) (last - (i : Int)) := by
               rw [hmt]; split
               · rename_i hc; exfalso; obtain ⟨c1,c2⟩:=hc; simp at hA; omega
               · rfl
             refine hy2 rfl _ _ _ ⟨g2,?_,?_,?_,?_,?_,?_⟩
             all_goals (clear hA hmt; simp [updN,updE, *]; done))
          | (have hm : manyL me (acks.take (j + 1)) (last - (i : Int)) = manyL me (acks.take j) (last - (i : Int)) + 1 := by
               rw [hmt]; split
               · rfl
               · rename_i hc; exfalso; apply hc; simp at hA; refine ⟨?_,?_⟩ <;> omega
             refine hy2 rfl _ _ _ ⟨g2,?_,?_,?_,?_,?_,?_⟩
             all_goals (clear hA hmt; simp [updN,updE, *]; done))
    · rintro e mu1 n1 K ⟨g2,e0,e1,e7,e8,e9,e10⟩ hx
      rw [dc_at l_ref16_Committed_0.eq_1]
      have hlt : (acks.length < acks.length) = False:=by simp
      clear hk hy hn hlo
      simp only [↓E1,E2,zA,zB,zC,zD,zE,zF,zG,zH,zI,zJ,zK,zL,zM,zN,reduceIte,zO,zP, *]
      try (refine hx _ _ _ ⟨g2,?_,?_,?_,?_,?_,?_⟩ <;> simp [updN,updE, *])
    · refine ⟨g1,?_,?_,?_,?_,?_,?_⟩
      all_goals (clear hk hy hn hlo; simp [updN,updE, *])
      all_goals (unfold manyL; rfl)
    · rintro - e mu1 n1 ⟨g2,e0,e1,e7,e8,e9,e10⟩
      rw [List.take_length] at e9
      have hlo':=Hide.mk hlo
      clear hlo
      have hY:=Hide.mk hy
      have hN:=Hide.mk hn
      clear hk hn hy
      simp only [↓E1,E2,zA,zB,zC,zD,zE,zF,zG,zH,zI,zJ,zK,zL,zM,zN,reduceIte,zO,zP, *]
      refine Br_intro (λhb=>?_) (λhb=>?_)
      · have hb' : f ≤ manyL me acks (last - (i : Int)):=of_decide_eq_true hb
        simp only [↓E1,E2,zA,zB,zC,zD,zE,zF,zG,zH,zI,zJ,zK,zL,zM,zN,reduceIte,zO,zP, *]
        refine hN.out (decide_eq_false (by omega)) _ _ _ ⟨i,g2,hi,hlo'.out,hb',?_⟩
        simp [updN,updE]
      · have hb' : ¬ f ≤ manyL me acks (last - (i : Int)):=of_decide_eq_false hb
        simp only [↓E1,E2,zA,zB,zC,zD,zE,zF,zG,zH,zI,zJ,zK,zL,zM,zN,reduceIte,zO,zP, *]
        refine hY.out (decide_eq_true (by omega)) _ _ _ ⟨g2,λj hj=>?_,?_,?_,?_,?_⟩
        · rcases Nat.lt_or_ge j i with h | h
          · exact hlo'.out j h
          · have : j = i:=by omega
            subst this; omega
        all_goals simp [updN,updE, *]
    · rintro ⟨_,_,_,h⟩; cases h
  · rintro e mu1 n1 K ⟨g1,hlo,e0,e1,e7,e8⟩ hx
    rw [dc_at l_ref16_Committed_1.eq_1]
    have hgt : (0 < last - ((last.toNat : Nat) : Int)) = False:=by simp; omega
    clear hk
    have hlo':=Hide.mk hlo
    clear hlo
    simp only [↓E1,E2,zA,zB,zC,zD,zE,zF,zG,zH,zI,zJ,zK,zL,zM,zN,reduceIte,zO,zP, *]
    refine hx _ _ _ ⟨g1,hlo'.out,?_,?_,?_,?_⟩
    all_goals simp [updN,updE, *]
  · refine ⟨Gr.refl hfr,λj hj=>by omega,?_,?_,?_,?_⟩
    all_goals (clear hk; simp [updN,updE,envI, *])
  · rintro hall e mu1 n1 ⟨g1,hlo,e0,e1,e7,e8⟩
    have hc:=comm_none (acks:=acks) (me:=me) (last:=last) λu h1 h2=>by
      have:=hlo (last - u).toNat (by omega)
      rw [show last - (((last - u).toNat : Nat) : Int) = u by omega] at this
      rw [hf]; exact this
    clear hall hlo
    simp only [↓E1,E2,zA,zB,zC,zD,zE,zF,zG,zH,zI,zJ,zK,zL,zM,zN,reduceIte,zO,zP]
    exact hk _ _ _ g1 (by rw [hc])
  · rintro - e mu1 n1 ⟨i,g1,hi,hlo,hge,e6⟩
    have hc:=comm_at (acks:=acks) (me:=me) (last:=last) (t:=last - (i : Nat)) (by omega) (by omega) (λu h1 h2=>by
      have:=hlo (last - u).toNat (by omega)
      rw [show last - (((last - u).toNat : Nat) : Int) = u by omega] at this
      rw [hf]; exact this) (by rw [hf]; exact hge)
    clear hlo
    simp only [↓E1,E2,zA,zB,zC,zD,zE,zF,zG,zH,zI,zJ,zK,zL,zM,zN,reduceIte,zO,zP,e6]
    exact hk _ _ _ g1 (by rw [hc])
end Go.Proofs.Ytnnjlnkoomeadaa.Pv
namespace Go.Proofs.Ytnnjlnkoomeadaa.Pv
open Go.Ev Go.Ev.Rp
set_option maxRecDepth 100000
set_option maxHeartbeats 4000000
set_option linter.unusedSimpArgs false
set_option linter.unusedVariables false
set_option linter.unusedSectionVars false
theorem app_more {fz : Fz} {mu mu2 : St} {n n2 s b : Nat} {x : SV} {es fs : List (List SV)} {k : KT Prop} (hfr : Free fz mu n) (g : Gr n fz mu mu2 n n2) (hx : SlX (From n (with' mu2 fz)) s x es)
    (hf : fits (es.length + fs.length) b = true) (hfs : fs ≠ []) (he : ∀ e ∈ fs,e.length = s ∧ knownAll e = true)
    (h : ∀ mu3,Gr n fz mu mu3 n (n2 + 1) → Go.Ev.look mu3 n2 = some (es ++ fs).flatten → k (.one (.osl n2 0 (es ++ fs).length (es ++ fs).length s)) mu3 (n2 + 1)) : onApp mu2 n2 s b x fs.flatten fs.length k:=by
  have hfz : ∀ j,n ≤ j → fz j = none:=λj hj=>hfr.fz j hj
  have hle:=g.le
  refine onApp_more (G:=From n (with' mu2 fz)) hx (λid B h=>?_) hf hfs he λmu3 ho hn=>h mu3 ?_ hn
  · obtain ⟨h2,h3⟩:=From.el h
    rw [← h3,with_look (hfz id h2)]
  · have hk : ∀ j, j ≠ n2 → j < n → Go.Ev.look mu3 j = Go.Ev.look mu2 j := by
      intro j hj hd
      rcases ho j hj with h | ⟨B,h2,h3,h4⟩
      · exact h
      · obtain ⟨h5,h6⟩:=From.el h2
        omega
    refine ⟨by omega,λid hi=>?_,λid hi=>?_,λj=>?_⟩
    · rw [with_congr (hk id (by omega) hi)]; exact g.ext id hi
    · rw [hk id (by omega) hi]; exact g.own id hi
    · have h5:=g.free.none (id:=n2 + 1 + j) (by omega)
      rcases ho (n2 + 1 + j) (by omega) with h | ⟨B,h2,h3,h4⟩
      · rw [with_congr h]; exact h5
      · rw [with_eq,h4]; exact hfz _ (by omega)
theorem ints_flat (l : List Int) : (l.map intC).flatten = l.map I:=by
  induction l with
  | nil=>rfl
  | cons h t ih=>simp [ih,intC]
theorem sliceOf_hi {s id off len cap h : Nat} (hc : h ≤ cap) : sliceOf s (.osl id off len cap s) none (some (.one (.int .i64 (h : Int)))) none = some (.osl id off h cap s):=by
  have h1 : ¬ ((h : Int) < 0):=by omega
  have h2 : h.ble cap = true:=Nat.ble_eq_true_of_le hc
  have h3 : Nat.ble 0 h = true:=Nat.ble_eq_true_of_le (Nat.zero_le _)
  simp [sliceOf,bound,h1,h2,h3]
theorem mkd_I : ∀ (l : List Int),mkd (l.map I ++ [I (-7777),I (-8888)]) = false
  | []=>rfl
  | a :: l=>rfl
def LentI (M : Fz) (id : Nat) (l : List Int) : Prop:=M id = some (l.map I ++ [I (-7777),I (-8888)])
theorem LentI.sl {M : Fz} {id : Nat} {l : List Int} (h : LentI M id l) : IntsR M (.osl id 0 l.length (l.length + 2) 1) l :=
  .inr ⟨id,0,l.length + 2,_,by simp,by simp,h,mkd_I l,by simp,by simp [ints_flat],int_ok⟩
variable {P : Program} (H : Fs P)
include H
theorem law0_CopyInts (x : SV) (l : List Int) (hl : l.length ≤ 17592186044415) : Ctr P n_law0_CopyInts [.one x] (λM=>IntsR M x l) (λn _ M v=>∃ x',v = .one x' ∧ IntsX (From n M) x' l):=Ctr.of H.mx H.law0_CopyInts (λ_=>0) λfz mu n k hfr s1 hk=>by
  obtain ⟨xl,xs,xk,xm⟩:=s1.len
  rw [i_law0_CopyInts,dc_at b_law0_CopyInts.eq_1]
  simp only [↓E1,E2,zA,zB,zC,zD,zE,zF,zG,zH,zI,zJ,zK,zL,zM,zN,reduceIte,zO,zP, *]
  obtain ⟨h1,h2⟩:=onSrc_Sl (Sl.mono s1 (sub1 hfr (c:=[])))
  rw [h1]; clear h1
  refine ⟨h2,app_empty hfr (fits_le (by simp; omega) (by decide) (by decide)) int_ok (λx' mu' n' g hx=>?_)⟩
  simp only [↓E1,E2,zA,zB,zC,zD,zE,zF,zG,zH,zI,zJ,zK,zL,zM,zN,reduceIte,zO,zP]
  exact hk _ _ _ g ⟨x',rfl,hx⟩
theorem law0_LendInts (x : SV) (l : List Int) (hl : l.length ≤ 17592186044413) : Ctr P n_law0_LendInts [.one x] (λM=>IntsR M x l) (λn _ M v=>∃ id,v = .one (.osl id 0 l.length (l.length + 2) 1) ∧ n ≤ id ∧ M id = some (l.map I ++ [I (-7777),I (-8888)])):=Ctr.of H.mx H.law0_LendInts (λ_=>0) λfz mu n k hfr s1 hk=>by
  obtain ⟨xl,xs,xk,xm⟩:=s1.len
  rw [i_law0_LendInts,dc_at b_law0_LendInts.eq_1]
  simp only [↓E1,E2,zA,zB,zC,zD,zE,zF,zG,zH,zI,zJ,zK,zL,zM,zN,reduceIte,zO,zP, *]
  refine (law0_CopyInts H x l (by omega)).c1 hfr s1 ?_
  rintro v mu' n' g ⟨x',rfl,hx⟩
  simp only [↓E1,E2,zA,zB,zC,zD,zE,zF,zG,zH,zI,zJ,zK,zL,zM,zN,reduceIte,zO,zP, *]
  have hle:=g.le
  have g2:=g.cons hle [I (-7777),I (-8888)]
  have hs : Sl (with' ((n',[I (-7777),I (-8888)]) :: mu') fz) 1 (.osl n' 0 2 2 1) [[I (-7777)],[I (-8888)]]:=.inr ⟨n',0,2,[I (-7777),I (-8888)],rfl,Nat.le_refl _,by rw [with_c,if_pos rfl],rfl,by decide,rfl,by intro e he; simp at he; rcases he with rfl | rfl <;> exact ⟨rfl,rfl⟩⟩
  refine app_more (fs:=[[I (-7777)],[I (-8888)]]) hfr g2 (hx.mono ?_) (fits_le (by simp; omega) (by decide) (by decide)) (by simp) (by intro e he; simp at he; rcases he with rfl | rfl <;> exact ⟨rfl,rfl⟩) (λmu3 g3 hn=>?_)
  · intro id B h
    obtain ⟨h5,h6⟩:=From.el h
    exact From.at h5 (by rw [with_c,if_neg (by have:=g.free.lt h6; omega)]; exact h6)
  · simp only [↓E1,E2,zA,zB,zC,zD,zE,zF,zG,zH,zI,zJ,zK,zL,zM,zN,reduceIte,zO,zP,Option.map, *]
    rw [sliceOf_hi (by simp)]
    simp only [↓E1,E2,zA,zB,zC,zD,zE,zF,zG,zH,zI,zJ,zK,zL,zM,zN,reduceIte,zO,zP, *]
    refine hk _ _ _ g3 ⟨n' + 1,by simp,by omega,?_⟩
    rw [look_with hn]
    simp [ints_flat]
theorem law0_SameInts (x y : SV) (l : List Int) (hl : l.length ≤ 4611686018427387904) : BoolC P n_law0_SameInts [.one x,.one y] (λM=>IntsR M x l ∧ IntsR M y l) true:=boolC H.mx H.law0_SameInts (l.length + 1) λfz mu n k hfr g0 hx h=>by
  obtain ⟨hx,hy⟩:=hx
  obtain ⟨xl,xs,xk,xm⟩:=hx.len
  obtain ⟨yl,ys,yk,ym⟩:=hy.len
  rw [i_law0_SameInts,dc_at b_law0_SameInts.eq_1]
  simp only [↓E1,E2,zA,zB,zC,zD,zE,zF,zG,zH,zI,zJ,zK,zL,zM,zN,reduceIte,zO,zP,xl,xs,yl,ys]
  refine scan (x:=0) (L:=l.length) (q:=0) (r:=5) (p:=λi=>true) (λe mu n=>Free fz mu n ∧ IntsR (with' mu fz) x l ∧ IntsR (with' mu fz) y l ∧ e 0 0 = .one x ∧ e 0 1 = .one y) (λe=>True) (λ_ _ _ h=>h.1) ?_ ?_ l.length 0 (l.length + 1) _ mu n _ _ (by omega) (by omega) (by omega) ⟨hfr,hx,hy,?_,?_⟩ ?_ ?_ ?_
  · rintro i e mu n K hi ⟨hf,hx,hy,h0,h1⟩ hc hY hn
    have hx':=hx
    have hy':=hy
    obtain ⟨id,off,cap,B,rfl,hB,hmk,hbd,hsub⟩:=hx.elem hi
    obtain ⟨id2,off2,cap2,B2,rfl,hB2,hmk2,hbd2,hsub2⟩:=hy.elem hi
    rw [dc_at l_law0_SameInts_0.eq_1]
    have hw:=wrap_succ hi hl
    simp only [↓E1,E2,zA,zB,zC,zD,zE,zF,zG,zH,zI,zJ,zK,zL,zM,zN,reduceIte,zO,zP,h0,h1,hc,hi,hB,hmk,hbd,hsub,hB2,hmk2,hbd2,hsub2,hw]
    exact hY rfl _ _ _ (Gr.refl hf) ⟨hf,hx',hy',by simp [updN,updE,h0],by simp [updN,updE,h1]⟩ (by simp [updN,updE])
  · rintro e mu n K ⟨hf,hx,hy,h0,h1⟩ hc hY
    rw [dc_at l_law0_SameInts_0.eq_1]
    have hlt : (l.length < l.length) = False:=by simp
    simp only [↓E1,E2,zA,zB,zC,zD,zE,zF,zG,zH,zI,zJ,zK,zL,zM,zN,reduceIte,zO,zP,h0,h1,hc,hlt,xl,xs]
    exact hY _ _ _ (Gr.refl hf) ⟨hf,hx,hy,by simp [updN,updE,h0],by simp [updN,updE,h1]⟩
  · simp [updN,updE,envI]
  · simp [updN,updE,envI]
  · simp [updN,updE]
  · intro ha e' mu' n' g hI
    simp only [↓E1,E2,zA,zB,zC,zD,zE,zF,zG,zH,zI,zJ,zK,zL,zM,zN,reduceIte,zO,zP]
    exact h _ _ g
  · rintro ⟨j,j1,j2,j3⟩
    cases j3
theorem law0_KeptInts (id : Nat) (y : SV) (l : List Int) (hl : l.length ≤ 4611686018427387000) : BoolC P n_law0_KeptInts [.one (.osl id 0 l.length (l.length + 2) 1),.one y] (λM=>LentI M id l ∧ IntsR M y l) true:=boolC H.mx H.law0_KeptInts 0 λfz mu n k hfr g0 hx h=>by
  obtain ⟨hx,hy⟩:=hx
  obtain ⟨yl,ys,yk,ym⟩:=hy.len
  have hs:=hx.sl
  rw [i_law0_KeptInts,dc_at b_law0_KeptInts.eq_1]
  have hw : IntKind.i64.wrap ((l.length : Int) + 2) = ((l.length + 2 : Nat) : Int):=by
    rw [wrap64 (by omega) (by omega)]; omega
  have hw1 : IntKind.i64.wrap ((l.length : Int) + 1) = ((l.length + 1 : Nat) : Int):=by
    rw [wrap64 (by omega) (by omega)]; omega
  simp only [↓E1,E2,zA,zB,zC,zD,zE,zF,zG,zH,zI,zJ,zK,zL,zM,zN,reduceIte,zO,zP,Option.map, *]
  rw [sliceOf_hi (Nat.le_refl _)]
  simp only [↓E1,E2,zA,zB,zC,zD,zE,zF,zG,zH,zI,zJ,zK,zL,zM,zN,reduceIte,zO,zP, *]
  refine (law0_SameInts H _ y l (by omega)).c1 hfr ⟨hs,hy⟩ ?_
  rintro v mu2 n2 g rfl
  have hB : with' mu2 fz id = some (l.map I ++ [I (-7777),I (-8888)]):=g.old hfr hx
  have hm:=mkd_I l
  have d1 : List.take 1 (List.drop (l.length * 1) (l.map I ++ [I (-7777),I (-8888)])) = [I (-7777)]:=by
    rw [List.drop_left' (by simp)]; rfl
  have d2 : List.take 1 (List.drop ((l.length + 1) * 1) (l.map I ++ [I (-7777),I (-8888)])) = [I (-8888)]:=by
    rw [show l.map I ++ [I (-7777),I (-8888)] = (l.map I ++ [I (-7777)]) ++ [I (-8888)] by simp,List.drop_left' (by simp)]; rfl
  have l1 : (l.map I ++ [I (-7777),I (-8888)]).length = l.length + 2:=by simp
  have n1 : l.length < l.length + 2:=by omega
  have n2 : l.length + 1 < l.length + 2:=by omega
  have n3 : l.length * 1 + 1 ≤ l.length + 2:=by omega
  have n4 : (l.length + 1) * 1 + 1 ≤ l.length + 2:=by omega
  simp only [↓E1,E2,zA,zB,zC,zD,zE,zF,zG,zH,zI,zJ,zK,zL,zM,zN,reduceIte,zO,zP, *]
  exact ⟨by omega,by omega,trivial⟩
end Go.Proofs.Ytnnjlnkoomeadaa.Pv
namespace Go.Proofs.Ytnnjlnkoomeadaa.Pv
open Go.Ev Go.Ev.Rp
set_option maxRecDepth 100000
set_option maxHeartbeats 4000000
set_option linter.unusedSimpArgs false
set_option linter.unusedVariables false
set_option linter.unusedSectionVars false
def mkP : Pt:=⟨⟨0,0,by decide⟩,77777,0⟩
theorem mkd_P : ∀ (l : List Pt),mkd ((l ++ [mkP,mkP]).map ptC).flatten = false
  | []=>rfl
  | a :: l=>rfl
theorem pts_flen (l : List Pt) : (l.map ptC).flatten.length = l.length * 3:=by
  induction l with
  | nil=>rfl
  | cons h t ih=>simp [ih,ptC]; omega
theorem eq_pt (p : Pt) : eqCells [2,0,0] (ptC p) (ptC p) = some true:=by
  simp [eqCells,eqCell,ptC,Tx.sv,I,IntKind.eqb,eqI_eq,strEq]
theorem eq_mk : eqCells [2,0,0] [SV.str 0 0,I 77777,I 0] [SV.str 0 0,SV.int IntKind.i64 77777,SV.int IntKind.i64 0] = some true:=eq_pt mkP
def LentP (M : Fz) (id : Nat) (l : List Pt) : Prop:=M id = some ((l ++ [mkP,mkP]).map ptC).flatten
theorem LentP.sl {M : Fz} {id : Nat} {l : List Pt} (h : LentP M id l) : PtsR M (.osl id 0 l.length (l.length + 2) 3) l:=by
  refine .inr ⟨id,0,l.length + 2,_,by simp,by simp,h,mkd_P l,?_,?_,pt_ok⟩
  · rw [pts_flen]; simp; omega
  · rw [List.map_append,List.flatten_append,List.drop_zero,List.take_left' (by rw [pts_flen]; simp)]
variable {P : Program} (H : Fs P)
include H
theorem law0_CopyPoints (x : SV) (l : List Pt) (hl : l.length ≤ 4398046511104) : Ctr P n_law0_CopyPoints [.one x] (λM=>PtsR M x l) (λn _ M v=>∃ x',v = .one x' ∧ PtsX (From n M) x' l):=Ctr.of H.mx H.law0_CopyPoints (λ_=>0) λfz mu n k hfr s1 hk=>by
  obtain ⟨xl,xs,xk,xm⟩:=s1.len
  rw [i_law0_CopyPoints,dc_at b_law0_CopyPoints.eq_1]
  simp only [↓E1,E2,zA,zB,zC,zD,zE,zF,zG,zH,zI,zJ,zK,zL,zM,zN,reduceIte,zO,zP, *]
  obtain ⟨h1,h2⟩:=onSrc_Sl (Sl.mono s1 (sub1 hfr (c:=[])))
  rw [h1]; clear h1
  refine ⟨h2,app_empty hfr (fits_le (by simp; omega) (by decide) (by decide)) pt_ok (λx' mu' n' g hx=>?_)⟩
  simp only [↓E1,E2,zA,zB,zC,zD,zE,zF,zG,zH,zI,zJ,zK,zL,zM,zN,reduceIte,zO,zP]
  exact hk _ _ _ g ⟨x',rfl,hx⟩
theorem law0_LendPoints (x : SV) (l : List Pt) (hl : l.length ≤ 4398046511102) : Ctr P n_law0_LendPoints [.one x] (λM=>PtsR M x l) (λn _ M v=>∃ id,v = .one (.osl id 0 l.length (l.length + 2) 3) ∧ n ≤ id ∧ LentP M id l):=Ctr.of H.mx H.law0_LendPoints (λ_=>0) λfz mu n k hfr s1 hk=>by
  obtain ⟨xl,xs,xk,xm⟩:=s1.len
  rw [i_law0_LendPoints,dc_at b_law0_LendPoints.eq_1]
  simp only [↓E1,E2,zA,zB,zC,zD,zE,zF,zG,zH,zI,zJ,zK,zL,zM,zN,reduceIte,zO,zP, *]
  refine (law0_CopyPoints H x l (by omega)).c1 hfr s1 ?_
  rintro v mu' n' g ⟨x',rfl,hx⟩
  simp only [↓E1,E2,zA,zB,zC,zD,zE,zF,zG,zH,zI,zJ,zK,zL,zM,zN,reduceIte,zO,zP, *]
  have hle:=g.le
  have g2:=g.cons hle ([mkP,mkP].map ptC).flatten
  refine app_more (fs:=[mkP,mkP].map ptC) hfr g2 (hx.mono ?_) (fits_le (by simp; omega) (by decide) (by decide)) (by simp) pt_ok (λmu3 g3 hn=>?_)
  · intro id B h
    obtain ⟨h5,h6⟩:=From.el h
    exact From.at h5 (by rw [with_c,if_neg (by have:=g.free.lt h6; omega)]; exact h6)
  · simp only [↓E1,E2,zA,zB,zC,zD,zE,zF,zG,zH,zI,zJ,zK,zL,zM,zN,reduceIte,zO,zP,Option.map, *]
    rw [sliceOf_hi (by simp)]
    simp only [↓E1,E2,zA,zB,zC,zD,zE,zF,zG,zH,zI,zJ,zK,zL,zM,zN,reduceIte,zO,zP, *]
    refine hk _ _ _ g3 ⟨n' + 1,by simp,by omega,?_⟩
    show _ = _
    rw [look_with hn,List.map_append]
theorem law0_SamePoints (x y : SV) (l : List Pt) (hl : l.length ≤ 4611686018427387904) : BoolC P n_law0_SamePoints [.one x,.one y] (λM=>PtsR M x l ∧ PtsR M y l) true:=boolC H.mx H.law0_SamePoints (l.length + 1) λfz mu n k hfr g0 hx h=>by
  obtain ⟨hx,hy⟩:=hx
  obtain ⟨xl,xs,xk,xm⟩:=hx.len
  obtain ⟨yl,ys,yk,ym⟩:=hy.len
  rw [i_law0_SamePoints,dc_at b_law0_SamePoints.eq_1]
  simp only [↓E1,E2,zA,zB,zC,zD,zE,zF,zG,zH,zI,zJ,zK,zL,zM,zN,reduceIte,zO,zP,xl,xs,yl,ys]
  refine scan (x:=0) (L:=l.length) (q:=0) (r:=5) (p:=λi=>true) (λe mu n=>Free fz mu n ∧ PtsR (with' mu fz) x l ∧ PtsR (with' mu fz) y l ∧ e 0 0 = .one x ∧ e 0 1 = .one y) (λe=>True) (λ_ _ _ h=>h.1) ?_ ?_ l.length 0 (l.length + 1) _ mu n _ _ (by omega) (by omega) (by omega) ⟨hfr,hx,hy,?_,?_⟩ ?_ ?_ ?_
  · rintro i e mu n K hi ⟨hf,hx,hy,h0,h1⟩ hc hY hn
    have hx':=hx
    have hy':=hy
    obtain ⟨id,off,cap,B,rfl,hB,hmk,hbd,hsub⟩:=hx.elem hi
    obtain ⟨id2,off2,cap2,B2,rfl,hB2,hmk2,hbd2,hsub2⟩:=hy.elem hi
    rw [dc_at l_law0_SamePoints_0.eq_1]
    have hw:=wrap_succ hi hl
    simp only [↓E1,E2,zA,zB,zC,zD,zE,zF,zG,zH,zI,zJ,zK,zL,zM,zN,reduceIte,zO,zP,h0,h1,hc,hi,hB,hmk,hbd,hsub,hB2,hmk2,hbd2,hsub2,hw,eq_pt]
    exact hY rfl _ _ _ (Gr.refl hf) ⟨hf,hx',hy',by simp [updN,updE,h0],by simp [updN,updE,h1]⟩ (by simp [updN,updE])
  · rintro e mu n K ⟨hf,hx,hy,h0,h1⟩ hc hY
    rw [dc_at l_law0_SamePoints_0.eq_1]
    have hlt : (l.length < l.length) = False:=by simp
    simp only [↓E1,E2,zA,zB,zC,zD,zE,zF,zG,zH,zI,zJ,zK,zL,zM,zN,reduceIte,zO,zP,h0,h1,hc,hlt,xl,xs]
    exact hY _ _ _ (Gr.refl hf) ⟨hf,hx,hy,by simp [updN,updE,h0],by simp [updN,updE,h1]⟩
  · simp [updN,updE,envI]
  · simp [updN,updE,envI]
  · simp [updN,updE]
  · intro ha e' mu' n' g hI
    simp only [↓E1,E2,zA,zB,zC,zD,zE,zF,zG,zH,zI,zJ,zK,zL,zM,zN,reduceIte,zO,zP]
    exact h _ _ g
  · rintro ⟨j,j1,j2,j3⟩
    cases j3
theorem law0_KeptPoints (id : Nat) (y : SV) (l : List Pt) (hl : l.length ≤ 4611686018427387000) : BoolC P n_law0_KeptPoints [.one (.osl id 0 l.length (l.length + 2) 3),.one y] (λM=>LentP M id l ∧ PtsR M y l) true:=boolC H.mx H.law0_KeptPoints 0 λfz mu n k hfr g0 hx h=>by
  obtain ⟨hx,hy⟩:=hx
  obtain ⟨yl,ys,yk,ym⟩:=hy.len
  have hs:=hx.sl
  rw [i_law0_KeptPoints,dc_at b_law0_KeptPoints.eq_1]
  have hw : IntKind.i64.wrap ((l.length : Int) + 2) = ((l.length + 2 : Nat) : Int):=by
    rw [wrap64 (by omega) (by omega)]; omega
  have hw1 : IntKind.i64.wrap ((l.length : Int) + 1) = ((l.length + 1 : Nat) : Int):=by
    rw [wrap64 (by omega) (by omega)]; omega
  simp only [↓E1,E2,zA,zB,zC,zD,zE,zF,zG,zH,zI,zJ,zK,zL,zM,zN,reduceIte,zO,zP,Option.map, *]
  rw [sliceOf_hi (Nat.le_refl _)]
  simp only [↓E1,E2,zA,zB,zC,zD,zE,zF,zG,zH,zI,zJ,zK,zL,zM,zN,reduceIte,zO,zP, *]
  refine (law0_SamePoints H _ y l (by omega)).c1 hfr ⟨hs,hy⟩ ?_
  rintro v mu2 n2 g rfl
  have hB : with' mu2 fz id = some ((l ++ [mkP,mkP]).map ptC).flatten:=g.old hfr hx
  have hm:=mkd_P l
  have l1 : ((l ++ [mkP,mkP]).map ptC).flatten.length = (l.length + 2) * 3:=by rw [pts_flen]; simp
  have d1 : List.take 3 (List.drop (l.length * 3) ((l ++ [mkP,mkP]).map ptC).flatten) = [.str 0 0,I 77777,I 0]:=by
    rw [List.map_append,List.flatten_append,List.drop_left' (pts_flen l)]; rfl
  have d2 : List.take 3 (List.drop ((l.length + 1) * 3) ((l ++ [mkP,mkP]).map ptC).flatten) = [.str 0 0,I 77777,I 0]:=by
    rw [show l ++ [mkP,mkP] = (l ++ [mkP]) ++ [mkP] by simp,List.map_append,List.flatten_append,List.drop_left' (by rw [pts_flen]; simp)]; rfl
  have n1 : l.length < l.length + 2:=by omega
  have n2 : l.length + 1 < l.length + 2:=by omega
  have n3 : l.length * 3 + 3 ≤ (l.length + 2) * 3:=by omega
  have n4 : (l.length + 1) * 3 + 3 ≤ (l.length + 2) * 3:=by omega
  have hq:=eq_mk
  simp only [↓E1,E2,zA,zB,zC,zD,zE,zF,zG,zH,zI,zJ,zK,zL,zM,zN,reduceIte,zO,zP, *]
  done
end Go.Proofs.Ytnnjlnkoomeadaa.Pv
namespace Go.Proofs.Ytnnjlnkoomeadaa.Pv
open Go.Ev Go.Ev.Rp
set_option maxRecDepth 100000
set_option maxHeartbeats 4000000
set_option linter.unusedSimpArgs false
set_option linter.unusedVariables false
set_option linter.unusedSectionVars false
def EntL (M : Fz) (c : List SV) : Option Ent → Prop
  | some e=>∃ id,c = entC e (.osl id 0 e.batch.length (e.batch.length + 2) 3) ∧ LentP M id e.batch
  | none=>c = [I 77777,I 0,I 0,I 0,.nsl]
theorem EntL.mono {M M' : Fz} {c : List SV} {e : Option Ent} (hs : Sub M M') (h : EntL M c e) : EntL M' c e:=by
  cases e with
  | none=>exact h
  | some e=>obtain ⟨id,h1,h2⟩:=h; exact ⟨id,h1,hs _ _ h2⟩
def LentE (lo : Nat) (M : Fz) (id : Nat) (l : List Ent) : Prop:=Grow lo M 5 EntL (.osl id 0 (l.length + 1) (l.length + 1) 5) (l.map some ++ [none])
variable {P : Program} (H : Fs P)
include H
theorem law0_LendEntries (x : SV) (l : List Ent) (hL : l.length ≤ 2513169434910) (hb : ∀ e ∈ l,e.batch.length ≤ 4398046511102) : Ctr P n_law0_LendEntries [.one x] (λM=>EntsR M x l) (λn _ M v=>∃ id,v = .one (.osl id 0 l.length (l.length + 1) 5) ∧ LentE n M id l):=Ctr.of H.mx H.law0_LendEntries (λ_=>l.length + 1) λfz mu n k hfr s1 hk=>by
  obtain ⟨xl,xs,xk,xm⟩:=s1.len
  have hw1 : IntKind.i64.wrap ((l.length : Int) + 1) = ((l.length + 1 : Nat) : Int):=by
    rw [wrap64 (by omega) (by omega)]; omega
  have hf : fits (l.length + 1) 56 = true:=fits_le (by omega) (by decide) (by decide)
  rw [i_law0_LendEntries,dc_at b_law0_LendEntries.eq_1]
  simp only [↓E1,E2,zA,zB,zC,zD,zE,zF,zG,zH,zI,zJ,zK,zL,zM,zN,reduceIte,zO,zP, *]
  refine loopI (x:=0) (L:=l.length) (p:=λ_=>true) (λi e mu' n'=>∃ xe,Gr n fz mu mu' n n' ∧ Grow n (with' mu' fz) 5 EntL xe ((l.take i).map some) ∧ e 0 3 = .one xe ∧ e 0 0 = .one x ∧ e 0 4 = .one (.int .i64 i)) (λ_ _ _=>False) ?_ ?_ _ _ _ _ _ (by omega) ?_ ?_ ?_
  · rintro i e mu1 n1 K hi ⟨xe,g1,G,h3,h0,h4⟩ hy hn
    have hw:=wrap_succ hi (by omega)
    obtain ⟨id,off,cap,B,b,rfl,hB,hmk,hbd,hsub,s2⟩:=(EntsR.mono (λ_ _ hh=>g1.old hfr hh) s1).elem hi
    obtain ⟨yl,ys,yk,ym⟩:=s2.len
    obtain ⟨-,-,zk,zm⟩:=G.len
    have hno : ∀ c,with' ((n1,c) :: mu1) fz id = some B:=λc=>by rw [with_c,if_neg (by have:=g1.free.lt hB; omega)]; exact hB
    unfold entC at hsub
    rw [dc_at l_law0_LendEntries_0.eq_1]
    simp only [↓E1,E2,zA,zB,zC,zD,zE,zF,zG,zH,zI,zJ,zK,zL,zM,zN,reduceIte,zO,zP, *]
    have gA : Gr n1 fz mu1 ((n1,[I l[i].view,I l[i].client,I l[i].session,I l[i].number,b]) :: mu1) n1 (n1 + 1):=(Gr.refl g1.free).cons (Nat.le_refl _) _
    refine (law0_LendPoints H b l[i].batch (hb _ (List.getElem_mem hi))).c1 gA.free (s2.mono (λ_ _ hh=>gA.old g1.free hh)) ?_
    rintro v mu2 n2 g2 ⟨idp,rfl,hidp,hlp⟩
    have b5 : Ev.look mu2 n1 = some [I l[i].view,I l[i].client,I l[i].session,I l[i].number,b]:=(g2.own n1 (by omega)).trans own_at
    have b6:=look_with (fz:=fz) b5
    have hle:=g2.le
    have b7 : ∀ c,with' (putS mu2 n1 c) fz n1 = some c:=λc=>by rw [with_putS b5,if_pos rfl]
    simp only [↓E1,E2,zA,zB,zC,zD,zE,zF,zG,zH,zI,zJ,zK,zL,zM,zN,reduceIte,zO,zP, *]
    have hli : (l.take i).length = i:=by rw [List.length_take]; omega
    have gC:=((gA.trans (g2.weaken (by omega))).put (id:=n1) (Nat.le_refl _) b5 (c:=[I l[i].view,I l[i].client,I l[i].session,I l[i].number,.osl idp 0 l[i].batch.length (l[i].batch.length + 2) 3]))
    have hlt:=g2.free.lt hlp
    refine Grow.more (R:=EntL) EntL.mono (a:=some l[i]) G g1.free g1.le (λj hj=>hfr.fz j hj) (gC.cons (by omega) _) ⟨idp,rfl,From.at (by omega) ?_⟩ ⟨rfl,rfl⟩ (by rw [List.length_map,hli]; exact fits_le (by omega) (by decide) (by decide)) (λmu3 g3 G3=>?_)
    · rw [with_c,if_neg (by omega),with_putS b5,if_neg (by omega)]; exact hlp
    · rw [List.length_map,hli] at G3 ⊢
      simp only [↓E1,E2,zA,zB,zC,zD,zE,zF,zG,zH,zI,zJ,zK,zL,zM,zN,reduceIte,zO,zP, *]
      refine hy rfl _ _ _ ⟨.osl (n2 + 1) 0 (i + 1) (i + 1) 5,g1.trans (g3.weaken (by omega)),?_,by simp [updN,updE],by simp [updN,updE, *],by simp [updN,updE, *]⟩
      rw [List.take_add_one,List.getElem?_eq_getElem hi,List.map_append]
      exact G3
  · rintro e mu1 n1 K ⟨xe,g1,G,h3,h0,h4⟩ hx
    rw [dc_at l_law0_LendEntries_0.eq_1]
    have hlt : (l.length < l.length) = False:=by simp
    simp only [↓E1,E2,zA,zB,zC,zD,zE,zF,zG,zH,zI,zJ,zK,zL,zM,zN,reduceIte,zO,zP, *]
    exact hx _ _ _ ⟨xe,g1,G,by simp [updN,updE,h3],by simp [updN,updE,h0],by simp [updN,updE,h4]⟩
  · refine ⟨.osl n 0 0 0 5,(Gr.refl hfr).cons (Nat.le_refl _) _,⟨[],.inr ⟨n,rfl,From.at (Nat.le_refl _) (by rw [with_c,if_pos rfl]; rfl),rfl,λe he=>by cases he⟩,trivial⟩,by simp [updN,updE],by simp [updN,updE,envI],by simp [updN,updE]⟩
  · rintro - e1 mu1 n1 ⟨xe,g1,G,h3,h0,h4⟩
    rw [List.take_length] at G
    obtain ⟨-,-,zk,zm⟩:=G.len
    simp only [↓E1,E2,zA,zB,zC,zD,zE,zF,zG,zH,zI,zJ,zK,zL,zM,zN,reduceIte,zO,zP, *]
    refine Grow.more (R:=EntL) EntL.mono (a:=none) G g1.free g1.le (λj hj=>hfr.fz j hj) ((Gr.refl g1.free).cons (Nat.le_refl _) _) rfl ⟨rfl,rfl⟩ (by rw [List.length_map]; exact hf) (λmu3 g3 G3=>?_)
    simp only [↓E1,E2,zA,zB,zC,zD,zE,zF,zG,zH,zI,zJ,zK,zL,zM,zN,reduceIte,zO,zP,Option.map,List.length_map, *]
    rw [sliceOf_hi (by omega)]
    simp only [↓E1,E2,zA,zB,zC,zD,zE,zF,zG,zH,zI,zJ,zK,zL,zM,zN,reduceIte,zO,zP, *]
    refine hk _ _ _ (g1.trans (g3.weaken (by omega))) ⟨n1 + 1,rfl,?_⟩
    rw [List.length_map] at G3
    exact G3
  · rintro ⟨_,_,_,h⟩; cases h
theorem law0_LendLog (l : Lg) (x : SV) (hL : l.ents.length ≤ 2513169434910) (hb : ∀ e ∈ l.ents,e.batch.length ≤ 4398046511102) : Ctr P n_law0_LendLog [.ag (lgC l x)] (λM=>EntsR M x l.ents) (λn _ M v=>∃ id,v = .ag (lgC l (.osl id 0 l.ents.length (l.ents.length + 1) 5)) ∧ LentE n M id l.ents):=Ctr.of H.mx H.law0_LendLog (λ_=>0) λfz mu n k hfr s1 hk=>by
  obtain ⟨xl,xs,xk,xm⟩:=s1.len
  rw [i_law0_LendLog,dc_at b_law0_LendLog.eq_1]
  unfold lgC
  have gA : Gr n fz mu ((n + 1,[I 0,.str 0 0,.nsl]) :: (n,[I l.base,l.snap.sv,x]) :: mu) n (n + 1 + 1):=((Gr.refl hfr).cons (Nat.le_refl _) _).cons (by omega) _
  simp only [↓E1,E2,zA,zB,zC,zD,zE,zF,zG,zH,zI,zJ,zK,zL,zM,zN,reduceIte,zO,zP, *]
  refine (law0_LendEntries H x l.ents hL hb).c1 gA.free (EntsR.mono (λ_ _ hh=>gA.old hfr hh) s1) ?_
  rintro v mu2 n2 g2 ⟨id,rfl,hid⟩
  have b5 : Ev.look mu2 n = some [I l.base,l.snap.sv,x]:=(g2.own n (by omega)).trans (by simp [look_c])
  have b8 : Ev.look mu2 (n + 1) = some [I 0,.str 0 0,.nsl]:=(g2.own (n + 1) (by omega)).trans (by simp [look_c])
  have b7 : ∀ c,with' (putS mu2 n c) fz n = some c:=λc=>by rw [with_putS b5,if_pos rfl]
  have b9 : ∀ c,Ev.look (putS mu2 n c) (n + 1) = some [I 0,.str 0 0,.nsl]:=λc=>by rw [look_putS,if_neg (by omega)]; exact b8
  have b10 : ∀ c,with' (putS mu2 n c) fz (n + 1) = some [I 0,.str 0 0,.nsl]:=λc=>look_with (b9 c)
  have b11 : ∀ c d,with' (putS (putS mu2 n c) (n + 1) d) fz (n + 1) = some d:=λc d=>by rw [with_putS (b9 c),if_pos rfl]
  simp only [↓E1,E2,zA,zB,zC,zD,zE,zF,zG,zH,zI,zJ,zK,zL,zM,zN,reduceIte,zO,zP, *]
  have h1:=Grow.mono (R:=EntL) EntL.mono hid (From.put (d':=[I l.base,l.snap.sv,.osl id 0 l.ents.length (l.ents.length + 1) 5]) (by omega) b5)
  have h2:=Grow.mono (R:=EntL) EntL.mono h1 (From.put (d':=[I l.base,l.snap.sv,.osl id 0 l.ents.length (l.ents.length + 1) 5]) (by omega) (b9 _))
  exact hk _ _ _ (((gA.trans (g2.weaken (by omega))).put (Nat.le_refl _) b5).put (by omega) (b9 _)) ⟨id,rfl,Grow.weaken (R:=EntL) EntL.mono (by omega) h2⟩
end Go.Proofs.Ytnnjlnkoomeadaa.Pv
namespace Go.Proofs.Ytnnjlnkoomeadaa.Pv
open Go.Ev Go.Ev.Rp
set_option maxRecDepth 100000
set_option maxHeartbeats 4000000
set_option linter.unusedSimpArgs false
set_option linter.unusedVariables false
set_option linter.unusedSectionVars false
theorem Gr.two {fz : Fz} {mu mu' : St} {n n' lo : Nat} (h : Gr lo fz mu mu' n n') (hl : lo ≤ n') (a b : List SV) : Gr lo fz mu ((n',a) :: (n' + 1,b) :: mu') n (n' + 1 + 1) :=
  ((h.cons hl a).cons (Nat.le_succ_of_le hl) b).congr λid=>by
    simp only [look_cons]
    by_cases e : n' = id
    · subst e; simp
    · simp [e]
theorem LentE.raw {lo : Nat} {M : Fz} {id : Nat} {l : List Ent} (h : LentE lo M id l) {i : Nat} (hi : i < l.length + 1) : ∃ B c,M id = some B ∧ mkd B = false ∧ i * 5 + 5 ≤ B.length ∧ (B.drop (i * 5)).take 5 = c ∧ EntL M c ((l.map some ++ [none])[i]'(by simpa using hi)):=by
  obtain ⟨cs,h1,h2⟩:=h
  have hl : cs.length = (l.map some ++ [none]).length:=h2.length
  have hl' : cs.length = l.length + 1:=by simpa using hl
  obtain ⟨id',off,cap,B,g1,g2,g3,g4,g5⟩:=h1.to.elem (i:=i) (by omega)
  injection g1 with a b c d e
  subst a b
  have h3:=h2.at (i:=i) (by omega) (by simpa using hi)
  exact ⟨B,_,From.sub _ _ g2,g3,by omega,by rw [Nat.zero_add] at g5; exact g5,h3.mono (Ex.sub.trans From.sub)⟩
theorem LentE.elem {lo : Nat} {M : Fz} {id : Nat} {l : List Ent} (h : LentE lo M id l) {i : Nat} (hi : i < l.length) : ∃ B idp,M id = some B ∧ mkd B = false ∧ i * 5 + 5 ≤ B.length ∧ (B.drop (i * 5)).take 5 = entC l[i] (.osl idp 0 l[i].batch.length (l[i].batch.length + 2) 3) ∧ LentP M idp l[i].batch:=by
  obtain ⟨B,c,g1,g2,g3,g4,g5⟩:=h.raw (i:=i) (by omega)
  have e : ((l.map some ++ [none])[i]'(by simp; omega)) = some l[i]:=by
    rw [List.getElem_append_left (by simpa using hi),List.getElem_map]
  rw [e] at g5
  obtain ⟨idp,h1,h2⟩:=g5
  exact ⟨B,idp,g1,g2,g3,g4.trans h1,h2⟩
theorem LentE.last {lo : Nat} {M : Fz} {id : Nat} {l : List Ent} (h : LentE lo M id l) : ∃ B,M id = some B ∧ mkd B = false ∧ l.length * 5 + 5 ≤ B.length ∧ (B.drop (l.length * 5)).take 5 = [I 77777,I 0,I 0,I 0,.nsl]:=by
  obtain ⟨B,c,g1,g2,g3,g4,g5⟩:=h.raw (i:=l.length) (by omega)
  have e : ((l.map some ++ [none])[l.length]'(by simp)) = none:=by
    rw [List.getElem_append_right (by simp)]; simp
  rw [e] at g5
  exact ⟨B,g1,g2,g3,g4.trans g5⟩
variable {P : Program} (H : Fs P)
include H
theorem law0_KeptEntries (id lo : Nat) (y : SV) (l : List Ent) (hl : l.length ≤ 4611686018427387000) (hb : ∀ e ∈ l,e.batch.length ≤ 4611686018427387000) : BoolC P n_law0_KeptEntries [.one (.osl id 0 l.length (l.length + 1) 5),.one y] (λM=>LentE lo M id l ∧ EntsR M y l) true:=boolC H.mx H.law0_KeptEntries (l.length + 1) λfz mu n k hfr g0 hx h=>by
  obtain ⟨hx,hy⟩:=hx
  obtain ⟨yl,ys,yk,ym⟩:=hy.len
  obtain ⟨B,hB,hmk,hbd,hsub⟩:=hx.last
  have hw : IntKind.i64.wrap ((l.length : Int) + 1) = ((l.length + 1 : Nat) : Int):=by
    rw [wrap64 (by omega) (by omega)]; omega
  have n1 : l.length < l.length + 1:=by omega
  have hsub1 : List.take 1 (List.drop (l.length * 5) B) = [I 77777]:=by
    have : List.take 1 (List.take 5 (List.drop (l.length * 5) B)) = [I 77777]:=by rw [hsub]; rfl
    rwa [List.take_take] at this
  have hsub2 : List.take 1 (List.drop (l.length * 5 + 0) B) = [I 77777]:=hsub1
  have n2 : l.length * 5 + 1 ≤ B.length:=by omega
  have n3 : l.length * 5 < B.length:=by omega
  rw [i_law0_KeptEntries,dc_at b_law0_KeptEntries.eq_1]
  simp only [↓E1,E2,zA,zB,zC,zD,zE,zF,zG,zH,zI,zJ,zK,zL,zM,zN,reduceIte,zO,zP,Option.map, *]
  rw [sliceOf_hi (Nat.le_refl _)]
  simp only [↓E1,E2,zA,zB,zC,zD,zE,zF,zG,zH,zI,zJ,zK,zL,zM,zN,reduceIte,zO,zP, *]
  refine scan (x:=0) (L:=l.length) (q:=0) (r:=5) (p:=λi=>true) (λe mu n=>Free fz mu n ∧ LentE lo (with' mu fz) id l ∧ EntsR (with' mu fz) y l ∧ e 0 0 = .one (.osl id 0 l.length (l.length + 1) 5) ∧ e 0 1 = .one y) (λe=>True) (λ_ _ _ h=>h.1) ?_ ?_ l.length 0 (l.length + 1) _ mu n _ _ (by omega) (by omega) (by omega) ⟨hfr,hx,hy,?_,?_⟩ ?_ ?_ ?_
  · rintro i e mu n K hi ⟨hf,hx,hy,h0,h1⟩ hc hY hn
    have hx':=hx
    have hy':=hy
    obtain ⟨B2,idp,p1,p2,p3,p4,p5⟩:=hx.elem hi
    obtain ⟨id2,off2,cap2,B3,b,rfl,q1,q2,q3,q4,q5⟩:=hy.elem hi
    unfold entC at p4 q4
    have hw2:=wrap_succ hi (by omega)
    have hi2 : i < l.length + 1:=by omega
    obtain ⟨zl,zs,zk,zm⟩:=q5.len
    rw [dc_at l_law0_KeptEntries_0.eq_1]
    simp only [↓E1,E2,zA,zB,zC,zD,zE,zF,zG,zH,zI,zJ,zK,zL,zM,zN,reduceIte,zO,zP,h0,h1,hc,hi,hi2,p1,p2,p3,p4,q1,q2,q3,q4,hw2,zl,zs,zk,zm,yl,ys]
    have gA : Gr n fz mu ((n,[I l[i].view,I l[i].client,I l[i].session,I l[i].number,.osl idp 0 l[i].batch.length (l[i].batch.length + 2) 3]) :: (n + 1,[I l[i].view,I l[i].client,I l[i].session,I l[i].number,b]) :: mu) n (n + 1 + 1):=Gr.two (Gr.refl hf) (Nat.le_refl _) _ _
    refine (law0_KeptPoints H idp b l[i].batch (hb _ (List.getElem_mem hi))).c1 gA.free ⟨gA.sub hf (Nat.le_refl _) _ _ p5,q5.mono (λ_ _ hh=>gA.old hf hh)⟩ ?_
    rintro v mu2 n2 g2 rfl
    have gB:=gA.trans (g2.weaken (by omega))
    simp only [↓E1,E2,zA,zB,zC,zD,zE,zF,zG,zH,zI,zJ,zK,zL,zM,zN,reduceIte,zO,zP,h0,h1,hc,hi,hi2,hw2,zl,zs,zk,zm,yl,ys]
    refine hY rfl _ _ _ gB ⟨gB.free,?_,?_,by simp [updN,updE, *],by simp [updN,updE, *]⟩ (by simp [updN,updE, *])
    · exact Grow.mono (R:=EntL) EntL.mono hx (From.mono (gB.sub hf (Nat.le_refl _)))
    · exact EntsR.mono (λ_ _ hh=>gB.old hf hh) hy
  · rintro e mu n K ⟨hf,hx,hy,h0,h1⟩ hc hY
    rw [dc_at l_law0_KeptEntries_0.eq_1]
    have hlt : (l.length < l.length) = False:=by simp
    simp only [↓E1,E2,zA,zB,zC,zD,zE,zF,zG,zH,zI,zJ,zK,zL,zM,zN,reduceIte,zO,zP,h0,h1,hc,hlt,yl,ys]
    exact hY _ _ _ (Gr.refl hf) ⟨hf,hx,hy,by simp [updN,updE,h0],by simp [updN,updE,h1]⟩
  · simp [updN,updE,envI]
  · simp [updN,updE,envI]
  · simp [updN,updE]
  · intro ha e' mu' n' g hI
    simp only [↓E1,E2,zA,zB,zC,zD,zE,zF,zG,zH,zI,zJ,zK,zL,zM,zN,reduceIte,zO,zP]
    exact h _ _ g
  · rintro ⟨j,j1,j2,j3⟩
    cases j3
end Go.Proofs.Ytnnjlnkoomeadaa.Pv
namespace Go.Proofs.Ytnnjlnkoomeadaa.Pv
open Go.Ev Go.Ev.Rp
set_option maxRecDepth 100000
set_option maxHeartbeats 4000000
set_option linter.unusedSimpArgs false
set_option linter.unusedVariables false
set_option linter.unusedSectionVars false
structure LndLg (l : Lg) : Prop where
  ents : l.ents.length ≤ 2513169434910
  bat : ∀ e ∈ l.ents,e.batch.length ≤ 4398046511102
structure LndSz (r : Rep) : Prop where
  log : LndLg r.log
  acks : r.acks.length ≤ 17592186044413
  starts : r.starts.length ≤ 17592186044413
  dos : r.dos.length ≤ 1954687338267
  dlog : ∀ d ∈ r.dos,LndLg d.log
theorem LentE.up {lo : Nat} {M M' : Fz} {id : Nat} {l : List Ent} (h : LentE lo M id l) (hs : ∀ j B,lo ≤ j → M j = some B → M' j = some B) : LentE lo M' id l :=
  Grow.mono (R:=EntL) EntL.mono h λj B g=>From.at (From.lt g) (hs j B (From.lt g) (From.sub _ _ g))
theorem LentE.mono {lo : Nat} {M M' : Fz} {id : Nat} {l : List Ent} (hs : Sub M M') (h : LentE lo M id l) : LentE lo M' id l:=h.up λj B _ g=>hs j B g
def DvL (M : Fz) (c : List SV) (d : Dv) : Prop:=∃ id lo,c = dvC d (.osl id 0 d.log.ents.length (d.log.ents.length + 1) 5) ∧ LentE lo M id d.log.ents
theorem DvL.mono {M M' : Fz} {c : List SV} {d : Dv} (hs : Sub M M') (h : DvL M c d) : DvL M' c d:=by
  obtain ⟨id,lo,h1,h2⟩:=h; exact ⟨id,lo,h1,h2.mono hs⟩
structure LentR (M : Fz) (r : Rep) (ide ida ids : Nat) (xd : SV) : Prop where
  ents : ∃ lo,LentE lo M ide r.log.ents
  acks : LentI M ida r.acks
  starts : LentI M ids r.starts
  dos : ∃ lo,Grow lo M 6 DvL xd r.dos
theorem LentR.mono {M M' : Fz} {r : Rep} {ide ida ids : Nat} {xd : SV} (hs : Sub M M') (h : LentR M r ide ida ids xd) : LentR M' r ide ida ids xd:=by
  obtain ⟨⟨lo,h1⟩,h2,h3,lo',h4⟩:=h
  exact ⟨⟨lo,h1.mono hs⟩,hs _ _ h2,hs _ _ h3,lo',Grow.mono (R:=DvL) DvL.mono h4 (From.mono hs)⟩
variable {P : Program} (H : Fs P)
include H
theorem law0_LendReplica (r : Rep) (xe xa xs xd : SV) (hz : LndSz r) : Ctr P n_law0_LendReplica [.ag (repC r xe xa xs xd)] (λM=>RepS M r xe xa xs xd) (λn _ M v=>∃ ide ida ids xd',v = .ag (repC r (.osl ide 0 r.log.ents.length (r.log.ents.length + 1) 5) (.osl ida 0 r.acks.length (r.acks.length + 2) 1) (.osl ids 0 r.starts.length (r.starts.length + 2) 1) xd') ∧ LentR M r ide ida ids xd'):=Ctr.of H.mx H.law0_LendReplica (λ_=>r.dos.length + 1) λfz mu n k hfr s hk=>by
  obtain ⟨s1,s2,s3,s4⟩:=s
  obtain ⟨xel,xes,xek,xem⟩:=s1.len
  obtain ⟨xal,xas,xak,xam⟩:=s2.len
  obtain ⟨xsl,xss,xsk,xsm⟩:=s3.len
  obtain ⟨xdl,xds,xdk,xdm⟩:=s4.len
  have hE:=law0_LendLog H r.log xe hz.log.ents hz.log.bat
  unfold lgC at hE
  rw [i_law0_LendReplica,dc_at b_law0_LendReplica.eq_1]
  unfold repC
  simp only [↓E1,E2,zA,zB,zC,zD,zE,zF,zG,zH,zI,zJ,zK,zL,zM,zN,reduceIte,zO,zP, *]
  refine hE.c1 (gr2 hfr).free (EntsR.mono (sub2 hfr) s1) ?_
  rintro v mu1 n1 g1 ⟨ide,rfl,hG⟩
  have ga:=(gr2 hfr).trans (g1.weaken (by omega))
  have b1:=(g1.own n (by omega)).trans (by rw [look_c,if_neg (by omega),look_c,if_pos rfl])
  have b2:=(g1.own (n + 1) (by omega)).trans (by rw [look_c,if_pos rfl])
  have l1:=g1.le
  obtain ⟨muA,hA⟩ : ∃ m,m = putS mu1 n [I r.me,I r.nodes,I r.view,I r.normal,I r.status,I r.commit,.bool r.sent,I r.log.base,r.log.snap.sv,.osl ide 0 r.log.ents.length (r.log.ents.length + 1) 5,xa,xs,xd]:=⟨_,rfl⟩
  have gb : Gr n fz mu muA n n1:=by rw [hA]; exact ga.put (Nat.le_refl _) b1
  have c1 : Ev.look muA n = some [I r.me,I r.nodes,I r.view,I r.normal,I r.status,I r.commit,.bool r.sent,I r.log.base,r.log.snap.sv,.osl ide 0 r.log.ents.length (r.log.ents.length + 1) 5,xa,xs,xd]:=by rw [hA,look_putS,if_pos rfl,b1]; rfl
  have c2 : Ev.look muA (n + 1) = some [I 0,I 0,I 0,I 0,I 0,I 0,.bool false,I 0,.str 0 0,.nsl,.nsl,.nsl,.nsl]:=by rw [hA,look_putS,if_neg (by omega),b2]
  have hGA : LentE (n + 1 + 1) (with' muA fz) ide r.log.ents:=hG.up λj B hj g=>by rw [hA,with_putS b1,if_neg (by omega)]; exact g
  simp only [↓E1,E2,zA,zB,zC,zD,zE,zF,zG,zH,zI,zJ,zK,zL,zM,zN,reduceIte,zO,zP, *,with_putI,look_putS,Option.isSome_some,Option.map_some,List.append_assoc]
  rw [← hA]
  refine (law0_LendInts H xa r.acks hz.acks).c1 gb.free (IntsR.mono (gb.sub hfr (Nat.le_refl _)) s2) ?_
  rintro v mu2 n2 g2 ⟨ida,rfl,hida,hGa⟩
  have l2:=g2.le
  have b3:=(g2.own n (by omega)).trans c1
  have b4:=(g2.own (n + 1) (by omega)).trans c2
  have gc:=gb.trans (g2.weaken (by omega))
  obtain ⟨muB,hB⟩ : ∃ m,m = putS mu2 n [I r.me,I r.nodes,I r.view,I r.normal,I r.status,I r.commit,.bool r.sent,I r.log.base,r.log.snap.sv,.osl ide 0 r.log.ents.length (r.log.ents.length + 1) 5,.osl ida 0 r.acks.length (r.acks.length + 2) 1,xs,xd]:=⟨_,rfl⟩
  have gd : Gr n fz mu muB n n2:=by rw [hB]; exact gc.put (Nat.le_refl _) b3
  have c3 : Ev.look muB n = some [I r.me,I r.nodes,I r.view,I r.normal,I r.status,I r.commit,.bool r.sent,I r.log.base,r.log.snap.sv,.osl ide 0 r.log.ents.length (r.log.ents.length + 1) 5,.osl ida 0 r.acks.length (r.acks.length + 2) 1,xs,xd]:=by rw [hB,look_putS,if_pos rfl,b3]; rfl
  have c4 : Ev.look muB (n + 1) = some [I 0,I 0,I 0,I 0,I 0,I 0,.bool false,I 0,.str 0 0,.nsl,.nsl,.nsl,.nsl]:=by rw [hB,look_putS,if_neg (by omega),b4]
  have hGB : LentE (n + 1 + 1) (with' muB fz) ide r.log.ents:=hGA.up λj B hj g=>by rw [hB,with_putS b3,if_neg (by omega)]; exact g2.old gb.free g
  have hGa2 : LentI (with' muB fz) ida r.acks:=by unfold LentI; rw [hB,with_putS b3,if_neg (by omega)]; exact hGa
  simp only [↓E1,E2,zA,zB,zC,zD,zE,zF,zG,zH,zI,zJ,zK,zL,zM,zN,reduceIte,zO,zP, *,with_putI,look_putS,Option.isSome_some,Option.map_some,List.append_assoc]
  rw [← hB]
  refine (law0_LendInts H xs r.starts hz.starts).c1 gd.free (IntsR.mono (gd.sub hfr (Nat.le_refl _)) s3) ?_
  rintro v mu3 n3 g3 ⟨ids,rfl,hids,hGs⟩
  have l3:=g3.le
  have b5:=(g3.own n (by omega)).trans c3
  have b6:=(g3.own (n + 1) (by omega)).trans c4
  have ge:=gd.trans (g3.weaken (by omega))
  obtain ⟨muC,hC⟩ : ∃ m,m = putS mu3 n [I r.me,I r.nodes,I r.view,I r.normal,I r.status,I r.commit,.bool r.sent,I r.log.base,r.log.snap.sv,.osl ide 0 r.log.ents.length (r.log.ents.length + 1) 5,.osl ida 0 r.acks.length (r.acks.length + 2) 1,.osl ids 0 r.starts.length (r.starts.length + 2) 1,xd]:=⟨_,rfl⟩
  have gf : Gr n fz mu muC n n3:=by rw [hC]; exact ge.put (Nat.le_refl _) b5
  have c5 : Ev.look muC n = some [I r.me,I r.nodes,I r.view,I r.normal,I r.status,I r.commit,.bool r.sent,I r.log.base,r.log.snap.sv,.osl ide 0 r.log.ents.length (r.log.ents.length + 1) 5,.osl ida 0 r.acks.length (r.acks.length + 2) 1,.osl ids 0 r.starts.length (r.starts.length + 2) 1,xd]:=by rw [hC,look_putS,if_pos rfl,b5]; rfl
  have c6 : Ev.look muC (n + 1) = some [I 0,I 0,I 0,I 0,I 0,I 0,.bool false,I 0,.str 0 0,.nsl,.nsl,.nsl,.nsl]:=by rw [hC,look_putS,if_neg (by omega),b6]
  have hGC : LentE (n + 1 + 1) (with' muC fz) ide r.log.ents:=hGB.up λj B hj g=>by rw [hC,with_putS b5,if_neg (by omega)]; exact g3.old gd.free g
  have hGa3 : LentI (with' muC fz) ida r.acks:=by unfold LentI; rw [hC,with_putS b5,if_neg (by omega)]; exact g3.old gd.free hGa2
  have hGs3 : LentI (with' muC fz) ids r.starts:=by unfold LentI; rw [hC,with_putS b5,if_neg (by omega)]; exact hGs
  simp only [↓E1,E2,zA,zB,zC,zD,zE,zF,zG,zH,zI,zJ,zK,zL,zM,zN,reduceIte,zO,zP, *,with_putI,look_putS,Option.isSome_some,Option.map_some,List.append_assoc]
  rw [← hC]
  obtain ⟨muD,hD⟩ : ∃ m,m = putS muC n [I r.me,I r.nodes,I r.view,I r.normal,I r.status,I r.commit,.bool r.sent,I r.log.base,r.log.snap.sv,.osl ide 0 r.log.ents.length (r.log.ents.length + 1) 5,.osl ida 0 r.acks.length (r.acks.length + 2) 1,.osl ids 0 r.starts.length (r.starts.length + 2) 1,.nsl]:=⟨_,rfl⟩
  have gg : Gr n fz mu muD n n3:=by rw [hD]; exact gf.put (Nat.le_refl _) c5
  have c7 : Ev.look muD n = some [I r.me,I r.nodes,I r.view,I r.normal,I r.status,I r.commit,.bool r.sent,I r.log.base,r.log.snap.sv,.osl ide 0 r.log.ents.length (r.log.ents.length + 1) 5,.osl ida 0 r.acks.length (r.acks.length + 2) 1,.osl ids 0 r.starts.length (r.starts.length + 2) 1,.nsl]:=by rw [hD,look_putS,if_pos rfl,c5]; rfl
  have c8 : Ev.look muD (n + 1) = some [I 0,I 0,I 0,I 0,I 0,I 0,.bool false,I 0,.str 0 0,.nsl,.nsl,.nsl,.nsl]:=by rw [hD,look_putS,if_neg (by omega),c6]
  have hGD : LentE (n + 1 + 1) (with' muD fz) ide r.log.ents:=hGC.up λj B hj g=>by rw [hD,with_putS c5,if_neg (by omega)]; exact g
  have hGa4 : LentI (with' muD fz) ida r.acks:=by unfold LentI; rw [hD,with_putS c5,if_neg (by omega)]; exact hGa3
  have hGs4 : LentI (with' muD fz) ids r.starts:=by unfold LentI; rw [hD,with_putS c5,if_neg (by omega)]; exact hGs3
  rw [← hD]
  clear hGC hGa3 hGs3 hGB hGa2 hGA hGs hGa hG ga gb gc gd ge gf c1 c2 c3 c4 c5 c6 b1 b2 b3 b4 b5 b6 g1 g2 g3 hE hA hB hC hD
  refine loopI (x:=0) (L:=r.dos.length) (p:=λ_=>true) (λi e mu' n'=>∃ xq,Gr n fz mu mu' n n' ∧ n3 ≤ n' ∧ Ev.look mu' n = some [I r.me,I r.nodes,I r.view,I r.normal,I r.status,I r.commit,.bool r.sent,I r.log.base,r.log.snap.sv,.osl ide 0 r.log.ents.length (r.log.ents.length + 1) 5,.osl ida 0 r.acks.length (r.acks.length + 2) 1,.osl ids 0 r.starts.length (r.starts.length + 2) 1,xq] ∧ Ev.look mu' (n + 1) = some [I 0,I 0,I 0,I 0,I 0,I 0,.bool false,I 0,.str 0 0,.nsl,.nsl,.nsl,.nsl] ∧ (∀ j,j < n3 → j ≠ n → with' mu' fz j = with' muD fz j) ∧ Grow n3 (with' mu' fz) 6 DvL xq (r.dos.take i) ∧ e 0 1 = .one (.optr n 0) ∧ e 0 2 = .one (.optr (n + 1) 0) ∧ e 0 3 = .one xd ∧ e 0 4 = .one (.int .i64 i)) (λ_ _ _=>False) ?_ ?_ _ _ _ _ _ (by omega) ?_ ?_ ?_
  · rintro i e mu1 n1 K hi ⟨xq,g1,a0,a1,a2,a3,G,h1,h2,h3,h4⟩ hy hn
    have hw:=wrap_succ hi (by have:=hz.dos; omega)
    obtain ⟨id,off,cap,B,x,rfl,hB,hmk,hbd,hsub,s5⟩:=(DvsR.mono (λ_ _ hh=>g1.old hfr hh) s4).elem hi
    obtain ⟨yl,ys,yk,ym⟩:=s5.len
    obtain ⟨-,-,zk,zm⟩:=G.len
    have hno : ∀ c,with' ((n1,c) :: mu1) fz id = some B:=λc=>by rw [with_c,if_neg (by have:=g1.free.lt hB; omega)]; exact hB
    unfold dvC at hsub
    have hL:=law0_LendLog H r.dos[i].log x (hz.dlog _ (List.getElem_mem hi)).ents (hz.dlog _ (List.getElem_mem hi)).bat
    unfold lgC at hL
    have b1:=look_with (fz:=fz) a1
    have b2:=look_with (fz:=fz) a2
    rw [dc_at l_law0_LendReplica_0.eq_1]
    simp only [↓E1,E2,zA,zB,zC,zD,zE,zF,zG,zH,zI,zJ,zK,zL,zM,zN,reduceIte,zO,zP, *]
    have gA : Gr n1 fz mu1 ((n1,[I r.dos[i].frm,I r.dos[i].normal,I r.dos[i].commit,I r.dos[i].log.base,r.dos[i].log.snap.sv,x]) :: mu1) n1 (n1 + 1):=(Gr.refl g1.free).cons (Nat.le_refl _) _
    refine hL.c1 gA.free (EntsR.mono (λ_ _ hh=>gA.old g1.free hh) s5) ?_
    rintro v mu2 n2 g2 ⟨idl,rfl,hl⟩
    have hle:=g2.le
    have d1 : Ev.look mu2 n1 = some [I r.dos[i].frm,I r.dos[i].normal,I r.dos[i].commit,I r.dos[i].log.base,r.dos[i].log.snap.sv,x]:=(g2.own n1 (by omega)).trans own_at
    have d2 : Ev.look mu2 n = some [I r.me,I r.nodes,I r.view,I r.normal,I r.status,I r.commit,.bool r.sent,I r.log.base,r.log.snap.sv,.osl ide 0 r.log.ents.length (r.log.ents.length + 1) 5,.osl ida 0 r.acks.length (r.acks.length + 2) 1,.osl ids 0 r.starts.length (r.starts.length + 2) 1,xq]:=(g2.own n (by omega)).trans (by rw [look_c,if_neg (by omega)]; exact a1)
    obtain ⟨muE,hE⟩ : ∃ m,putS mu2 n1 [I r.dos[i].frm,I r.dos[i].normal,I r.dos[i].commit,I r.dos[i].log.base,r.dos[i].log.snap.sv,.osl idl 0 r.dos[i].log.ents.length (r.dos[i].log.ents.length + 1) 5] = m:=⟨_,rfl⟩
    have gC : Gr n1 fz mu1 muE n1 n2:=by rw [← hE]; exact (gA.trans (g2.weaken (by omega))).put (Nat.le_refl _) d1
    have e1 : Ev.look muE n1 = some [I r.dos[i].frm,I r.dos[i].normal,I r.dos[i].commit,I r.dos[i].log.base,r.dos[i].log.snap.sv,.osl idl 0 r.dos[i].log.ents.length (r.dos[i].log.ents.length + 1) 5]:=by rw [← hE,look_putS,if_pos rfl,d1]; rfl
    have e2 : Ev.look muE n = some [I r.me,I r.nodes,I r.view,I r.normal,I r.status,I r.commit,.bool r.sent,I r.log.base,r.log.snap.sv,.osl ide 0 r.log.ents.length (r.log.ents.length + 1) 5,.osl ida 0 r.acks.length (r.acks.length + 2) 1,.osl ids 0 r.starts.length (r.starts.length + 2) 1,xq]:=by rw [← hE,look_putS,if_neg (by omega)]; exact d2
    have e3:=look_with (fz:=fz) e1
    have e4:=look_with (fz:=fz) e2
    have hl2 : LentE (n1 + 1) (with' muE fz) idl r.dos[i].log.ents:=hl.up λj B hj g=>by rw [← hE,with_putS d1,if_neg (by omega)]; exact g
    simp only [↓E1,E2,zA,zB,zC,zD,zE,zF,zG,zH,zI,zJ,zK,zL,zM,zN,reduceIte,zO,zP, *,Option.isSome_some,Option.map_some,List.append_assoc]
    have hli : (r.dos.take i).length = i:=by rw [List.length_take]; omega
    refine Grow.more (R:=DvL) DvL.mono (a:=r.dos[i]) G g1.free a0 (λj hj=>hfr.fz j (by omega)) (gC.cons (by omega) _) ⟨idl,n1 + 1,rfl,?_⟩ ⟨rfl,rfl⟩ (by rw [hli]; have h9:=hz.dos; exact fits_le (by omega) (by decide) (by decide)) (λmu3 g3 G3=>?_)
    · exact hl2.up λj B hj g=>From.at (by omega) (by rw [with_c,if_neg (by have:=gC.free.lt g; omega)]; exact g)
    · rw [hli] at G3 ⊢
      have f1:=(g3.own n (by omega)).trans a1
      have f2:=(g3.own (n + 1) (by omega)).trans a2
      have f3:=look_with (fz:=fz) f1
      simp only [↓E1,E2,zA,zB,zC,zD,zE,zF,zG,zH,zI,zJ,zK,zL,zM,zN,reduceIte,zO,zP, *,with_putI,look_putS,Option.isSome_some,Option.map_some,List.append_assoc]
      refine hy rfl _ _ _ ⟨.osl (n2 + 1) 0 (i + 1) (i + 1) 6,(g1.trans (g3.weaken (by omega))).put (Nat.le_refl _) f1,by omega,by rw [look_putS,if_pos rfl,f1]; rfl,by rw [look_putS,if_neg (by omega),f2],λj hj hn=>?_,?_,by simp [updN,updE, *],by simp [updN,updE, *],by simp [updN,updE, *],by simp [updN,updE, *]⟩
      · rw [with_putS f1,if_neg (λh=>hn h.symm),g3.ext j hj]; exact a3 j hj hn
      · rw [List.take_add_one,List.getElem?_eq_getElem hi]
        exact Grow.mono (R:=DvL) DvL.mono G3 (From.put (by omega) f1)
  · rintro e mu1 n1 K ⟨xq,g1,a0,a1,a2,a3,G,h1,h2,h3,h4⟩ hx
    rw [dc_at l_law0_LendReplica_0.eq_1]
    have hlt : (r.dos.length < r.dos.length) = False:=by simp
    simp only [↓E1,E2,zA,zB,zC,zD,zE,zF,zG,zH,zI,zJ,zK,zL,zM,zN,reduceIte,zO,zP, *]
    exact hx _ _ _ ⟨xq,g1,a0,a1,a2,a3,G,by simp [updN,updE,h1],by simp [updN,updE,h2],by simp [updN,updE,h3],by simp [updN,updE,h4]⟩
  · refine ⟨.nsl,gg,Nat.le_refl _,c7,c8,λ_ _ _=>rfl,Grow.nil,by simp [updN,updE],by simp [updN,updE],by simp [updN,updE],by simp [updN,updE]⟩
  · rintro - e1 mu1 n1 ⟨xq,g1,a0,a1,a2,a3,G,h1,h2,h3,h4⟩
    rw [List.take_length] at G
    obtain ⟨-,-,zk,zm⟩:=G.len
    have b1:=look_with (fz:=fz) a1
    have b2:=look_with (fz:=fz) a2
    simp only [↓E1,E2,zA,zB,zC,zD,zE,zF,zG,zH,zI,zJ,zK,zL,zM,zN,reduceIte,zO,zP, *,with_putI,look_putS,Option.isSome_some,Option.map_some,List.append_assoc]
    refine hk _ _ _ (g1.put (id:=n + 1) (by omega) a2) ⟨ide,ida,ids,xq,rfl,⟨⟨n + 1 + 1,hGD.up λj B hj g=>?_⟩,?_,?_,n3,Grow.mono (R:=DvL) DvL.mono G (From.put (by omega) a2)⟩⟩
    · rw [with_putS a2,if_neg (by omega),a3 j (gg.free.lt g) (by omega)]; exact g
    · unfold LentI; rw [with_putS a2,if_neg (by omega),a3 ida (gg.free.lt hGa4) (by omega)]; exact hGa4
    · unfold LentI; rw [with_putS a2,if_neg (by omega),a3 ids (gg.free.lt hGs4) (by omega)]; exact hGs4
  · rintro ⟨_,_,_,h⟩; cases h
end Go.Proofs.Ytnnjlnkoomeadaa.Pv
namespace Go.Proofs.Ytnnjlnkoomeadaa.Pv
open Go.Ev Go.Ev.Rp
set_option maxRecDepth 100000
set_option maxHeartbeats 4000000
set_option linter.unusedSimpArgs false
set_option linter.unusedVariables false
set_option linter.unusedSectionVars false
theorem sub_at {B c : List SV} {a s j m : Nat} (h : (B.drop a).take s = c) (hm : j + m ≤ s) : (B.drop (a + j)).take m = (c.drop j).take m:=by
  subst h
  rw [← List.drop_drop,List.drop_take,List.take_take,Nat.min_eq_left (by omega)]
theorem LentD.elem {lo : Nat} {M : Fz} {x : SV} {l : List Dv} (h : Grow lo M 6 DvL x l) {i : Nat} (hi : i < l.length) : ∃ id off cap B idl lo',x = .osl id off l.length cap 6 ∧ M id = some B ∧ mkd B = false ∧ off + i * 6 + 6 ≤ B.length ∧ (B.drop (off + i * 6)).take 6 = dvC l[i] (.osl idl 0 l[i].log.ents.length (l[i].log.ents.length + 1) 5) ∧ LentE lo' M idl l[i].log.ents:=by
  obtain ⟨cs,h1,h2⟩:=h
  have hl : cs.length = l.length:=h2.length
  obtain ⟨id',off,cap,B,g1,g2,g3,g4,g5⟩:=h1.to.elem (i:=i) (by omega)
  obtain ⟨idl,lo',e1,e2⟩:=h2.at (i:=i) (by omega) hi
  rw [hl] at g1
  exact ⟨id',off,cap,B,idl,lo',g1,From.sub _ _ g2,g3,g4,g5.trans e1,e2.mono (Ex.sub.trans From.sub)⟩
variable {P : Program} (H : Fs P)
include H
theorem law0_KeptLog (l : Lg) (id lo : Nat) (y : SV) (hz : LndLg l) : BoolC P n_law0_KeptLog [.ag (lgC l (.osl id 0 l.ents.length (l.ents.length + 1) 5)),.ag (lgC l y)] (λM=>LentE lo M id l.ents ∧ EntsR M y l.ents) true:=boolC H.mx H.law0_KeptLog 0 λfz mu n k hfr g0 hx h=>by
  obtain ⟨hx,hy⟩:=hx
  obtain ⟨yl,ys,yk,ym⟩:=hy.len
  obtain ⟨s1,s2⟩:=hz
  have hse : strEq l.snap.l l.snap.n l.snap.l l.snap.n = true:=(strEq_iff ..).2 ⟨rfl,rfl⟩
  have gA : Gr n fz mu ((n + 1,lgC l y) :: (n,lgC l (.osl id 0 l.ents.length (l.ents.length + 1) 5)) :: mu) n (n + 1 + 1):=gr2 hfr
  rw [i_law0_KeptLog,dc_at b_law0_KeptLog.eq_1]
  unfold lgC at *
  simp only [↓E1,E2,zA,zB,zC,zD,zE,zF,zG,zH,zI,zJ,zK,zL,zM,zN,reduceIte,zO,zP, *]
  refine (law0_KeptEntries H id lo y l.ents (by omega) (λe he=>by have:=s2 e he; omega)).c1 gA.free ⟨hx.mono (gA.sub hfr (Nat.le_refl _)),EntsR.mono (λ_ _ hh=>gA.old hfr hh) hy⟩ ?_
  rintro v mu2 n2 g2 rfl
  simp only [↓E1,E2,zA,zB,zC,zD,zE,zF,zG,zH,zI,zJ,zK,zL,zM,zN,reduceIte,zO,zP, *]
  exact h _ _ (gA.trans (g2.weaken (by omega)))
theorem law0_KeptReplica (r : Rep) (ide ida ids : Nat) (xd' xe xa xs xd : SV) (hz : LndSz r) : BoolC P n_law0_KeptReplica [.ag (repC r (.osl ide 0 r.log.ents.length (r.log.ents.length + 1) 5) (.osl ida 0 r.acks.length (r.acks.length + 2) 1) (.osl ids 0 r.starts.length (r.starts.length + 2) 1) xd'),.ag (repC r xe xa xs xd)] (λM=>LentR M r ide ida ids xd' ∧ RepS M r xe xa xs xd) true:=boolC H.mx H.law0_KeptReplica (r.dos.length + 1) λfz mu n k hfr g0 hx h=>by
  obtain ⟨⟨⟨lo,t1⟩,t2,t3,lo',t4⟩,s1,s2,s3,s4⟩:=hx
  obtain ⟨xel,xes,xek,xem⟩:=s1.len
  obtain ⟨xal,xas,xak,xam⟩:=s2.len
  obtain ⟨xsl,xss,xsk,xsm⟩:=s3.len
  obtain ⟨xdl,xds,xdk,xdm⟩:=s4.len
  obtain ⟨zdl,zds,zdk,zdm⟩:=t4.len
  obtain ⟨z1,z2,z3,z4,z5⟩:=hz
  have hE:=law0_KeptLog H r.log ide lo xe z1
  unfold lgC at hE
  rw [i_law0_KeptReplica,dc_at b_law0_KeptReplica.eq_1]
  have gA : Gr n fz mu ((n + 1,repC r xe xa xs xd) :: (n,repC r (.osl ide 0 r.log.ents.length (r.log.ents.length + 1) 5) (.osl ida 0 r.acks.length (r.acks.length + 2) 1) (.osl ids 0 r.starts.length (r.starts.length + 2) 1) xd') :: mu) n (n + 1 + 1):=gr2 hfr
  have u:=gA.sub hfr (Nat.le_refl _)
  unfold repC at *
  simp only [↓E1,E2,zA,zB,zC,zD,zE,zF,zG,zH,zI,zJ,zK,zL,zM,zN,reduceIte,zO,zP, *]
  refine hE.c1 gA.free ⟨t1.mono u,EntsR.mono u s1⟩ ?_
  rintro v mu1 n1 g1 rfl
  have b1:=(g1.own n (by omega)).trans (by rw [look_c,if_neg (by omega),look_c,if_pos rfl])
  have b2:=(g1.own (n + 1) (by omega)).trans (by rw [look_c,if_pos rfl])
  have w1:=look_with (fz:=fz) b1
  have w2:=look_with (fz:=fz) b2
  have gB:=gA.trans (g1.weaken (by omega))
  have u:=gB.sub hfr (Nat.le_refl _)
  simp only [↓E1,E2,zA,zB,zC,zD,zE,zF,zG,zH,zI,zJ,zK,zL,zM,zN,reduceIte,zO,zP, *]
  refine (law0_KeptInts H ida xa r.acks (by omega)).c1 gB.free ⟨u _ _ t2,IntsR.mono u s2⟩ ?_
  rintro v mu2 n2 g2 rfl
  have l1:=g1.le
  replace b1:=(g2.own n (by omega)).trans b1
  replace b2:=(g2.own (n + 1) (by omega)).trans b2
  replace w1:=look_with (fz:=fz) b1
  replace w2:=look_with (fz:=fz) b2
  replace gB:=gB.trans (g2.weaken (by omega))
  replace u:=gB.sub hfr (Nat.le_refl _)
  simp only [↓E1,E2,zA,zB,zC,zD,zE,zF,zG,zH,zI,zJ,zK,zL,zM,zN,reduceIte,zO,zP, *]
  refine (law0_KeptInts H ids xs r.starts (by omega)).c1 gB.free ⟨u _ _ t3,IntsR.mono u s3⟩ ?_
  rintro v mu3 n3 g3 rfl
  have l2:=g2.le
  replace b1:=(g3.own n (by omega)).trans b1
  replace b2:=(g3.own (n + 1) (by omega)).trans b2
  replace w1:=look_with (fz:=fz) b1
  replace w2:=look_with (fz:=fz) b2
  replace gB:=gB.trans (g3.weaken (by omega))
  have l3:=g3.le
  simp only [↓E1,E2,zA,zB,zC,zD,zE,zF,zG,zH,zI,zJ,zK,zL,zM,zN,reduceIte,zO,zP, *]
  refine scan (x:=0) (L:=r.dos.length) (q:=0) (r:=5) (p:=λ_=>true) (λe mu' n'=>Gr n fz mu mu' n n' ∧ n + 1 + 1 ≤ n' ∧ Ev.look mu' n = some [I r.me,I r.nodes,I r.view,I r.normal,I r.status,I r.commit,.bool r.sent,I r.log.base,r.log.snap.sv,.osl ide 0 r.log.ents.length (r.log.ents.length + 1) 5,.osl ida 0 r.acks.length (r.acks.length + 2) 1,.osl ids 0 r.starts.length (r.starts.length + 2) 1,xd'] ∧ Ev.look mu' (n + 1) = some [I r.me,I r.nodes,I r.view,I r.normal,I r.status,I r.commit,.bool r.sent,I r.log.base,r.log.snap.sv,xe,xa,xs,xd] ∧ e 0 2 = .one (.optr n 0) ∧ e 0 3 = .one (.optr (n + 1) 0)) (λe=>True) (λ_ _ _ h=>h.1.free) ?_ ?_ r.dos.length 0 (r.dos.length + 1) _ _ _ _ _ (by omega) (by omega) (by omega) ⟨gB,by omega,b1,b2,?_,?_⟩ ?_ ?_ ?_
  · rintro i e mu4 n4 K hi ⟨g4,a0,a1,a2,e2,e3⟩ hc hY hn
    have u4:=g4.sub hfr (Nat.le_refl _)
    have hw:=wrap_succ hi (by omega)
    obtain ⟨id,off,cap,B,idl,lo2,rfl,p1,p2,p3,p4,p5⟩:=LentD.elem (Grow.mono (R:=DvL) DvL.mono t4 (From.mono u4)) hi
    obtain ⟨id2,off2,cap2,B3,b,rfl,q1,q2,q3,q4,q5⟩:=(DvsR.mono u4 s4).elem hi
    obtain ⟨yl,ys,yk,ym⟩:=q5.len
    have w1:=look_with (fz:=fz) a1
    have w2:=look_with (fz:=fz) a2
    have hL:=law0_KeptLog H r.dos[i].log idl lo2 b (z5 _ (List.getElem_mem hi))
    unfold lgC at hL
    unfold dvC at p4 q4
    have p6 : off + i * 6 + 0 + 1 ≤ B.length:=by omega
    have q6 : off2 + i * 6 + 0 + 1 ≤ B3.length:=by omega
    have p7 : off + i * 6 + 3 + 3 ≤ B.length:=by omega
    have q7 : off2 + i * 6 + 3 + 3 ≤ B3.length:=by omega
    have p8:=sub_at (j:=0) (m:=1) p4 (by omega)
    have q8:=sub_at (j:=0) (m:=1) q4 (by omega)
    have p9:=sub_at (j:=3) (m:=3) p4 (by omega)
    have q9:=sub_at (j:=3) (m:=3) q4 (by omega)
    simp only [List.drop_zero,List.drop_succ_cons,List.take_succ_cons,List.take_zero] at p8 q8 p9 q9
    rw [dc_at l_law0_KeptReplica_0.eq_1]
    simp only [↓E1,E2,zA,zB,zC,zD,zE,zF,zG,zH,zI,zJ,zK,zL,zM,zN,reduceIte,zO,zP, *]
    refine hL.d2 g4.free ⟨p5,q5⟩ ?_
    rintro v new n5 g5 rfl
    have b1:=(g5.own n (by omega)).trans a1
    have b2:=(g5.own (n + 1) (by omega)).trans a2
    have l5:=g5.le
    simp only [↓E1,E2,zA,zB,zC,zD,zE,zF,zG,zH,zI,zJ,zK,zL,zM,zN,reduceIte,zO,zP, *]
    exact hY rfl _ _ _ g5 ⟨g4.trans (g5.weaken (by omega)),by omega,b1,b2,by simp [updN,updE, *],by simp [updN,updE, *]⟩ (by simp [updN,updE, *])
  · rintro e mu4 n4 K ⟨g4,a0,a1,a2,e2,e3⟩ hc hY
    rw [dc_at l_law0_KeptReplica_0.eq_1]
    have hlt : (r.dos.length < r.dos.length) = False:=by simp
    have w1:=look_with (fz:=fz) a1
    have w2:=look_with (fz:=fz) a2
    simp only [↓E1,E2,zA,zB,zC,zD,zE,zF,zG,zH,zI,zJ,zK,zL,zM,zN,reduceIte,zO,zP, *]
    exact hY _ _ _ (Gr.refl g4.free) ⟨g4,a0,a1,a2,by simp [updN,updE,e2],by simp [updN,updE,e3]⟩
  · simp [updN,updE,envI]
  · simp [updN,updE,envI]
  · simp [updN,updE]
  · rintro ha e' mu' n' g ⟨g4,a0,a1,a2,e2,e3⟩
    have w1:=look_with (fz:=fz) a1
    have w2:=look_with (fz:=fz) a2
    simp only [↓E1,E2,zA,zB,zC,zD,zE,zF,zG,zH,zI,zJ,zK,zL,zM,zN,reduceIte,zO,zP, *]
    try exact h _ _ g4
  · rintro ⟨j,j1,j2,j3⟩
    cases j3
end Go.Proofs.Ytnnjlnkoomeadaa.Pv
namespace Go.Proofs.Ytnnjlnkoomeadaa.Pv
open Go.Ev Go.Ev.Rp
set_option maxRecDepth 100000
set_option maxHeartbeats 4000000
set_option linter.unusedSimpArgs false
set_option linter.unusedVariables false
set_option linter.unusedSectionVars false
variable {P : Program} (H : Fs P)
include H
theorem ref1_SamePoints (x y : SV) (l : List Pt) (hl : l.length ≤ 4611686018427387904) : BoolC P n_ref1_SamePoints [.one x,.one y] (λM=>PtsR M x l ∧ PtsR M y l) true:=boolC H.mx H.ref1_SamePoints (l.length + 1) λfz mu n k hfr g0 hx h=>by
  obtain ⟨hx,hy⟩:=hx
  obtain ⟨xl,xs,xk,xm⟩:=hx.len
  obtain ⟨yl,ys,yk,ym⟩:=hy.len
  rw [i_ref1_SamePoints,dc_at b_ref1_SamePoints.eq_1]
  simp only [↓E1,E2,zA,zB,zC,zD,zE,zF,zG,zH,zI,zJ,zK,zL,zM,zN,reduceIte,zO,zP,xl,xs,yl,ys]
  refine scan (x:=0) (L:=l.length) (q:=0) (r:=5) (p:=λi=>true) (λe mu n=>Free fz mu n ∧ PtsR (with' mu fz) x l ∧ PtsR (with' mu fz) y l ∧ e 0 0 = .one x ∧ e 0 1 = .one y) (λe=>True) (λ_ _ _ h=>h.1) ?_ ?_ l.length 0 (l.length + 1) _ mu n _ _ (by omega) (by omega) (by omega) ⟨hfr,hx,hy,?_,?_⟩ ?_ ?_ ?_
  · rintro i e mu n K hi ⟨hf,hx,hy,h0,h1⟩ hc hY hn
    have hx':=hx
    have hy':=hy
    obtain ⟨id,off,cap,B,rfl,hB,hmk,hbd,hsub⟩:=hx.elem hi
    obtain ⟨id2,off2,cap2,B2,rfl,hB2,hmk2,hbd2,hsub2⟩:=hy.elem hi
    rw [dc_at l_ref1_SamePoints_0.eq_1]
    have hw:=wrap_succ hi hl
    simp only [↓E1,E2,zA,zB,zC,zD,zE,zF,zG,zH,zI,zJ,zK,zL,zM,zN,reduceIte,zO,zP,h0,h1,hc,hi,hB,hmk,hbd,hsub,hB2,hmk2,hbd2,hsub2,hw,eq_pt]
    exact hY rfl _ _ _ (Gr.refl hf) ⟨hf,hx',hy',by simp [updN,updE,h0],by simp [updN,updE,h1]⟩ (by simp [updN,updE])
  · rintro e mu n K ⟨hf,hx,hy,h0,h1⟩ hc hY
    rw [dc_at l_ref1_SamePoints_0.eq_1]
    have hlt : (l.length < l.length) = False:=by simp
    simp only [↓E1,E2,zA,zB,zC,zD,zE,zF,zG,zH,zI,zJ,zK,zL,zM,zN,reduceIte,zO,zP,h0,h1,hc,hlt,xl,xs]
    exact hY _ _ _ (Gr.refl hf) ⟨hf,hx,hy,by simp [updN,updE,h0],by simp [updN,updE,h1]⟩
  · simp [updN,updE,envI]
  · simp [updN,updE,envI]
  · simp [updN,updE]
  · intro ha e' mu' n' g hI
    simp only [↓E1,E2,zA,zB,zC,zD,zE,zF,zG,zH,zI,zJ,zK,zL,zM,zN,reduceIte,zO,zP]
    exact h _ _ g
  · rintro ⟨j,j1,j2,j3⟩
    cases j3
theorem ref4_SameEntry (e : Ent) (x y : SV) (hb : e.batch.length ≤ 4398046511104) : BoolC P n_ref4_SameEntry [.ag (entC e x),.ag (entC e y)] (λM=>PtsR M x e.batch ∧ PtsR M y e.batch) true:=boolC H.mx H.ref4_SameEntry 0 λfz mu n k hfr g0 hx h=>by
  obtain ⟨hx,hy⟩:=hx
  obtain ⟨xl,xs,xk,xm⟩:=hx.len
  obtain ⟨yl,ys,yk,ym⟩:=hy.len
  have gA : Gr n fz mu ((n + 1,entC e y) :: (n,entC e x) :: mu) n (n + 1 + 1):=gr2 hfr
  have u:=gA.sub hfr (Nat.le_refl _)
  rw [i_ref4_SameEntry,dc_at b_ref4_SameEntry.eq_1]
  unfold entC at *
  simp only [↓E1,E2,zA,zB,zC,zD,zE,zF,zG,zH,zI,zJ,zK,zL,zM,zN,reduceIte,zO,zP, *]
  refine (ref1_SamePoints H x y e.batch (by omega)).c1 gA.free ⟨PtsR.mono u hx,PtsR.mono u hy⟩ ?_
  rintro v mu2 n2 g2 rfl
  simp only [↓E1,E2,zA,zB,zC,zD,zE,zF,zG,zH,zI,zJ,zK,zL,zM,zN,reduceIte,zO,zP, *]
  exact h _ _ (gA.trans (g2.weaken (by omega)))
theorem ref4_SameLog (l : Lg) (x y : SV) (hz : LgSz l) : BoolC P n_ref4_SameLog [.ag (lgC l x),.ag (lgC l y)] (λM=>EntsR M x l.ents ∧ EntsR M y l.ents) true:=boolC H.mx H.ref4_SameLog (l.ents.length + 1) λfz mu n k hfr g0 hx h=>by
  obtain ⟨s1,s2⟩:=hx
  obtain ⟨z1,z2⟩:=hz
  obtain ⟨xl,xs,xk,xm⟩:=s1.len
  obtain ⟨yl,ys,yk,ym⟩:=s2.len
  have hse : strEq l.snap.l l.snap.n l.snap.l l.snap.n = true:=(strEq_iff ..).2 ⟨rfl,rfl⟩
  have gB : Gr n fz mu ((n + 1,lgC l y) :: (n,lgC l x) :: mu) n (n + 1 + 1):=gr2 hfr
  have b1 : Ev.look ((n + 1,lgC l y) :: (n,lgC l x) :: mu) n = some (lgC l x):=by rw [look_c,if_neg (by omega),look_c,if_pos rfl]
  have b2 : Ev.look ((n + 1,lgC l y) :: (n,lgC l x) :: mu) (n + 1) = some (lgC l y):=by rw [look_c,if_pos rfl]
  rw [i_ref4_SameLog,dc_at b_ref4_SameLog.eq_1]
  unfold lgC at *
  simp only [↓E1,E2,zA,zB,zC,zD,zE,zF,zG,zH,zI,zJ,zK,zL,zM,zN,reduceIte,zO,zP, *]
  refine scan (x:=0) (L:=l.ents.length) (q:=0) (r:=5) (p:=λ_=>true) (λe mu' n'=>Gr n fz mu mu' n n' ∧ n + 1 + 1 ≤ n' ∧ Ev.look mu' n = some [I l.base,l.snap.sv,x] ∧ Ev.look mu' (n + 1) = some [I l.base,l.snap.sv,y] ∧ e 0 2 = .one (.optr n 0) ∧ e 0 3 = .one (.optr (n + 1) 0)) (λe=>True) (λ_ _ _ h=>h.1.free) ?_ ?_ l.ents.length 0 (l.ents.length + 1) _ _ _ _ _ (by omega) (by omega) (by omega) ⟨gB,by omega,b1,b2,?_,?_⟩ ?_ ?_ ?_
  · rintro i e mu4 n4 K hi ⟨g4,a0,a1,a2,e2,e3⟩ hc hY hn
    have u4:=g4.sub hfr (Nat.le_refl _)
    have hw:=wrap_succ hi (by omega)
    obtain ⟨id,off,cap,B,a,rfl,p1,p2,p3,p4,p5⟩:=(EntsR.mono u4 s1).elem hi
    obtain ⟨id2,off2,cap2,B3,b,rfl,q1,q2,q3,q4,q5⟩:=(EntsR.mono u4 s2).elem hi
    have w1:=look_with (fz:=fz) a1
    have w2:=look_with (fz:=fz) a2
    have hL:=ref4_SameEntry H l.ents[i] a b (z2 _ (List.getElem_mem hi))
    unfold entC at p4 q4 hL
    rw [dc_at l_ref4_SameLog_0.eq_1]
    simp only [↓E1,E2,zA,zB,zC,zD,zE,zF,zG,zH,zI,zJ,zK,zL,zM,zN,reduceIte,zO,zP, *]
    refine hL.d2 g4.free ⟨p5,q5⟩ ?_
    rintro v new n5 g5 rfl
    have b1:=(g5.own n (by omega)).trans a1
    have b2:=(g5.own (n + 1) (by omega)).trans a2
    have l5:=g5.le
    simp only [↓E1,E2,zA,zB,zC,zD,zE,zF,zG,zH,zI,zJ,zK,zL,zM,zN,reduceIte,zO,zP, *]
    exact hY rfl _ _ _ g5 ⟨g4.trans (g5.weaken (by omega)),by omega,b1,b2,by simp [updN,updE, *],by simp [updN,updE, *]⟩ (by simp [updN,updE, *])
  · rintro e mu4 n4 K ⟨g4,a0,a1,a2,e2,e3⟩ hc hY
    rw [dc_at l_ref4_SameLog_0.eq_1]
    have hlt : (l.ents.length < l.ents.length) = False:=by simp
    have w1:=look_with (fz:=fz) a1
    have w2:=look_with (fz:=fz) a2
    simp only [↓E1,E2,zA,zB,zC,zD,zE,zF,zG,zH,zI,zJ,zK,zL,zM,zN,reduceIte,zO,zP, *]
    exact hY _ _ _ (Gr.refl g4.free) ⟨g4,a0,a1,a2,by simp [updN,updE,e2],by simp [updN,updE,e3]⟩
  · simp [updN,updE,envI]
  · simp [updN,updE,envI]
  · simp [updN,updE]
  · rintro ha e' mu' n' g ⟨g4,a0,a1,a2,e2,e3⟩
    simp only [↓E1,E2,zA,zB,zC,zD,zE,zF,zG,zH,zI,zJ,zK,zL,zM,zN,reduceIte,zO,zP, *]
    try exact h _ _ g4
  · rintro ⟨j,j1,j2,j3⟩
    cases j3
end Go.Proofs.Ytnnjlnkoomeadaa.Pv
namespace Go.Proofs.Ytnnjlnkoomeadaa.Pv
open Go.Ev Go.Ev.Rp
set_option maxRecDepth 100000
set_option maxHeartbeats 4000000
set_option linter.unusedSimpArgs false
set_option linter.unusedVariables false
set_option linter.unusedSectionVars false
variable {P : Program} (H : Fs P)
include H
theorem ref16_Same (r : Rep) (xe xa xs xd ye ya ys yd : SV) (hz : RepSz r) : BoolC P n_ref16_Same [.ag (repC r xe xa xs xd),.ag (repC r ye ya ys yd)] (λM=>RepS M r xe xa xs xd ∧ RepS M r ye ya ys yd) true:=boolC H.mx H.ref16_Same (r.acks.length + r.starts.length + r.dos.length + 1) λfz mu n k hfr g0 hx h=>by
  obtain ⟨⟨s1,s2,s3,s4⟩,t1,t2,t3,t4⟩:=hx
  obtain ⟨-,-,xek,xem⟩:=s1.len
  obtain ⟨xal,xas,xak,xam⟩:=s2.len
  obtain ⟨xsl,xss,xsk,xsm⟩:=s3.len
  obtain ⟨xdl,xds,xdk,xdm⟩:=s4.len
  obtain ⟨-,-,yek,yem⟩:=t1.len
  obtain ⟨yal,yas,yak,yam⟩:=t2.len
  obtain ⟨ysl,yss,ysk,ysm⟩:=t3.len
  obtain ⟨ydl,yds,ydk,ydm⟩:=t4.len
  have hsn : (true != (r.sent == r.sent)) = false:=by simp
  have hz1:=hz.acks
  have hz2:=hz.starts
  have hz3:=hz.dos
  have hL:=ref4_SameLog H r.log xe ye hz.log
  unfold lgC at hL
  rw [i_ref16_Same,dc_at b_ref16_Same.eq_1]
  unfold repC
  have gB : Gr n fz mu ((n + 1,repC r ye ya ys yd) :: (n,repC r xe xa xs xd) :: mu) n (n + 1 + 1):=gr2 hfr
  have b1 : Ev.look ((n + 1,repC r ye ya ys yd) :: (n,repC r xe xa xs xd) :: mu) n = some (repC r xe xa xs xd):=by rw [look_c,if_neg (by omega),look_c,if_pos rfl]
  have b2 : Ev.look ((n + 1,repC r ye ya ys yd) :: (n,repC r xe xa xs xd) :: mu) (n + 1) = some (repC r ye ya ys yd):=by rw [look_c,if_pos rfl]
  obtain ⟨m0,hm0⟩ : ∃ m0 : St,((n + 1,repC r ye ya ys yd) :: (n,repC r xe xa xs xd) :: mu) = m0:=⟨_,rfl⟩
  rw [hm0] at gB b1 b2
  unfold repC at hm0 b1 b2
  have w1:=look_with (fz:=fz) b1
  have w2:=look_with (fz:=fz) b2
  simp only [↓E1,E2,zA,zB,zC,zD,zE,zF,zG,zH,zI,zJ,zK,zL,zM,zN,reduceIte,zO,zP, *]
  try rw [hm0]
  clear hm0
  try simp only [↓E1,E2,zA,zB,zC,zD,zE,zF,zG,zH,zI,zJ,zK,zL,zM,zN,reduceIte,zO,zP, *]
  refine hL.c1 gB.free ⟨EntsR.mono (gB.sub hfr (Nat.le_refl _)) s1,EntsR.mono (gB.sub hfr (Nat.le_refl _)) t1⟩ ?_
  rintro v m1 n1 g1 rfl
  have gg:=gB.trans (g1.weaken (by omega))
  have l1:=g1.le
  have c1:=(g1.own n (by omega)).trans b1
  have c2:=(g1.own (n + 1) (by omega)).trans b2
  clear w1 w2 b1 b2 g1 gB hL
  have w1:=look_with (fz:=fz) c1
  have w2:=look_with (fz:=fz) c2
  simp only [↓E1,E2,zA,zB,zC,zD,zE,zF,zG,zH,zI,zJ,zK,zL,zM,zN,reduceIte,zO,zP, *]
  have h':=Hide.mk h
  clear h
  refine loopI (x:=0) (L:=r.acks.length) (p:=λ_=>true) (λi e mu' n'=>Gr n fz mu mu' n n' ∧ n + 1 + 1 ≤ n' ∧ Ev.look mu' n = some [I r.me,I r.nodes,I r.view,I r.normal,I r.status,I r.commit,.bool r.sent,I r.log.base,r.log.snap.sv,xe,xa,xs,xd] ∧ Ev.look mu' (n + 1) = some [I r.me,I r.nodes,I r.view,I r.normal,I r.status,I r.commit,.bool r.sent,I r.log.base,r.log.snap.sv,ye,ya,ys,yd] ∧ e 0 2 = .one (.optr n 0) ∧ e 0 3 = .one (.optr (n + 1) 0) ∧ e 0 5 = .one (.int .i64 i)) (λ_ _ _=>False) ?_ ?_ _ _ _ _ _ (by omega) ⟨gg,by omega,c1,c2,by simp [updN,updE,envI],by simp [updN,updE,envI],by simp [updN,updE,envI]⟩ ?_ (by rintro ⟨_,_,_,h⟩; cases h)
  · rintro i e mu4 n4 K hi ⟨g4,a0,a1,a2,e2,e3,e5⟩ hY hn
    have u4:=g4.sub hfr (Nat.le_refl _)
    have hw:=wrap_succ hi (by omega)
    obtain ⟨id,off,cap,B,rfl,p1,p2,p3,p4⟩:=(IntsR.mono u4 s2).elem hi
    obtain ⟨id2,off2,cap2,B3,rfl,q1,q2,q3,q4⟩:=(IntsR.mono u4 t2).elem hi
    clear w1 w2 c1 c2
    have w1:=look_with (fz:=fz) a1
    have w2:=look_with (fz:=fz) a2
    rw [dc_at l_ref16_Same_0.eq_1]
    simp only [↓E1,E2,zA,zB,zC,zD,zE,zF,zG,zH,zI,zJ,zK,zL,zM,zN,reduceIte,zO,zP, *]
    try exact hY rfl _ _ _ ⟨g4,a0,a1,a2,by simp [updN,updE, *],by simp [updN,updE, *],by simp [updN,updE, *]⟩
  · rintro e mu4 n4 K ⟨g4,a0,a1,a2,e2,e3,e5⟩ hY
    clear w1 w2 c1 c2
    have hlt : (r.acks.length < r.acks.length) = False:=by simp
    have w1:=look_with (fz:=fz) a1
    rw [dc_at l_ref16_Same_0.eq_1]
    simp only [↓E1,E2,zA,zB,zC,zD,zE,zF,zG,zH,zI,zJ,zK,zL,zM,zN,reduceIte,zO,zP, *]
    try exact hY _ _ _ ⟨g4,a0,a1,a2,by simp [updN,updE, *],by simp [updN,updE, *],by simp [updN,updE, *]⟩
  rintro - e mu1 n1 ⟨gg,l1,c1,c2,e2,e3,e5⟩
  clear w1 w2
  simp only [↓E1,E2,zA,zB,zC,zD,zE,zF,zG,zH,zI,zJ,zK,zL,zM,zN,reduceIte,zO,zP, *]
  refine loopI (x:=2) (L:=r.starts.length) (p:=λ_=>true) (λi e mu' n'=>Gr n fz mu mu' n n' ∧ n + 1 + 1 ≤ n' ∧ Ev.look mu' n = some [I r.me,I r.nodes,I r.view,I r.normal,I r.status,I r.commit,.bool r.sent,I r.log.base,r.log.snap.sv,xe,xa,xs,xd] ∧ Ev.look mu' (n + 1) = some [I r.me,I r.nodes,I r.view,I r.normal,I r.status,I r.commit,.bool r.sent,I r.log.base,r.log.snap.sv,ye,ya,ys,yd] ∧ e 0 2 = .one (.optr n 0) ∧ e 0 3 = .one (.optr (n + 1) 0) ∧ e 0 6 = .one (.int .i64 i)) (λ_ _ _=>False) ?_ ?_ _ _ _ _ _ (by omega) ⟨gg,by omega,c1,c2,by simp [updN,updE, *],by simp [updN,updE, *],by simp [updN,updE, *]⟩ ?_ (by rintro ⟨_,_,_,h⟩; cases h)
  · rintro i e mu4 n4 K hi ⟨g4,a0,a1,a2,e2,e3,e5⟩ hY hn
    have u4:=g4.sub hfr (Nat.le_refl _)
    have hw:=wrap_succ hi (by omega)
    obtain ⟨id,off,cap,B,rfl,p1,p2,p3,p4⟩:=(IntsR.mono u4 s3).elem hi
    obtain ⟨id2,off2,cap2,B3,rfl,q1,q2,q3,q4⟩:=(IntsR.mono u4 t3).elem hi
    clear c1 c2
    have w1:=look_with (fz:=fz) a1
    have w2:=look_with (fz:=fz) a2
    rw [dc_at l_ref16_Same_1.eq_1]
    simp only [↓E1,E2,zA,zB,zC,zD,zE,zF,zG,zH,zI,zJ,zK,zL,zM,zN,reduceIte,zO,zP, *]
    try exact hY rfl _ _ _ ⟨g4,a0,a1,a2,by simp [updN,updE, *],by simp [updN,updE, *],by simp [updN,updE, *]⟩
  · rintro e mu4 n4 K ⟨g4,a0,a1,a2,e2,e3,e5⟩ hY
    clear c1 c2
    have hlt : (r.starts.length < r.starts.length) = False:=by simp
    have w1:=look_with (fz:=fz) a1
    rw [dc_at l_ref16_Same_1.eq_1]
    simp only [↓E1,E2,zA,zB,zC,zD,zE,zF,zG,zH,zI,zJ,zK,zL,zM,zN,reduceIte,zO,zP, *]
    try exact hY _ _ _ ⟨g4,a0,a1,a2,by simp [updN,updE, *],by simp [updN,updE, *],by simp [updN,updE, *]⟩
  clear gg l1 c1 c2 e2 e3 e5
  rintro - e mu1 n1 ⟨gg,l1,c1,c2,e2,e3,e5⟩
  simp only [↓E1,E2,zA,zB,zC,zD,zE,zF,zG,zH,zI,zJ,zK,zL,zM,zN,reduceIte,zO,zP, *]
  refine loopI (x:=4) (L:=r.dos.length) (p:=λ_=>true) (λi e mu' n'=>Gr n fz mu mu' n n' ∧ n + 1 + 1 ≤ n' ∧ Ev.look mu' n = some [I r.me,I r.nodes,I r.view,I r.normal,I r.status,I r.commit,.bool r.sent,I r.log.base,r.log.snap.sv,xe,xa,xs,xd] ∧ Ev.look mu' (n + 1) = some [I r.me,I r.nodes,I r.view,I r.normal,I r.status,I r.commit,.bool r.sent,I r.log.base,r.log.snap.sv,ye,ya,ys,yd] ∧ e 0 2 = .one (.optr n 0) ∧ e 0 3 = .one (.optr (n + 1) 0) ∧ e 0 7 = .one (.int .i64 i)) (λ_ _ _=>False) ?_ ?_ _ _ _ _ _ (by omega) ⟨gg,by omega,c1,c2,by simp [updN,updE, *],by simp [updN,updE, *],by simp [updN,updE, *]⟩ ?_ (by rintro ⟨_,_,_,h⟩; cases h)
  · rintro i e mu4 n4 K hi ⟨g4,a0,a1,a2,e2,e3,e5⟩ hY hn
    have u4:=g4.sub hfr (Nat.le_refl _)
    have hw:=wrap_succ hi (by omega)
    obtain ⟨id,off,cap,B,b,rfl,p1,p2,p3,p4,p5⟩:=(DvsR.mono u4 s4).elem hi
    obtain ⟨id2,off2,cap2,B3,b',rfl,q1,q2,q3,q4,q5⟩:=(DvsR.mono u4 t4).elem hi
    obtain ⟨zl,zs,zk,zm⟩:=p5.len
    obtain ⟨zl',zs',zk',zm'⟩:=q5.len
    unfold dvC at p4 q4
    clear c1 c2
    have w1:=look_with (fz:=fz) a1
    have w2:=look_with (fz:=fz) a2
    have hLd:=ref4_SameLog H r.dos[i].log b b' (hz.dlog _ (List.getElem_mem hi))
    unfold lgC at hLd
    rw [dc_at l_ref16_Same_2.eq_1]
    have hne : (n4 = n) = False:=by simp; omega
    have hne1 : (n4 + 1 = n) = False:=by simp; omega
    have hne2 : (n4 + 1 = n + 1) = False:=by simp; omega
    have hne3 : (n4 = n + 1) = False:=by simp; omega
    simp only [↓E1,E2,zA,zB,zC,zD,zE,zF,zG,zH,zI,zJ,zK,zL,zM,zN,reduceIte,zO,zP, *]
    have gA : Gr n4 fz mu4 ((n4,[I r.dos[i].frm,I r.dos[i].normal,I r.dos[i].commit,I r.dos[i].log.base,r.dos[i].log.snap.sv,b]) :: (n4 + 1,[I r.dos[i].frm,I r.dos[i].normal,I r.dos[i].commit,I r.dos[i].log.base,r.dos[i].log.snap.sv,b']) :: mu4) n4 (n4 + 1 + 1):=Gr.two (Gr.refl g4.free) (Nat.le_refl _) _ _
    have uA:=gA.sub g4.free (Nat.le_refl _)
    refine hLd.c1 gA.free ⟨EntsR.mono uA p5,EntsR.mono uA q5⟩ ?_
    rintro v mu5 n5 g5 rfl
    have l5:=g5.le
    have gC:=gA.trans (g5.weaken (by omega))
    have b1:=(gC.own n (by omega)).trans a1
    have b2:=(gC.own (n + 1) (by omega)).trans a2
    clear hLd gA uA w1 w2 p1 q1
    simp only [↓E1,E2,zA,zB,zC,zD,zE,zF,zG,zH,zI,zJ,zK,zL,zM,zN,reduceIte,zO,zP, *]
    try exact hY rfl _ _ _ ⟨g4.trans (gC.weaken (by omega)),by omega,b1,b2,by simp [updN,updE, *],by simp [updN,updE, *],by simp [updN,updE, *]⟩
  · rintro e mu4 n4 K ⟨g4,a0,a1,a2,e2,e3,e5⟩ hY
    clear c1 c2
    have hlt : (r.dos.length < r.dos.length) = False:=by simp
    have w1:=look_with (fz:=fz) a1
    rw [dc_at l_ref16_Same_2.eq_1]
    simp only [↓E1,E2,zA,zB,zC,zD,zE,zF,zG,zH,zI,zJ,zK,zL,zM,zN,reduceIte,zO,zP, *]
    try exact hY _ _ _ ⟨g4,a0,a1,a2,by simp [updN,updE, *],by simp [updN,updE, *],by simp [updN,updE, *]⟩
  clear gg l1 c1 c2 e2 e3 e5
  rintro - e mu1 n1 ⟨gg,l1,c1,c2,e2,e3,e5⟩
  simp only [↓E1,E2,zA,zB,zC,zD,zE,zF,zG,zH,zI,zJ,zK,zL,zM,zN,reduceIte,zO,zP, *]
  exact h'.out _ _ gg
end Go.Proofs.Ytnnjlnkoomeadaa.Pv
namespace Go.Proofs.Ytnnjlnkoomeadaa.Pv
open Go.Ev Go.Ev.Rp
set_option maxRecDepth 100000
set_option maxHeartbeats 4000000
set_option linter.unusedSimpArgs false
set_option linter.unusedVariables false
set_option linter.unusedSectionVars false
def askM (r : Rep) (round : Int) (to : Nat) : Msg:=⟨12,r.me,to,r.view,0,0,0,round,0,0,0,0,0,0,tx0,[],⟨0,tx0,[]⟩,tx0⟩
def asks (r : Rep) (round : Int) (i : Nat) : List Msg:=((List.range i).filter λ(j : Nat)=>!decide ((j : Int) = r.me)).map (askM r round)
variable {P : Program} (H : Fs P)
include H
end Go.Proofs.Ytnnjlnkoomeadaa.Pv
namespace Go.Proofs.Ytnnjlnkoomeadaa.Pv
open Go.Ev Go.Ev.Rp
set_option maxRecDepth 100000
set_option maxHeartbeats 4000000
set_option linter.unusedSimpArgs false
set_option linter.unusedVariables false
set_option linter.unusedSectionVars false
variable {P : Program} (H : Fs P)
include H
end Go.Proofs.Ytnnjlnkoomeadaa.Pv
namespace Go.Ev.Rp
def putStep (x : Int) (s : Bool × List Int) (y : Int) : Bool × List Int :=
  let t:=if s.1 = false ∧ x ≤ y then (true,s.2 ++ [x]) else s
  (t.1,if y = x then t.2 else t.2 ++ [y])
def putF (xs : List Int) (x : Int) : Bool × List Int:=xs.foldl (putStep x) (false,[])
end Go.Ev.Rp
namespace Go.Proofs.Ytnnjlnkoomeadaa.Pv
open Go.Ev Go.Ev.Rp
set_option maxRecDepth 100000
set_option maxHeartbeats 4000000
set_option linter.unusedSimpArgs false
set_option linter.unusedVariables false
set_option linter.unusedSectionVars false
variable {P : Program} (H : Fs P)
include H
end Go.Proofs.Ytnnjlnkoomeadaa.Pv
namespace Go.Ev
open Go.Shelf Go.Proofs
section
variable {val : Nat → Int} {fz : Fz} {mu : St} {n : Nat}
end
end Go.Ev
namespace Go.Ev
open Go.Shelf Go.Proofs
section
variable {R : Type} {T : R → Prop} {z : R} {P : Program} {val : Nat → Int}
end
end Go.Ev
namespace Go.Proofs.Ytnnjlnkoomeadaa.Pv
open Go.Ev Go.Ev.Rp
set_option linter.unusedVariables false
set_option linter.unusedSimpArgs false
end Go.Proofs.Ytnnjlnkoomeadaa.Pv
namespace Go.Proofs.Ytnnjlnkoomeadaa.Pv
open Go.Ev Go.Ev.Rp
set_option maxRecDepth 100000
set_option maxHeartbeats 4000000
set_option linter.unusedSimpArgs false
set_option linter.unusedVariables false
set_option linter.unusedSectionVars false
variable {P : Program} (H : Fs P)
include H
end Go.Proofs.Ytnnjlnkoomeadaa.Pv
namespace Go.Proofs.Ytnnjlnkoomeadaa.Pv
open Go.Ev Go.Ev.Rp
set_option maxRecDepth 100000
set_option maxHeartbeats 4000000
set_option linter.unusedSimpArgs false
set_option linter.unusedVariables false
set_option linter.unusedSectionVars false
variable {P : Program} (H : Fs P)
include H
end Go.Proofs.Ytnnjlnkoomeadaa.Pv
namespace Go.Proofs.Ytnnjlnkoomeadaa.Pv
open Go.Ev Go.Ev.Rp
set_option maxRecDepth 100000
set_option maxHeartbeats 4000000
set_option linter.unusedSimpArgs false
set_option linter.unusedVariables false
set_option linter.unusedSectionVars false
variable {P : Program} (H : Fs P)
include H
end Go.Proofs.Ytnnjlnkoomeadaa.Pv
namespace Go.Proofs.Ytnnjlnkoomeadaa.Pv
open Go.Ev Go.Ev.Rp
set_option maxRecDepth 100000
set_option maxHeartbeats 4000000
set_option linter.unusedSimpArgs false
set_option linter.unusedVariables false
set_option linter.unusedSectionVars false
variable {P : Program} (H : Fs P)
include H
end Go.Proofs.Ytnnjlnkoomeadaa.Pv
namespace Go.Proofs.Ytnnjlnkoomeadaa.Pv
open Go.Ev Go.Ev.Rp
set_option maxRecDepth 100000
set_option maxHeartbeats 4000000
set_option linter.unusedSimpArgs false
set_option linter.unusedVariables false
set_option linter.unusedSectionVars false
variable {P : Program} (H : Fs P)
include H
end Go.Proofs.Ytnnjlnkoomeadaa.Pv
namespace Go.Proofs.Ytnnjlnkoomeadaa.Pv
open Go.Ev Go.Ev.Rp
set_option maxRecDepth 100000
set_option maxHeartbeats 4000000
set_option linter.unusedSimpArgs false
set_option linter.unusedVariables false
set_option linter.unusedSectionVars false
variable {P : Program} (H : Fs P)
include H
end Go.Proofs.Ytnnjlnkoomeadaa.Pv
