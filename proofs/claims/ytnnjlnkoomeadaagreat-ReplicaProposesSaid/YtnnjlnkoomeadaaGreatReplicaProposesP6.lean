/-
  ReplicaProposes: part 6 of what the proof is made of.
-/
import Derived.Test.YtnnjlnkoomeadaaGreatReplicaProposesP5
import Derived.Shelf.Spec.SlicesInsertGrow
set_option linter.unusedVariables false
set_option linter.unusedSimpArgs false
open Int renaming reduceEq → zA,reduceNe → zB,reduceLT → zC,reduceLE → zD,reduceNeg → zE,reduceAdd → zF,reduceSub → zG,reduceToNat → zH
open Nat renaming reduceEqDiff → zI,reduceAdd → zJ,reduceMul → zK,reduceSub → zL,reduceLeDiff → zM,reduceBEq → zN,reduceLT → zO,reduceBneDiff → zP
namespace Go.Proofs.YtnnjlnkoomeadaaGreat.Pv
open Go.Ev Go.Ev.Rp
set_option maxRecDepth 100000
set_option maxHeartbeats 4000000
set_option linter.unusedSimpArgs false
set_option linter.unusedVariables false
set_option linter.unusedSectionVars false
def mkP : Pt:=⟨⟨0,0,by decide⟩,77777,0⟩
theorem mkd_P : ∀ (l : List Pt),mkd ((l ++ [mkP,mkP]).map ptC).flatten = false
  | []=>rfl
  | a :: l=>rfl
theorem pts_flen (l : List Pt) : (l.map ptC).flatten.length = l.length * 3:=by
  induction l with
  | nil=>rfl
  | cons h t ih=>simp [ih,ptC]; omega
theorem eq_pt (p : Pt) : eqCells [2,0,0] (ptC p) (ptC p) = some true:=by
  simp [eqCells,eqCell,ptC,Tx.sv,I,IntKind.eqb,eqI_eq,strEq]
theorem eq_mk : eqCells [2,0,0] [SV.str 0 0,I 77777,I 0] [SV.str 0 0,SV.int IntKind.i64 77777,SV.int IntKind.i64 0] = some true:=eq_pt mkP
def LentP (M : Fz) (id : Nat) (l : List Pt) : Prop:=M id = some ((l ++ [mkP,mkP]).map ptC).flatten
theorem LentP.sl {M : Fz} {id : Nat} {l : List Pt} (h : LentP M id l) : PtsR M (.osl id 0 l.length (l.length + 2) 3) l:=by
  refine .inr ⟨id,0,l.length + 2,_,by simp,by simp,h,mkd_P l,?_,?_,pt_ok⟩
  · rw [pts_flen]; simp; omega
  · rw [List.map_append,List.flatten_append,List.drop_zero,List.take_left' (by rw [pts_flen]; simp)]
variable {P : Program} (H : Fs P)
include H
theorem law0_CopyPoints (x : SV) (l : List Pt) (hl : l.length ≤ 4398046511104) : Ctr P n_law0_CopyPoints [.one x] (λM=>PtsR M x l) (λn _ M v=>∃ x',v = .one x' ∧ PtsX (From n M) x' l):=Ctr.of H.mx H.law0_CopyPoints (λ_=>0) λfz mu n k hfr s1 hk=>by
  obtain ⟨xl,xs,xk,xm⟩:=s1.len
  rw [i_law0_CopyPoints,dc_at b_law0_CopyPoints.eq_1]
  simp only [↓E1,E2,zA,zB,zC,zD,zE,zF,zG,zH,zI,zJ,zK,zL,zM,zN,reduceIte,zO,zP, *]
  obtain ⟨h1,h2⟩:=onSrc_Sl (Sl.mono s1 (sub1 hfr (c:=[])))
  rw [h1]; clear h1
  refine ⟨h2,app_empty hfr (fits_le (by simp; omega) (by decide) (by decide)) pt_ok (λx' mu' n' g hx=>?_)⟩
  simp only [↓E1,E2,zA,zB,zC,zD,zE,zF,zG,zH,zI,zJ,zK,zL,zM,zN,reduceIte,zO,zP]
  exact hk _ _ _ g ⟨x',rfl,hx⟩
theorem law0_LendPoints (x : SV) (l : List Pt) (hl : l.length ≤ 4398046511102) : Ctr P n_law0_LendPoints [.one x] (λM=>PtsR M x l) (λn _ M v=>∃ id,v = .one (.osl id 0 l.length (l.length + 2) 3) ∧ n ≤ id ∧ LentP M id l):=Ctr.of H.mx H.law0_LendPoints (λ_=>0) λfz mu n k hfr s1 hk=>by
  obtain ⟨xl,xs,xk,xm⟩:=s1.len
  rw [i_law0_LendPoints,dc_at b_law0_LendPoints.eq_1]
  simp only [↓E1,E2,zA,zB,zC,zD,zE,zF,zG,zH,zI,zJ,zK,zL,zM,zN,reduceIte,zO,zP, *]
  refine (law0_CopyPoints H x l (by omega)).c1 hfr s1 ?_
  rintro v mu' n' g ⟨x',rfl,hx⟩
  simp only [↓E1,E2,zA,zB,zC,zD,zE,zF,zG,zH,zI,zJ,zK,zL,zM,zN,reduceIte,zO,zP, *]
  have hle:=g.le
  have g2:=g.cons hle ([mkP,mkP].map ptC).flatten
  refine app_more (fs:=[mkP,mkP].map ptC) hfr g2 (hx.mono ?_) (fits_le (by simp; omega) (by decide) (by decide)) (by simp) pt_ok (λmu3 g3 hn=>?_)
  · intro id B h
    obtain ⟨h5,h6⟩:=From.el h
    exact From.at h5 (by rw [with_c,if_neg (by have:=g.free.lt h6; omega)]; exact h6)
  · simp only [↓E1,E2,zA,zB,zC,zD,zE,zF,zG,zH,zI,zJ,zK,zL,zM,zN,reduceIte,zO,zP,Option.map, *]
    rw [sliceOf_hi (by simp)]
    simp only [↓E1,E2,zA,zB,zC,zD,zE,zF,zG,zH,zI,zJ,zK,zL,zM,zN,reduceIte,zO,zP, *]
    refine hk _ _ _ g3 ⟨n' + 1,by simp,by omega,?_⟩
    show _ = _
    rw [look_with hn,List.map_append]
theorem law0_SamePoints (x y : SV) (l : List Pt) (hl : l.length ≤ 4611686018427387904) : BoolC P n_law0_SamePoints [.one x,.one y] (λM=>PtsR M x l ∧ PtsR M y l) true:=boolC H.mx H.law0_SamePoints (l.length + 1) λfz mu n k hfr g0 hx h=>by
  obtain ⟨hx,hy⟩:=hx
  obtain ⟨xl,xs,xk,xm⟩:=hx.len
  obtain ⟨yl,ys,yk,ym⟩:=hy.len
  rw [i_law0_SamePoints,dc_at b_law0_SamePoints.eq_1]
  simp only [↓E1,E2,zA,zB,zC,zD,zE,zF,zG,zH,zI,zJ,zK,zL,zM,zN,reduceIte,zO,zP,xl,xs,yl,ys]
  refine scan (x:=0) (L:=l.length) (q:=0) (r:=5) (p:=λi=>true) (λe mu n=>Free fz mu n ∧ PtsR (with' mu fz) x l ∧ PtsR (with' mu fz) y l ∧ e 0 0 = .one x ∧ e 0 1 = .one y) (λe=>True) (λ_ _ _ h=>h.1) ?_ ?_ l.length 0 (l.length + 1) _ mu n _ _ (by omega) (by omega) (by omega) ⟨hfr,hx,hy,?_,?_⟩ ?_ ?_ ?_
  · rintro i e mu n K hi ⟨hf,hx,hy,h0,h1⟩ hc hY hn
    have hx':=hx
    have hy':=hy
    obtain ⟨id,off,cap,B,rfl,hB,hmk,hbd,hsub⟩:=hx.elem hi
    obtain ⟨id2,off2,cap2,B2,rfl,hB2,hmk2,hbd2,hsub2⟩:=hy.elem hi
    rw [dc_at l_law0_SamePoints_0.eq_1]
    have hw:=wrap_succ hi hl
    simp only [↓E1,E2,zA,zB,zC,zD,zE,zF,zG,zH,zI,zJ,zK,zL,zM,zN,reduceIte,zO,zP,h0,h1,hc,hi,hB,hmk,hbd,hsub,hB2,hmk2,hbd2,hsub2,hw,eq_pt]
    exact hY rfl _ _ _ (Gr.refl hf) ⟨hf,hx',hy',by simp [updN,updE,h0],by simp [updN,updE,h1]⟩ (by simp [updN,updE])
  · rintro e mu n K ⟨hf,hx,hy,h0,h1⟩ hc hY
    rw [dc_at l_law0_SamePoints_0.eq_1]
    have hlt : (l.length < l.length) = False:=by simp
    simp only [↓E1,E2,zA,zB,zC,zD,zE,zF,zG,zH,zI,zJ,zK,zL,zM,zN,reduceIte,zO,zP,h0,h1,hc,hlt,xl,xs]
    exact hY _ _ _ (Gr.refl hf) ⟨hf,hx,hy,by simp [updN,updE,h0],by simp [updN,updE,h1]⟩
  · simp [updN,updE,envI]
  · simp [updN,updE,envI]
  · simp [updN,updE]
  · intro ha e' mu' n' g hI
    simp only [↓E1,E2,zA,zB,zC,zD,zE,zF,zG,zH,zI,zJ,zK,zL,zM,zN,reduceIte,zO,zP]
    exact h _ _ g
  · rintro ⟨j,j1,j2,j3⟩
    cases j3
theorem law0_KeptPoints (id : Nat) (y : SV) (l : List Pt) (hl : l.length ≤ 4611686018427387000) : BoolC P n_law0_KeptPoints [.one (.osl id 0 l.length (l.length + 2) 3),.one y] (λM=>LentP M id l ∧ PtsR M y l) true:=boolC H.mx H.law0_KeptPoints 0 λfz mu n k hfr g0 hx h=>by
  obtain ⟨hx,hy⟩:=hx
  obtain ⟨yl,ys,yk,ym⟩:=hy.len
  have hs:=hx.sl
  rw [i_law0_KeptPoints,dc_at b_law0_KeptPoints.eq_1]
  have hw : IntKind.i64.wrap ((l.length : Int) + 2) = ((l.length + 2 : Nat) : Int):=by
    rw [wrap64 (by omega) (by omega)]; omega
  have hw1 : IntKind.i64.wrap ((l.length : Int) + 1) = ((l.length + 1 : Nat) : Int):=by
    rw [wrap64 (by omega) (by omega)]; omega
  simp only [↓E1,E2,zA,zB,zC,zD,zE,zF,zG,zH,zI,zJ,zK,zL,zM,zN,reduceIte,zO,zP,Option.map, *]
  rw [sliceOf_hi (Nat.le_refl _)]
  simp only [↓E1,E2,zA,zB,zC,zD,zE,zF,zG,zH,zI,zJ,zK,zL,zM,zN,reduceIte,zO,zP, *]
  refine (law0_SamePoints H _ y l (by omega)).c1 hfr ⟨hs,hy⟩ ?_
  rintro v mu2 n2 g rfl
  have hB : with' mu2 fz id = some ((l ++ [mkP,mkP]).map ptC).flatten:=g.old hfr hx
  have hm:=mkd_P l
  have l1 : ((l ++ [mkP,mkP]).map ptC).flatten.length = (l.length + 2) * 3:=by rw [pts_flen]; simp
  have d1 : List.take 3 (List.drop (l.length * 3) ((l ++ [mkP,mkP]).map ptC).flatten) = [.str 0 0,I 77777,I 0]:=by
    rw [List.map_append,List.flatten_append,List.drop_left' (pts_flen l)]; rfl
  have d2 : List.take 3 (List.drop ((l.length + 1) * 3) ((l ++ [mkP,mkP]).map ptC).flatten) = [.str 0 0,I 77777,I 0]:=by
    rw [show l ++ [mkP,mkP] = (l ++ [mkP]) ++ [mkP] by simp,List.map_append,List.flatten_append,List.drop_left' (by rw [pts_flen]; simp)]; rfl
  have n1 : l.length < l.length + 2:=by omega
  have n2 : l.length + 1 < l.length + 2:=by omega
  have n3 : l.length * 3 + 3 ≤ (l.length + 2) * 3:=by omega
  have n4 : (l.length + 1) * 3 + 3 ≤ (l.length + 2) * 3:=by omega
  have hq:=eq_mk
  simp only [↓E1,E2,zA,zB,zC,zD,zE,zF,zG,zH,zI,zJ,zK,zL,zM,zN,reduceIte,zO,zP, *]
  done
end Go.Proofs.YtnnjlnkoomeadaaGreat.Pv
namespace Go.Proofs.YtnnjlnkoomeadaaGreat.Pv
open Go.Ev Go.Ev.Rp
set_option maxRecDepth 100000
set_option maxHeartbeats 4000000
set_option linter.unusedSimpArgs false
set_option linter.unusedVariables false
set_option linter.unusedSectionVars false
def EntL (M : Fz) (c : List SV) : Option Ent → Prop
  | some e=>∃ id,c = entC e (.osl id 0 e.batch.length (e.batch.length + 2) 3) ∧ LentP M id e.batch
  | none=>c = [I 77777,I 0,I 0,I 0,.nsl]
theorem EntL.mono {M M' : Fz} {c : List SV} {e : Option Ent} (hs : Sub M M') (h : EntL M c e) : EntL M' c e:=by
  cases e with
  | none=>exact h
  | some e=>obtain ⟨id,h1,h2⟩:=h; exact ⟨id,h1,hs _ _ h2⟩
def LentE (lo : Nat) (M : Fz) (id : Nat) (l : List Ent) : Prop:=Grow lo M 5 EntL (.osl id 0 (l.length + 1) (l.length + 1) 5) (l.map some ++ [none])
variable {P : Program} (H : Fs P)
include H
theorem law0_LendEntries (x : SV) (l : List Ent) (hL : l.length ≤ 2513169434910) (hb : ∀ e ∈ l,e.batch.length ≤ 4398046511102) : Ctr P n_law0_LendEntries [.one x] (λM=>EntsR M x l) (λn _ M v=>∃ id,v = .one (.osl id 0 l.length (l.length + 1) 5) ∧ LentE n M id l):=Ctr.of H.mx H.law0_LendEntries (λ_=>l.length + 1) λfz mu n k hfr s1 hk=>by
  obtain ⟨xl,xs,xk,xm⟩:=s1.len
  have hw1 : IntKind.i64.wrap ((l.length : Int) + 1) = ((l.length + 1 : Nat) : Int):=by
    rw [wrap64 (by omega) (by omega)]; omega
  have hf : fits (l.length + 1) 56 = true:=fits_le (by omega) (by decide) (by decide)
  rw [i_law0_LendEntries,dc_at b_law0_LendEntries.eq_1]
  simp only [↓E1,E2,zA,zB,zC,zD,zE,zF,zG,zH,zI,zJ,zK,zL,zM,zN,reduceIte,zO,zP, *]
  refine loopI (x:=0) (L:=l.length) (p:=λ_=>true) (λi e mu' n'=>∃ xe,Gr n fz mu mu' n n' ∧ Grow n (with' mu' fz) 5 EntL xe ((l.take i).map some) ∧ e 0 3 = .one xe ∧ e 0 0 = .one x ∧ e 0 4 = .one (.int .i64 i)) (λ_ _ _=>False) ?_ ?_ _ _ _ _ _ (by omega) ?_ ?_ ?_
  · rintro i e mu1 n1 K hi ⟨xe,g1,G,h3,h0,h4⟩ hy hn
    have hw:=wrap_succ hi (by omega)
    obtain ⟨id,off,cap,B,b,rfl,hB,hmk,hbd,hsub,s2⟩:=(EntsR.mono (λ_ _ hh=>g1.old hfr hh) s1).elem hi
    obtain ⟨yl,ys,yk,ym⟩:=s2.len
    obtain ⟨-,-,zk,zm⟩:=G.len
    have hno : ∀ c,with' ((n1,c) :: mu1) fz id = some B:=λc=>by rw [with_c,if_neg (by have:=g1.free.lt hB; omega)]; exact hB
    unfold entC at hsub
    rw [dc_at l_law0_LendEntries_0.eq_1]
    simp only [↓E1,E2,zA,zB,zC,zD,zE,zF,zG,zH,zI,zJ,zK,zL,zM,zN,reduceIte,zO,zP, *]
    have gA : Gr n1 fz mu1 ((n1,[I l[i].view,I l[i].client,I l[i].session,I l[i].number,b]) :: mu1) n1 (n1 + 1):=(Gr.refl g1.free).cons (Nat.le_refl _) _
    refine (law0_LendPoints H b l[i].batch (hb _ (List.getElem_mem hi))).c1 gA.free (s2.mono (λ_ _ hh=>gA.old g1.free hh)) ?_
    rintro v mu2 n2 g2 ⟨idp,rfl,hidp,hlp⟩
    have b5 : Ev.look mu2 n1 = some [I l[i].view,I l[i].client,I l[i].session,I l[i].number,b]:=(g2.own n1 (by omega)).trans own_at
    have b6:=look_with (fz:=fz) b5
    have hle:=g2.le
    have b7 : ∀ c,with' (putS mu2 n1 c) fz n1 = some c:=λc=>by rw [with_putS b5,if_pos rfl]
    simp only [↓E1,E2,zA,zB,zC,zD,zE,zF,zG,zH,zI,zJ,zK,zL,zM,zN,reduceIte,zO,zP, *]
    have hli : (l.take i).length = i:=by rw [List.length_take]; omega
    have gC:=((gA.trans (g2.weaken (by omega))).put (id:=n1) (Nat.le_refl _) b5 (c:=[I l[i].view,I l[i].client,I l[i].session,I l[i].number,.osl idp 0 l[i].batch.length (l[i].batch.length + 2) 3]))
    have hlt:=g2.free.lt hlp
    refine Grow.more (R:=EntL) EntL.mono (a:=some l[i]) G g1.free g1.le (λj hj=>hfr.fz j hj) (gC.cons (by omega) _) ⟨idp,rfl,From.at (by omega) ?_⟩ ⟨rfl,rfl⟩ (by rw [List.length_map,hli]; exact fits_le (by omega) (by decide) (by decide)) (λmu3 g3 G3=>?_)
    · rw [with_c,if_neg (by omega),with_putS b5,if_neg (by omega)]; exact hlp
    · rw [List.length_map,hli] at G3 ⊢
      simp only [↓E1,E2,zA,zB,zC,zD,zE,zF,zG,zH,zI,zJ,zK,zL,zM,zN,reduceIte,zO,zP, *]
      refine hy rfl _ _ _ ⟨.osl (n2 + 1) 0 (i + 1) (i + 1) 5,g1.trans (g3.weaken (by omega)),?_,by simp [updN,updE],by simp [updN,updE, *],by simp [updN,updE, *]⟩
      rw [List.take_add_one,List.getElem?_eq_getElem hi,List.map_append]
      exact G3
  · rintro e mu1 n1 K ⟨xe,g1,G,h3,h0,h4⟩ hx
    rw [dc_at l_law0_LendEntries_0.eq_1]
    have hlt : (l.length < l.length) = False:=by simp
    simp only [↓E1,E2,zA,zB,zC,zD,zE,zF,zG,zH,zI,zJ,zK,zL,zM,zN,reduceIte,zO,zP, *]
    exact hx _ _ _ ⟨xe,g1,G,by simp [updN,updE,h3],by simp [updN,updE,h0],by simp [updN,updE,h4]⟩
  · refine ⟨.osl n 0 0 0 5,(Gr.refl hfr).cons (Nat.le_refl _) _,⟨[],.inr ⟨n,rfl,From.at (Nat.le_refl _) (by rw [with_c,if_pos rfl]; rfl),rfl,λe he=>by cases he⟩,trivial⟩,by simp [updN,updE],by simp [updN,updE,envI],by simp [updN,updE]⟩
  · rintro - e1 mu1 n1 ⟨xe,g1,G,h3,h0,h4⟩
    rw [List.take_length] at G
    obtain ⟨-,-,zk,zm⟩:=G.len
    simp only [↓E1,E2,zA,zB,zC,zD,zE,zF,zG,zH,zI,zJ,zK,zL,zM,zN,reduceIte,zO,zP, *]
    refine Grow.more (R:=EntL) EntL.mono (a:=none) G g1.free g1.le (λj hj=>hfr.fz j hj) ((Gr.refl g1.free).cons (Nat.le_refl _) _) rfl ⟨rfl,rfl⟩ (by rw [List.length_map]; exact hf) (λmu3 g3 G3=>?_)
    simp only [↓E1,E2,zA,zB,zC,zD,zE,zF,zG,zH,zI,zJ,zK,zL,zM,zN,reduceIte,zO,zP,Option.map,List.length_map, *]
    rw [sliceOf_hi (by omega)]
    simp only [↓E1,E2,zA,zB,zC,zD,zE,zF,zG,zH,zI,zJ,zK,zL,zM,zN,reduceIte,zO,zP, *]
    refine hk _ _ _ (g1.trans (g3.weaken (by omega))) ⟨n1 + 1,rfl,?_⟩
    rw [List.length_map] at G3
    exact G3
  · rintro ⟨_,_,_,h⟩; cases h
theorem law0_LendLog (l : Lg) (x : SV) (hL : l.ents.length ≤ 2513169434910) (hb : ∀ e ∈ l.ents,e.batch.length ≤ 4398046511102) : Ctr P n_law0_LendLog [.ag (lgC l x)] (λM=>EntsR M x l.ents) (λn _ M v=>∃ id,v = .ag (lgC l (.osl id 0 l.ents.length (l.ents.length + 1) 5)) ∧ LentE n M id l.ents):=Ctr.of H.mx H.law0_LendLog (λ_=>0) λfz mu n k hfr s1 hk=>by
  obtain ⟨xl,xs,xk,xm⟩:=s1.len
  rw [i_law0_LendLog,dc_at b_law0_LendLog.eq_1]
  unfold lgC
  have gA : Gr n fz mu ((n + 1,[I 0,.str 0 0,.nsl]) :: (n,[I l.base,l.snap.sv,x]) :: mu) n (n + 1 + 1):=((Gr.refl hfr).cons (Nat.le_refl _) _).cons (by omega) _
  simp only [↓E1,E2,zA,zB,zC,zD,zE,zF,zG,zH,zI,zJ,zK,zL,zM,zN,reduceIte,zO,zP, *]
  refine (law0_LendEntries H x l.ents hL hb).c1 gA.free (EntsR.mono (λ_ _ hh=>gA.old hfr hh) s1) ?_
  rintro v mu2 n2 g2 ⟨id,rfl,hid⟩
  have b5 : Ev.look mu2 n = some [I l.base,l.snap.sv,x]:=(g2.own n (by omega)).trans (by simp [look_c])
  have b8 : Ev.look mu2 (n + 1) = some [I 0,.str 0 0,.nsl]:=(g2.own (n + 1) (by omega)).trans (by simp [look_c])
  have b7 : ∀ c,with' (putS mu2 n c) fz n = some c:=λc=>by rw [with_putS b5,if_pos rfl]
  have b9 : ∀ c,Ev.look (putS mu2 n c) (n + 1) = some [I 0,.str 0 0,.nsl]:=λc=>by rw [look_putS,if_neg (by omega)]; exact b8
  have b10 : ∀ c,with' (putS mu2 n c) fz (n + 1) = some [I 0,.str 0 0,.nsl]:=λc=>look_with (b9 c)
  have b11 : ∀ c d,with' (putS (putS mu2 n c) (n + 1) d) fz (n + 1) = some d:=λc d=>by rw [with_putS (b9 c),if_pos rfl]
  simp only [↓E1,E2,zA,zB,zC,zD,zE,zF,zG,zH,zI,zJ,zK,zL,zM,zN,reduceIte,zO,zP, *]
  have h1:=Grow.mono (R:=EntL) EntL.mono hid (From.put (d':=[I l.base,l.snap.sv,.osl id 0 l.ents.length (l.ents.length + 1) 5]) (by omega) b5)
  have h2:=Grow.mono (R:=EntL) EntL.mono h1 (From.put (d':=[I l.base,l.snap.sv,.osl id 0 l.ents.length (l.ents.length + 1) 5]) (by omega) (b9 _))
  exact hk _ _ _ (((gA.trans (g2.weaken (by omega))).put (Nat.le_refl _) b5).put (by omega) (b9 _)) ⟨id,rfl,Grow.weaken (R:=EntL) EntL.mono (by omega) h2⟩
end Go.Proofs.YtnnjlnkoomeadaaGreat.Pv
namespace Go.Proofs.YtnnjlnkoomeadaaGreat.Pv
open Go.Ev Go.Ev.Rp
set_option maxRecDepth 100000
set_option maxHeartbeats 4000000
set_option linter.unusedSimpArgs false
set_option linter.unusedVariables false
set_option linter.unusedSectionVars false
theorem Gr.two {fz : Fz} {mu mu' : St} {n n' lo : Nat} (h : Gr lo fz mu mu' n n') (hl : lo ≤ n') (a b : List SV) : Gr lo fz mu ((n',a) :: (n' + 1,b) :: mu') n (n' + 1 + 1) :=
  ((h.cons hl a).cons (Nat.le_succ_of_le hl) b).congr λid=>by
    simp only [look_cons]
    by_cases e : n' = id
    · subst e; simp
    · simp [e]
theorem LentE.raw {lo : Nat} {M : Fz} {id : Nat} {l : List Ent} (h : LentE lo M id l) {i : Nat} (hi : i < l.length + 1) : ∃ B c,M id = some B ∧ mkd B = false ∧ i * 5 + 5 ≤ B.length ∧ (B.drop (i * 5)).take 5 = c ∧ EntL M c ((l.map some ++ [none])[i]'(by simpa using hi)):=by
  obtain ⟨cs,h1,h2⟩:=h
  have hl : cs.length = (l.map some ++ [none]).length:=h2.length
  have hl' : cs.length = l.length + 1:=by simpa using hl
  obtain ⟨id',off,cap,B,g1,g2,g3,g4,g5⟩:=h1.to.elem (i:=i) (by omega)
  injection g1 with a b c d e
  subst a b
  have h3:=h2.at (i:=i) (by omega) (by simpa using hi)
  exact ⟨B,_,From.sub _ _ g2,g3,by omega,by rw [Nat.zero_add] at g5; exact g5,h3.mono (Ex.sub.trans From.sub)⟩
theorem LentE.elem {lo : Nat} {M : Fz} {id : Nat} {l : List Ent} (h : LentE lo M id l) {i : Nat} (hi : i < l.length) : ∃ B idp,M id = some B ∧ mkd B = false ∧ i * 5 + 5 ≤ B.length ∧ (B.drop (i * 5)).take 5 = entC l[i] (.osl idp 0 l[i].batch.length (l[i].batch.length + 2) 3) ∧ LentP M idp l[i].batch:=by
  obtain ⟨B,c,g1,g2,g3,g4,g5⟩:=h.raw (i:=i) (by omega)
  have e : ((l.map some ++ [none])[i]'(by simp; omega)) = some l[i]:=by
    rw [List.getElem_append_left (by simpa using hi),List.getElem_map]
  rw [e] at g5
  obtain ⟨idp,h1,h2⟩:=g5
  exact ⟨B,idp,g1,g2,g3,g4.trans h1,h2⟩
theorem LentE.last {lo : Nat} {M : Fz} {id : Nat} {l : List Ent} (h : LentE lo M id l) : ∃ B,M id = some B ∧ mkd B = false ∧ l.length * 5 + 5 ≤ B.length ∧ (B.drop (l.length * 5)).take 5 = [I 77777,I 0,I 0,I 0,.nsl]:=by
  obtain ⟨B,c,g1,g2,g3,g4,g5⟩:=h.raw (i:=l.length) (by omega)
  have e : ((l.map some ++ [none])[l.length]'(by simp)) = none:=by
    rw [List.getElem_append_right (by simp)]; simp
  rw [e] at g5
  exact ⟨B,g1,g2,g3,g4.trans g5⟩
variable {P : Program} (H : Fs P)
include H
theorem law0_KeptEntries (id lo : Nat) (y : SV) (l : List Ent) (hl : l.length ≤ 4611686018427387000) (hb : ∀ e ∈ l,e.batch.length ≤ 4611686018427387000) : BoolC P n_law0_KeptEntries [.one (.osl id 0 l.length (l.length + 1) 5),.one y] (λM=>LentE lo M id l ∧ EntsR M y l) true:=boolC H.mx H.law0_KeptEntries (l.length + 1) λfz mu n k hfr g0 hx h=>by
  obtain ⟨hx,hy⟩:=hx
  obtain ⟨yl,ys,yk,ym⟩:=hy.len
  obtain ⟨B,hB,hmk,hbd,hsub⟩:=hx.last
  have hw : IntKind.i64.wrap ((l.length : Int) + 1) = ((l.length + 1 : Nat) : Int):=by
    rw [wrap64 (by omega) (by omega)]; omega
  have n1 : l.length < l.length + 1:=by omega
  have hsub1 : List.take 1 (List.drop (l.length * 5) B) = [I 77777]:=by
    have : List.take 1 (List.take 5 (List.drop (l.length * 5) B)) = [I 77777]:=by rw [hsub]; rfl
    rwa [List.take_take] at this
  have hsub2 : List.take 1 (List.drop (l.length * 5 + 0) B) = [I 77777]:=hsub1
  have n2 : l.length * 5 + 1 ≤ B.length:=by omega
  have n3 : l.length * 5 < B.length:=by omega
  rw [i_law0_KeptEntries,dc_at b_law0_KeptEntries.eq_1]
  simp only [↓E1,E2,zA,zB,zC,zD,zE,zF,zG,zH,zI,zJ,zK,zL,zM,zN,reduceIte,zO,zP,Option.map, *]
  rw [sliceOf_hi (Nat.le_refl _)]
  simp only [↓E1,E2,zA,zB,zC,zD,zE,zF,zG,zH,zI,zJ,zK,zL,zM,zN,reduceIte,zO,zP, *]
  refine scan (x:=0) (L:=l.length) (q:=0) (r:=5) (p:=λi=>true) (λe mu n=>Free fz mu n ∧ LentE lo (with' mu fz) id l ∧ EntsR (with' mu fz) y l ∧ e 0 0 = .one (.osl id 0 l.length (l.length + 1) 5) ∧ e 0 1 = .one y) (λe=>True) (λ_ _ _ h=>h.1) ?_ ?_ l.length 0 (l.length + 1) _ mu n _ _ (by omega) (by omega) (by omega) ⟨hfr,hx,hy,?_,?_⟩ ?_ ?_ ?_
  · rintro i e mu n K hi ⟨hf,hx,hy,h0,h1⟩ hc hY hn
    have hx':=hx
    have hy':=hy
    obtain ⟨B2,idp,p1,p2,p3,p4,p5⟩:=hx.elem hi
    obtain ⟨id2,off2,cap2,B3,b,rfl,q1,q2,q3,q4,q5⟩:=hy.elem hi
    unfold entC at p4 q4
    have hw2:=wrap_succ hi (by omega)
    have hi2 : i < l.length + 1:=by omega
    obtain ⟨zl,zs,zk,zm⟩:=q5.len
    rw [dc_at l_law0_KeptEntries_0.eq_1]
    simp only [↓E1,E2,zA,zB,zC,zD,zE,zF,zG,zH,zI,zJ,zK,zL,zM,zN,reduceIte,zO,zP,h0,h1,hc,hi,hi2,p1,p2,p3,p4,q1,q2,q3,q4,hw2,zl,zs,zk,zm,yl,ys]
    have gA : Gr n fz mu ((n,[I l[i].view,I l[i].client,I l[i].session,I l[i].number,.osl idp 0 l[i].batch.length (l[i].batch.length + 2) 3]) :: (n + 1,[I l[i].view,I l[i].client,I l[i].session,I l[i].number,b]) :: mu) n (n + 1 + 1):=Gr.two (Gr.refl hf) (Nat.le_refl _) _ _
    refine (law0_KeptPoints H idp b l[i].batch (hb _ (List.getElem_mem hi))).c1 gA.free ⟨gA.sub hf (Nat.le_refl _) _ _ p5,q5.mono (λ_ _ hh=>gA.old hf hh)⟩ ?_
    rintro v mu2 n2 g2 rfl
    have gB:=gA.trans (g2.weaken (by omega))
    simp only [↓E1,E2,zA,zB,zC,zD,zE,zF,zG,zH,zI,zJ,zK,zL,zM,zN,reduceIte,zO,zP,h0,h1,hc,hi,hi2,hw2,zl,zs,zk,zm,yl,ys]
    refine hY rfl _ _ _ gB ⟨gB.free,?_,?_,by simp [updN,updE, *],by simp [updN,updE, *]⟩ (by simp [updN,updE, *])
    · exact Grow.mono (R:=EntL) EntL.mono hx (From.mono (gB.sub hf (Nat.le_refl _)))
    · exact EntsR.mono (λ_ _ hh=>gB.old hf hh) hy
  · rintro e mu n K ⟨hf,hx,hy,h0,h1⟩ hc hY
    rw [dc_at l_law0_KeptEntries_0.eq_1]
    have hlt : (l.length < l.length) = False:=by simp
    simp only [↓E1,E2,zA,zB,zC,zD,zE,zF,zG,zH,zI,zJ,zK,zL,zM,zN,reduceIte,zO,zP,h0,h1,hc,hlt,yl,ys]
    exact hY _ _ _ (Gr.refl hf) ⟨hf,hx,hy,by simp [updN,updE,h0],by simp [updN,updE,h1]⟩
  · simp [updN,updE,envI]
  · simp [updN,updE,envI]
  · simp [updN,updE]
  · intro ha e' mu' n' g hI
    simp only [↓E1,E2,zA,zB,zC,zD,zE,zF,zG,zH,zI,zJ,zK,zL,zM,zN,reduceIte,zO,zP]
    exact h _ _ g
  · rintro ⟨j,j1,j2,j3⟩
    cases j3
end Go.Proofs.YtnnjlnkoomeadaaGreat.Pv
namespace Go.Proofs.YtnnjlnkoomeadaaGreat.Pv
open Go.Ev Go.Ev.Rp
set_option maxRecDepth 100000
set_option maxHeartbeats 4000000
set_option linter.unusedSimpArgs false
set_option linter.unusedVariables false
set_option linter.unusedSectionVars false
structure LndLg (l : Lg) : Prop where
  ents : l.ents.length ≤ 2513169434910
  bat : ∀ e ∈ l.ents,e.batch.length ≤ 4398046511102
structure LndSz (r : Rep) : Prop where
  log : LndLg r.log
  acks : r.acks.length ≤ 17592186044413
  starts : r.starts.length ≤ 17592186044413
  dos : r.dos.length ≤ 1954687338267
  dlog : ∀ d ∈ r.dos,LndLg d.log
theorem LentE.up {lo : Nat} {M M' : Fz} {id : Nat} {l : List Ent} (h : LentE lo M id l) (hs : ∀ j B,lo ≤ j → M j = some B → M' j = some B) : LentE lo M' id l :=
  Grow.mono (R:=EntL) EntL.mono h λj B g=>From.at (From.lt g) (hs j B (From.lt g) (From.sub _ _ g))
theorem LentE.mono {lo : Nat} {M M' : Fz} {id : Nat} {l : List Ent} (hs : Sub M M') (h : LentE lo M id l) : LentE lo M' id l:=h.up λj B _ g=>hs j B g
def DvL (M : Fz) (c : List SV) (d : Dv) : Prop:=∃ id lo,c = dvC d (.osl id 0 d.log.ents.length (d.log.ents.length + 1) 5) ∧ LentE lo M id d.log.ents
theorem DvL.mono {M M' : Fz} {c : List SV} {d : Dv} (hs : Sub M M') (h : DvL M c d) : DvL M' c d:=by
  obtain ⟨id,lo,h1,h2⟩:=h; exact ⟨id,lo,h1,h2.mono hs⟩
structure LentR (M : Fz) (r : Rep) (ide ida ids : Nat) (xd : SV) : Prop where
  ents : ∃ lo,LentE lo M ide r.log.ents
  acks : LentI M ida r.acks
  starts : LentI M ids r.starts
  dos : ∃ lo,Grow lo M 6 DvL xd r.dos
theorem LentR.mono {M M' : Fz} {r : Rep} {ide ida ids : Nat} {xd : SV} (hs : Sub M M') (h : LentR M r ide ida ids xd) : LentR M' r ide ida ids xd:=by
  obtain ⟨⟨lo,h1⟩,h2,h3,lo',h4⟩:=h
  exact ⟨⟨lo,h1.mono hs⟩,hs _ _ h2,hs _ _ h3,lo',Grow.mono (R:=DvL) DvL.mono h4 (From.mono hs)⟩
variable {P : Program} (H : Fs P)
include H
theorem law0_LendReplica (r : Rep) (xe xa xs xd : SV) (hz : LndSz r) : Ctr P n_law0_LendReplica [.ag (repC r xe xa xs xd)] (λM=>RepS M r xe xa xs xd) (λn _ M v=>∃ ide ida ids xd',v = .ag (repC r (.osl ide 0 r.log.ents.length (r.log.ents.length + 1) 5) (.osl ida 0 r.acks.length (r.acks.length + 2) 1) (.osl ids 0 r.starts.length (r.starts.length + 2) 1) xd') ∧ LentR M r ide ida ids xd'):=Ctr.of H.mx H.law0_LendReplica (λ_=>r.dos.length + 1) λfz mu n k hfr s hk=>by
  obtain ⟨s1,s2,s3,s4⟩:=s
  obtain ⟨xel,xes,xek,xem⟩:=s1.len
  obtain ⟨xal,xas,xak,xam⟩:=s2.len
  obtain ⟨xsl,xss,xsk,xsm⟩:=s3.len
  obtain ⟨xdl,xds,xdk,xdm⟩:=s4.len
  have hE:=law0_LendLog H r.log xe hz.log.ents hz.log.bat
  unfold lgC at hE
  rw [i_law0_LendReplica,dc_at b_law0_LendReplica.eq_1]
  unfold repC
  simp only [↓E1,E2,zA,zB,zC,zD,zE,zF,zG,zH,zI,zJ,zK,zL,zM,zN,reduceIte,zO,zP, *]
  refine hE.c1 (gr2 hfr).free (EntsR.mono (sub2 hfr) s1) ?_
  rintro v mu1 n1 g1 ⟨ide,rfl,hG⟩
  have ga:=(gr2 hfr).trans (g1.weaken (by omega))
  have b1:=(g1.own n (by omega)).trans (by rw [look_c,if_neg (by omega),look_c,if_pos rfl])
  have b2:=(g1.own (n + 1) (by omega)).trans (by rw [look_c,if_pos rfl])
  have l1:=g1.le
  obtain ⟨muA,hA⟩ : ∃ m,m = putS mu1 n [I r.me,I r.nodes,I r.view,I r.normal,I r.status,I r.commit,.bool r.sent,I r.log.base,r.log.snap.sv,.osl ide 0 r.log.ents.length (r.log.ents.length + 1) 5,xa,xs,xd]:=⟨_,rfl⟩
  have gb : Gr n fz mu muA n n1:=by rw [hA]; exact ga.put (Nat.le_refl _) b1
  have c1 : Ev.look muA n = some [I r.me,I r.nodes,I r.view,I r.normal,I r.status,I r.commit,.bool r.sent,I r.log.base,r.log.snap.sv,.osl ide 0 r.log.ents.length (r.log.ents.length + 1) 5,xa,xs,xd]:=by rw [hA,look_putS,if_pos rfl,b1]; rfl
  have c2 : Ev.look muA (n + 1) = some [I 0,I 0,I 0,I 0,I 0,I 0,.bool false,I 0,.str 0 0,.nsl,.nsl,.nsl,.nsl]:=by rw [hA,look_putS,if_neg (by omega),b2]
  have hGA : LentE (n + 1 + 1) (with' muA fz) ide r.log.ents:=hG.up λj B hj g=>by rw [hA,with_putS b1,if_neg (by omega)]; exact g
  simp only [↓E1,E2,zA,zB,zC,zD,zE,zF,zG,zH,zI,zJ,zK,zL,zM,zN,reduceIte,zO,zP, *,with_putI,look_putS,Option.isSome_some,Option.map_some,List.append_assoc]
  rw [← hA]
  refine (law0_LendInts H xa r.acks hz.acks).c1 gb.free (IntsR.mono (gb.sub hfr (Nat.le_refl _)) s2) ?_
  rintro v mu2 n2 g2 ⟨ida,rfl,hida,hGa⟩
  have l2:=g2.le
  have b3:=(g2.own n (by omega)).trans c1
  have b4:=(g2.own (n + 1) (by omega)).trans c2
  have gc:=gb.trans (g2.weaken (by omega))
  obtain ⟨muB,hB⟩ : ∃ m,m = putS mu2 n [I r.me,I r.nodes,I r.view,I r.normal,I r.status,I r.commit,.bool r.sent,I r.log.base,r.log.snap.sv,.osl ide 0 r.log.ents.length (r.log.ents.length + 1) 5,.osl ida 0 r.acks.length (r.acks.length + 2) 1,xs,xd]:=⟨_,rfl⟩
  have gd : Gr n fz mu muB n n2:=by rw [hB]; exact gc.put (Nat.le_refl _) b3
  have c3 : Ev.look muB n = some [I r.me,I r.nodes,I r.view,I r.normal,I r.status,I r.commit,.bool r.sent,I r.log.base,r.log.snap.sv,.osl ide 0 r.log.ents.length (r.log.ents.length + 1) 5,.osl ida 0 r.acks.length (r.acks.length + 2) 1,xs,xd]:=by rw [hB,look_putS,if_pos rfl,b3]; rfl
  have c4 : Ev.look muB (n + 1) = some [I 0,I 0,I 0,I 0,I 0,I 0,.bool false,I 0,.str 0 0,.nsl,.nsl,.nsl,.nsl]:=by rw [hB,look_putS,if_neg (by omega),b4]
  have hGB : LentE (n + 1 + 1) (with' muB fz) ide r.log.ents:=hGA.up λj B hj g=>by rw [hB,with_putS b3,if_neg (by omega)]; exact g2.old gb.free g
  have hGa2 : LentI (with' muB fz) ida r.acks:=by unfold LentI; rw [hB,with_putS b3,if_neg (by omega)]; exact hGa
  simp only [↓E1,E2,zA,zB,zC,zD,zE,zF,zG,zH,zI,zJ,zK,zL,zM,zN,reduceIte,zO,zP, *,with_putI,look_putS,Option.isSome_some,Option.map_some,List.append_assoc]
  rw [← hB]
  refine (law0_LendInts H xs r.starts hz.starts).c1 gd.free (IntsR.mono (gd.sub hfr (Nat.le_refl _)) s3) ?_
  rintro v mu3 n3 g3 ⟨ids,rfl,hids,hGs⟩
  have l3:=g3.le
  have b5:=(g3.own n (by omega)).trans c3
  have b6:=(g3.own (n + 1) (by omega)).trans c4
  have ge:=gd.trans (g3.weaken (by omega))
  obtain ⟨muC,hC⟩ : ∃ m,m = putS mu3 n [I r.me,I r.nodes,I r.view,I r.normal,I r.status,I r.commit,.bool r.sent,I r.log.base,r.log.snap.sv,.osl ide 0 r.log.ents.length (r.log.ents.length + 1) 5,.osl ida 0 r.acks.length (r.acks.length + 2) 1,.osl ids 0 r.starts.length (r.starts.length + 2) 1,xd]:=⟨_,rfl⟩
  have gf : Gr n fz mu muC n n3:=by rw [hC]; exact ge.put (Nat.le_refl _) b5
  have c5 : Ev.look muC n = some [I r.me,I r.nodes,I r.view,I r.normal,I r.status,I r.commit,.bool r.sent,I r.log.base,r.log.snap.sv,.osl ide 0 r.log.ents.length (r.log.ents.length + 1) 5,.osl ida 0 r.acks.length (r.acks.length + 2) 1,.osl ids 0 r.starts.length (r.starts.length + 2) 1,xd]:=by rw [hC,look_putS,if_pos rfl,b5]; rfl
  have c6 : Ev.look muC (n + 1) = some [I 0,I 0,I 0,I 0,I 0,I 0,.bool false,I 0,.str 0 0,.nsl,.nsl,.nsl,.nsl]:=by rw [hC,look_putS,if_neg (by omega),b6]
  have hGC : LentE (n + 1 + 1) (with' muC fz) ide r.log.ents:=hGB.up λj B hj g=>by rw [hC,with_putS b5,if_neg (by omega)]; exact g3.old gd.free g
  have hGa3 : LentI (with' muC fz) ida r.acks:=by unfold LentI; rw [hC,with_putS b5,if_neg (by omega)]; exact g3.old gd.free hGa2
  have hGs3 : LentI (with' muC fz) ids r.starts:=by unfold LentI; rw [hC,with_putS b5,if_neg (by omega)]; exact hGs
  simp only [↓E1,E2,zA,zB,zC,zD,zE,zF,zG,zH,zI,zJ,zK,zL,zM,zN,reduceIte,zO,zP, *,with_putI,look_putS,Option.isSome_some,Option.map_some,List.append_assoc]
  rw [← hC]
  obtain ⟨muD,hD⟩ : ∃ m,m = putS muC n [I r.me,I r.nodes,I r.view,I r.normal,I r.status,I r.commit,.bool r.sent,I r.log.base,r.log.snap.sv,.osl ide 0 r.log.ents.length (r.log.ents.length + 1) 5,.osl ida 0 r.acks.length (r.acks.length + 2) 1,.osl ids 0 r.starts.length (r.starts.length + 2) 1,.nsl]:=⟨_,rfl⟩
  have gg : Gr n fz mu muD n n3:=by rw [hD]; exact gf.put (Nat.le_refl _) c5
  have c7 : Ev.look muD n = some [I r.me,I r.nodes,I r.view,I r.normal,I r.status,I r.commit,.bool r.sent,I r.log.base,r.log.snap.sv,.osl ide 0 r.log.ents.length (r.log.ents.length + 1) 5,.osl ida 0 r.acks.length (r.acks.length + 2) 1,.osl ids 0 r.starts.length (r.starts.length + 2) 1,.nsl]:=by rw [hD,look_putS,if_pos rfl,c5]; rfl
  have c8 : Ev.look muD (n + 1) = some [I 0,I 0,I 0,I 0,I 0,I 0,.bool false,I 0,.str 0 0,.nsl,.nsl,.nsl,.nsl]:=by rw [hD,look_putS,if_neg (by omega),c6]
  have hGD : LentE (n + 1 + 1) (with' muD fz) ide r.log.ents:=hGC.up λj B hj g=>by rw [hD,with_putS c5,if_neg (by omega)]; exact g
  have hGa4 : LentI (with' muD fz) ida r.acks:=by unfold LentI; rw [hD,with_putS c5,if_neg (by omega)]; exact hGa3
  have hGs4 : LentI (with' muD fz) ids r.starts:=by unfold LentI; rw [hD,with_putS c5,if_neg (by omega)]; exact hGs3
  rw [← hD]
  clear hGC hGa3 hGs3 hGB hGa2 hGA hGs hGa hG ga gb gc gd ge gf c1 c2 c3 c4 c5 c6 b1 b2 b3 b4 b5 b6 g1 g2 g3 hE hA hB hC hD
  refine loopI (x:=0) (L:=r.dos.length) (p:=λ_=>true) (λi e mu' n'=>∃ xq,Gr n fz mu mu' n n' ∧ n3 ≤ n' ∧ Ev.look mu' n = some [I r.me,I r.nodes,I r.view,I r.normal,I r.status,I r.commit,.bool r.sent,I r.log.base,r.log.snap.sv,.osl ide 0 r.log.ents.length (r.log.ents.length + 1) 5,.osl ida 0 r.acks.length (r.acks.length + 2) 1,.osl ids 0 r.starts.length (r.starts.length + 2) 1,xq] ∧ Ev.look mu' (n + 1) = some [I 0,I 0,I 0,I 0,I 0,I 0,.bool false,I 0,.str 0 0,.nsl,.nsl,.nsl,.nsl] ∧ (∀ j,j < n3 → j ≠ n → with' mu' fz j = with' muD fz j) ∧ Grow n3 (with' mu' fz) 6 DvL xq (r.dos.take i) ∧ e 0 1 = .one (.optr n 0) ∧ e 0 2 = .one (.optr (n + 1) 0) ∧ e 0 3 = .one xd ∧ e 0 4 = .one (.int .i64 i)) (λ_ _ _=>False) ?_ ?_ _ _ _ _ _ (by omega) ?_ ?_ ?_
  · rintro i e mu1 n1 K hi ⟨xq,g1,a0,a1,a2,a3,G,h1,h2,h3,h4⟩ hy hn
    have hw:=wrap_succ hi (by have:=hz.dos; omega)
    obtain ⟨id,off,cap,B,x,rfl,hB,hmk,hbd,hsub,s5⟩:=(DvsR.mono (λ_ _ hh=>g1.old hfr hh) s4).elem hi
    obtain ⟨yl,ys,yk,ym⟩:=s5.len
    obtain ⟨-,-,zk,zm⟩:=G.len
    have hno : ∀ c,with' ((n1,c) :: mu1) fz id = some B:=λc=>by rw [with_c,if_neg (by have:=g1.free.lt hB; omega)]; exact hB
    unfold dvC at hsub
    have hL:=law0_LendLog H r.dos[i].log x (hz.dlog _ (List.getElem_mem hi)).ents (hz.dlog _ (List.getElem_mem hi)).bat
    unfold lgC at hL
    have b1:=look_with (fz:=fz) a1
    have b2:=look_with (fz:=fz) a2
    rw [dc_at l_law0_LendReplica_0.eq_1]
    simp only [↓E1,E2,zA,zB,zC,zD,zE,zF,zG,zH,zI,zJ,zK,zL,zM,zN,reduceIte,zO,zP, *]
    have gA : Gr n1 fz mu1 ((n1,[I r.dos[i].frm,I r.dos[i].normal,I r.dos[i].commit,I r.dos[i].log.base,r.dos[i].log.snap.sv,x]) :: mu1) n1 (n1 + 1):=(Gr.refl g1.free).cons (Nat.le_refl _) _
    refine hL.c1 gA.free (EntsR.mono (λ_ _ hh=>gA.old g1.free hh) s5) ?_
    rintro v mu2 n2 g2 ⟨idl,rfl,hl⟩
    have hle:=g2.le
    have d1 : Ev.look mu2 n1 = some [I r.dos[i].frm,I r.dos[i].normal,I r.dos[i].commit,I r.dos[i].log.base,r.dos[i].log.snap.sv,x]:=(g2.own n1 (by omega)).trans own_at
    have d2 : Ev.look mu2 n = some [I r.me,I r.nodes,I r.view,I r.normal,I r.status,I r.commit,.bool r.sent,I r.log.base,r.log.snap.sv,.osl ide 0 r.log.ents.length (r.log.ents.length + 1) 5,.osl ida 0 r.acks.length (r.acks.length + 2) 1,.osl ids 0 r.starts.length (r.starts.length + 2) 1,xq]:=(g2.own n (by omega)).trans (by rw [look_c,if_neg (by omega)]; exact a1)
    obtain ⟨muE,hE⟩ : ∃ m,putS mu2 n1 [I r.dos[i].frm,I r.dos[i].normal,I r.dos[i].commit,I r.dos[i].log.base,r.dos[i].log.snap.sv,.osl idl 0 r.dos[i].log.ents.length (r.dos[i].log.ents.length + 1) 5] = m:=⟨_,rfl⟩
    have gC : Gr n1 fz mu1 muE n1 n2:=by rw [← hE]; exact (gA.trans (g2.weaken (by omega))).put (Nat.le_refl _) d1
    have e1 : Ev.look muE n1 = some [I r.dos[i].frm,I r.dos[i].normal,I r.dos[i].commit,I r.dos[i].log.base,r.dos[i].log.snap.sv,.osl idl 0 r.dos[i].log.ents.length (r.dos[i].log.ents.length + 1) 5]:=by rw [← hE,look_putS,if_pos rfl,d1]; rfl
    have e2 : Ev.look muE n = some [I r.me,I r.nodes,I r.view,I r.normal,I r.status,I r.commit,.bool r.sent,I r.log.base,r.log.snap.sv,.osl ide 0 r.log.ents.length (r.log.ents.length + 1) 5,.osl ida 0 r.acks.length (r.acks.length + 2) 1,.osl ids 0 r.starts.length (r.starts.length + 2) 1,xq]:=by rw [← hE,look_putS,if_neg (by omega)]; exact d2
    have e3:=look_with (fz:=fz) e1
    have e4:=look_with (fz:=fz) e2
    have hl2 : LentE (n1 + 1) (with' muE fz) idl r.dos[i].log.ents:=hl.up λj B hj g=>by rw [← hE,with_putS d1,if_neg (by omega)]; exact g
    simp only [↓E1,E2,zA,zB,zC,zD,zE,zF,zG,zH,zI,zJ,zK,zL,zM,zN,reduceIte,zO,zP, *,Option.isSome_some,Option.map_some,List.append_assoc]
    have hli : (r.dos.take i).length = i:=by rw [List.length_take]; omega
    refine Grow.more (R:=DvL) DvL.mono (a:=r.dos[i]) G g1.free a0 (λj hj=>hfr.fz j (by omega)) (gC.cons (by omega) _) ⟨idl,n1 + 1,rfl,?_⟩ ⟨rfl,rfl⟩ (by rw [hli]; have h9:=hz.dos; exact fits_le (by omega) (by decide) (by decide)) (λmu3 g3 G3=>?_)
    · exact hl2.up λj B hj g=>From.at (by omega) (by rw [with_c,if_neg (by have:=gC.free.lt g; omega)]; exact g)
    · rw [hli] at G3 ⊢
      have f1:=(g3.own n (by omega)).trans a1
      have f2:=(g3.own (n + 1) (by omega)).trans a2
      have f3:=look_with (fz:=fz) f1
      simp only [↓E1,E2,zA,zB,zC,zD,zE,zF,zG,zH,zI,zJ,zK,zL,zM,zN,reduceIte,zO,zP, *,with_putI,look_putS,Option.isSome_some,Option.map_some,List.append_assoc]
      refine hy rfl _ _ _ ⟨.osl (n2 + 1) 0 (i + 1) (i + 1) 6,(g1.trans (g3.weaken (by omega))).put (Nat.le_refl _) f1,by omega,by rw [look_putS,if_pos rfl,f1]; rfl,by rw [look_putS,if_neg (by omega),f2],λj hj hn=>?_,?_,by simp [updN,updE, *],by simp [updN,updE, *],by simp [updN,updE, *],by simp [updN,updE, *]⟩
      · rw [with_putS f1,if_neg (λh=>hn h.symm),g3.ext j hj]; exact a3 j hj hn
      · rw [List.take_add_one,List.getElem?_eq_getElem hi]
        exact Grow.mono (R:=DvL) DvL.mono G3 (From.put (by omega) f1)
  · rintro e mu1 n1 K ⟨xq,g1,a0,a1,a2,a3,G,h1,h2,h3,h4⟩ hx
    rw [dc_at l_law0_LendReplica_0.eq_1]
    have hlt : (r.dos.length < r.dos.length) = False:=by simp
    simp only [↓E1,E2,zA,zB,zC,zD,zE,zF,zG,zH,zI,zJ,zK,zL,zM,zN,reduceIte,zO,zP, *]
    exact hx _ _ _ ⟨xq,g1,a0,a1,a2,a3,G,by simp [updN,updE,h1],by simp [updN,updE,h2],by simp [updN,updE,h3],by simp [updN,updE,h4]⟩
  · refine ⟨.nsl,gg,Nat.le_refl _,c7,c8,λ_ _ _=>rfl,Grow.nil,by simp [updN,updE],by simp [updN,updE],by simp [updN,updE],by simp [updN,updE]⟩
  · rintro - e1 mu1 n1 ⟨xq,g1,a0,a1,a2,a3,G,h1,h2,h3,h4⟩
    rw [List.take_length] at G
    obtain ⟨-,-,zk,zm⟩:=G.len
    have b1:=look_with (fz:=fz) a1
    have b2:=look_with (fz:=fz) a2
    simp only [↓E1,E2,zA,zB,zC,zD,zE,zF,zG,zH,zI,zJ,zK,zL,zM,zN,reduceIte,zO,zP, *,with_putI,look_putS,Option.isSome_some,Option.map_some,List.append_assoc]
    refine hk _ _ _ (g1.put (id:=n + 1) (by omega) a2) ⟨ide,ida,ids,xq,rfl,⟨⟨n + 1 + 1,hGD.up λj B hj g=>?_⟩,?_,?_,n3,Grow.mono (R:=DvL) DvL.mono G (From.put (by omega) a2)⟩⟩
    · rw [with_putS a2,if_neg (by omega),a3 j (gg.free.lt g) (by omega)]; exact g
    · unfold LentI; rw [with_putS a2,if_neg (by omega),a3 ida (gg.free.lt hGa4) (by omega)]; exact hGa4
    · unfold LentI; rw [with_putS a2,if_neg (by omega),a3 ids (gg.free.lt hGs4) (by omega)]; exact hGs4
  · rintro ⟨_,_,_,h⟩; cases h
end Go.Proofs.YtnnjlnkoomeadaaGreat.Pv
namespace Go.Proofs.YtnnjlnkoomeadaaGreat.Pv
open Go.Ev Go.Ev.Rp
set_option maxRecDepth 100000
set_option maxHeartbeats 4000000
set_option linter.unusedSimpArgs false
set_option linter.unusedVariables false
set_option linter.unusedSectionVars false
theorem sub_at {B c : List SV} {a s j m : Nat} (h : (B.drop a).take s = c) (hm : j + m ≤ s) : (B.drop (a + j)).take m = (c.drop j).take m:=by
  subst h
  rw [← List.drop_drop,List.drop_take,List.take_take,Nat.min_eq_left (by omega)]
theorem LentD.elem {lo : Nat} {M : Fz} {x : SV} {l : List Dv} (h : Grow lo M 6 DvL x l) {i : Nat} (hi : i < l.length) : ∃ id off cap B idl lo',x = .osl id off l.length cap 6 ∧ M id = some B ∧ mkd B = false ∧ off + i * 6 + 6 ≤ B.length ∧ (B.drop (off + i * 6)).take 6 = dvC l[i] (.osl idl 0 l[i].log.ents.length (l[i].log.ents.length + 1) 5) ∧ LentE lo' M idl l[i].log.ents:=by
  obtain ⟨cs,h1,h2⟩:=h
  have hl : cs.length = l.length:=h2.length
  obtain ⟨id',off,cap,B,g1,g2,g3,g4,g5⟩:=h1.to.elem (i:=i) (by omega)
  obtain ⟨idl,lo',e1,e2⟩:=h2.at (i:=i) (by omega) hi
  rw [hl] at g1
  exact ⟨id',off,cap,B,idl,lo',g1,From.sub _ _ g2,g3,g4,g5.trans e1,e2.mono (Ex.sub.trans From.sub)⟩
variable {P : Program} (H : Fs P)
include H
theorem law0_KeptLog (l : Lg) (id lo : Nat) (y : SV) (hz : LndLg l) : BoolC P n_law0_KeptLog [.ag (lgC l (.osl id 0 l.ents.length (l.ents.length + 1) 5)),.ag (lgC l y)] (λM=>LentE lo M id l.ents ∧ EntsR M y l.ents) true:=boolC H.mx H.law0_KeptLog 0 λfz mu n k hfr g0 hx h=>by
  obtain ⟨hx,hy⟩:=hx
  obtain ⟨yl,ys,yk,ym⟩:=hy.len
  obtain ⟨s1,s2⟩:=hz
  have hse : strEq l.snap.l l.snap.n l.snap.l l.snap.n = true:=(strEq_iff ..).2 ⟨rfl,rfl⟩
  have gA : Gr n fz mu ((n + 1,lgC l y) :: (n,lgC l (.osl id 0 l.ents.length (l.ents.length + 1) 5)) :: mu) n (n + 1 + 1):=gr2 hfr
  rw [i_law0_KeptLog,dc_at b_law0_KeptLog.eq_1]
  unfold lgC at *
  simp only [↓E1,E2,zA,zB,zC,zD,zE,zF,zG,zH,zI,zJ,zK,zL,zM,zN,reduceIte,zO,zP, *]
  refine (law0_KeptEntries H id lo y l.ents (by omega) (λe he=>by have:=s2 e he; omega)).c1 gA.free ⟨hx.mono (gA.sub hfr (Nat.le_refl _)),EntsR.mono (λ_ _ hh=>gA.old hfr hh) hy⟩ ?_
  rintro v mu2 n2 g2 rfl
  simp only [↓E1,E2,zA,zB,zC,zD,zE,zF,zG,zH,zI,zJ,zK,zL,zM,zN,reduceIte,zO,zP, *]
  exact h _ _ (gA.trans (g2.weaken (by omega)))
theorem law0_KeptReplica (r : Rep) (ide ida ids : Nat) (xd' xe xa xs xd : SV) (hz : LndSz r) : BoolC P n_law0_KeptReplica [.ag (repC r (.osl ide 0 r.log.ents.length (r.log.ents.length + 1) 5) (.osl ida 0 r.acks.length (r.acks.length + 2) 1) (.osl ids 0 r.starts.length (r.starts.length + 2) 1) xd'),.ag (repC r xe xa xs xd)] (λM=>LentR M r ide ida ids xd' ∧ RepS M r xe xa xs xd) true:=boolC H.mx H.law0_KeptReplica (r.dos.length + 1) λfz mu n k hfr g0 hx h=>by
  obtain ⟨⟨⟨lo,t1⟩,t2,t3,lo',t4⟩,s1,s2,s3,s4⟩:=hx
  obtain ⟨xel,xes,xek,xem⟩:=s1.len
  obtain ⟨xal,xas,xak,xam⟩:=s2.len
  obtain ⟨xsl,xss,xsk,xsm⟩:=s3.len
  obtain ⟨xdl,xds,xdk,xdm⟩:=s4.len
  obtain ⟨zdl,zds,zdk,zdm⟩:=t4.len
  obtain ⟨z1,z2,z3,z4,z5⟩:=hz
  have hE:=law0_KeptLog H r.log ide lo xe z1
  unfold lgC at hE
  rw [i_law0_KeptReplica,dc_at b_law0_KeptReplica.eq_1]
  have gA : Gr n fz mu ((n + 1,repC r xe xa xs xd) :: (n,repC r (.osl ide 0 r.log.ents.length (r.log.ents.length + 1) 5) (.osl ida 0 r.acks.length (r.acks.length + 2) 1) (.osl ids 0 r.starts.length (r.starts.length + 2) 1) xd') :: mu) n (n + 1 + 1):=gr2 hfr
  have u:=gA.sub hfr (Nat.le_refl _)
  unfold repC at *
  simp only [↓E1,E2,zA,zB,zC,zD,zE,zF,zG,zH,zI,zJ,zK,zL,zM,zN,reduceIte,zO,zP, *]
  refine hE.c1 gA.free ⟨t1.mono u,EntsR.mono u s1⟩ ?_
  rintro v mu1 n1 g1 rfl
  have b1:=(g1.own n (by omega)).trans (by rw [look_c,if_neg (by omega),look_c,if_pos rfl])
  have b2:=(g1.own (n + 1) (by omega)).trans (by rw [look_c,if_pos rfl])
  have w1:=look_with (fz:=fz) b1
  have w2:=look_with (fz:=fz) b2
  have gB:=gA.trans (g1.weaken (by omega))
  have u:=gB.sub hfr (Nat.le_refl _)
  simp only [↓E1,E2,zA,zB,zC,zD,zE,zF,zG,zH,zI,zJ,zK,zL,zM,zN,reduceIte,zO,zP, *]
  refine (law0_KeptInts H ida xa r.acks (by omega)).c1 gB.free ⟨u _ _ t2,IntsR.mono u s2⟩ ?_
  rintro v mu2 n2 g2 rfl
  have l1:=g1.le
  replace b1:=(g2.own n (by omega)).trans b1
  replace b2:=(g2.own (n + 1) (by omega)).trans b2
  replace w1:=look_with (fz:=fz) b1
  replace w2:=look_with (fz:=fz) b2
  replace gB:=gB.trans (g2.weaken (by omega))
  replace u:=gB.sub hfr (Nat.le_refl _)
  simp only [↓E1,E2,zA,zB,zC,zD,zE,zF,zG,zH,zI,zJ,zK,zL,zM,zN,reduceIte,zO,zP, *]
  refine (law0_KeptInts H ids xs r.starts (by omega)).c1 gB.free ⟨u _ _ t3,IntsR.mono u s3⟩ ?_
  rintro v mu3 n3 g3 rfl
  have l2:=g2.le
  replace b1:=(g3.own n (by omega)).trans b1
  replace b2:=(g3.own (n + 1) (by omega)).trans b2
  replace w1:=look_with (fz:=fz) b1
  replace w2:=look_with (fz:=fz) b2
  replace gB:=gB.trans (g3.weaken (by omega))
  have l3:=g3.le
  simp only [↓E1,E2,zA,zB,zC,zD,zE,zF,zG,zH,zI,zJ,zK,zL,zM,zN,reduceIte,zO,zP, *]
  refine scan (x:=0) (L:=r.dos.length) (q:=0) (r:=5) (p:=λ_=>true) (λe mu' n'=>Gr n fz mu mu' n n' ∧ n + 1 + 1 ≤ n' ∧ Ev.look mu' n = some [I r.me,I r.nodes,I r.view,I r.normal,I r.status,I r.commit,.bool r.sent,I r.log.base,r.log.snap.sv,.osl ide 0 r.log.ents.length (r.log.ents.length + 1) 5,.osl ida 0 r.acks.length (r.acks.length + 2) 1,.osl ids 0 r.starts.length (r.starts.length + 2) 1,xd'] ∧ Ev.look mu' (n + 1) = some [I r.me,I r.nodes,I r.view,I r.normal,I r.status,I r.commit,.bool r.sent,I r.log.base,r.log.snap.sv,xe,xa,xs,xd] ∧ e 0 2 = .one (.optr n 0) ∧ e 0 3 = .one (.optr (n + 1) 0)) (λe=>True) (λ_ _ _ h=>h.1.free) ?_ ?_ r.dos.length 0 (r.dos.length + 1) _ _ _ _ _ (by omega) (by omega) (by omega) ⟨gB,by omega,b1,b2,?_,?_⟩ ?_ ?_ ?_
  · rintro i e mu4 n4 K hi ⟨g4,a0,a1,a2,e2,e3⟩ hc hY hn
    have u4:=g4.sub hfr (Nat.le_refl _)
    have hw:=wrap_succ hi (by omega)
    obtain ⟨id,off,cap,B,idl,lo2,rfl,p1,p2,p3,p4,p5⟩:=LentD.elem (Grow.mono (R:=DvL) DvL.mono t4 (From.mono u4)) hi
    obtain ⟨id2,off2,cap2,B3,b,rfl,q1,q2,q3,q4,q5⟩:=(DvsR.mono u4 s4).elem hi
    obtain ⟨yl,ys,yk,ym⟩:=q5.len
    have w1:=look_with (fz:=fz) a1
    have w2:=look_with (fz:=fz) a2
    have hL:=law0_KeptLog H r.dos[i].log idl lo2 b (z5 _ (List.getElem_mem hi))
    unfold lgC at hL
    unfold dvC at p4 q4
    have p6 : off + i * 6 + 0 + 1 ≤ B.length:=by omega
    have q6 : off2 + i * 6 + 0 + 1 ≤ B3.length:=by omega
    have p7 : off + i * 6 + 3 + 3 ≤ B.length:=by omega
    have q7 : off2 + i * 6 + 3 + 3 ≤ B3.length:=by omega
    have p8:=sub_at (j:=0) (m:=1) p4 (by omega)
    have q8:=sub_at (j:=0) (m:=1) q4 (by omega)
    have p9:=sub_at (j:=3) (m:=3) p4 (by omega)
    have q9:=sub_at (j:=3) (m:=3) q4 (by omega)
    simp only [List.drop_zero,List.drop_succ_cons,List.take_succ_cons,List.take_zero] at p8 q8 p9 q9
    rw [dc_at l_law0_KeptReplica_0.eq_1]
    simp only [↓E1,E2,zA,zB,zC,zD,zE,zF,zG,zH,zI,zJ,zK,zL,zM,zN,reduceIte,zO,zP, *]
    refine hL.d2 g4.free ⟨p5,q5⟩ ?_
    rintro v new n5 g5 rfl
    have b1:=(g5.own n (by omega)).trans a1
    have b2:=(g5.own (n + 1) (by omega)).trans a2
    have l5:=g5.le
    simp only [↓E1,E2,zA,zB,zC,zD,zE,zF,zG,zH,zI,zJ,zK,zL,zM,zN,reduceIte,zO,zP, *]
    exact hY rfl _ _ _ g5 ⟨g4.trans (g5.weaken (by omega)),by omega,b1,b2,by simp [updN,updE, *],by simp [updN,updE, *]⟩ (by simp [updN,updE, *])
  · rintro e mu4 n4 K ⟨g4,a0,a1,a2,e2,e3⟩ hc hY
    rw [dc_at l_law0_KeptReplica_0.eq_1]
    have hlt : (r.dos.length < r.dos.length) = False:=by simp
    have w1:=look_with (fz:=fz) a1
    have w2:=look_with (fz:=fz) a2
    simp only [↓E1,E2,zA,zB,zC,zD,zE,zF,zG,zH,zI,zJ,zK,zL,zM,zN,reduceIte,zO,zP, *]
    exact hY _ _ _ (Gr.refl g4.free) ⟨g4,a0,a1,a2,by simp [updN,updE,e2],by simp [updN,updE,e3]⟩
  · simp [updN,updE,envI]
  · simp [updN,updE,envI]
  · simp [updN,updE]
  · rintro ha e' mu' n' g ⟨g4,a0,a1,a2,e2,e3⟩
    have w1:=look_with (fz:=fz) a1
    have w2:=look_with (fz:=fz) a2
    simp only [↓E1,E2,zA,zB,zC,zD,zE,zF,zG,zH,zI,zJ,zK,zL,zM,zN,reduceIte,zO,zP, *]
    try exact h _ _ g4
  · rintro ⟨j,j1,j2,j3⟩
    cases j3
end Go.Proofs.YtnnjlnkoomeadaaGreat.Pv
namespace Go.Proofs.YtnnjlnkoomeadaaGreat.Pv
open Go.Ev Go.Ev.Rp
set_option maxRecDepth 100000
set_option maxHeartbeats 4000000
set_option linter.unusedSimpArgs false
set_option linter.unusedVariables false
set_option linter.unusedSectionVars false
variable {P : Program} (H : Fs P)
include H
theorem ref1_SamePoints (x y : SV) (l : List Pt) (hl : l.length ≤ 4611686018427387904) : BoolC P n_ref1_SamePoints [.one x,.one y] (λM=>PtsR M x l ∧ PtsR M y l) true:=boolC H.mx H.ref1_SamePoints (l.length + 1) λfz mu n k hfr g0 hx h=>by
  obtain ⟨hx,hy⟩:=hx
  obtain ⟨xl,xs,xk,xm⟩:=hx.len
  obtain ⟨yl,ys,yk,ym⟩:=hy.len
  rw [i_ref1_SamePoints,dc_at b_ref1_SamePoints.eq_1]
  simp only [↓E1,E2,zA,zB,zC,zD,zE,zF,zG,zH,zI,zJ,zK,zL,zM,zN,reduceIte,zO,zP,xl,xs,yl,ys]
  refine scan (x:=0) (L:=l.length) (q:=0) (r:=5) (p:=λi=>true) (λe mu n=>Free fz mu n ∧ PtsR (with' mu fz) x l ∧ PtsR (with' mu fz) y l ∧ e 0 0 = .one x ∧ e 0 1 = .one y) (λe=>True) (λ_ _ _ h=>h.1) ?_ ?_ l.length 0 (l.length + 1) _ mu n _ _ (by omega) (by omega) (by omega) ⟨hfr,hx,hy,?_,?_⟩ ?_ ?_ ?_
  · rintro i e mu n K hi ⟨hf,hx,hy,h0,h1⟩ hc hY hn
    have hx':=hx
    have hy':=hy
    obtain ⟨id,off,cap,B,rfl,hB,hmk,hbd,hsub⟩:=hx.elem hi
    obtain ⟨id2,off2,cap2,B2,rfl,hB2,hmk2,hbd2,hsub2⟩:=hy.elem hi
    rw [dc_at l_ref1_SamePoints_0.eq_1]
    have hw:=wrap_succ hi hl
    simp only [↓E1,E2,zA,zB,zC,zD,zE,zF,zG,zH,zI,zJ,zK,zL,zM,zN,reduceIte,zO,zP,h0,h1,hc,hi,hB,hmk,hbd,hsub,hB2,hmk2,hbd2,hsub2,hw,eq_pt]
    exact hY rfl _ _ _ (Gr.refl hf) ⟨hf,hx',hy',by simp [updN,updE,h0],by simp [updN,updE,h1]⟩ (by simp [updN,updE])
  · rintro e mu n K ⟨hf,hx,hy,h0,h1⟩ hc hY
    rw [dc_at l_ref1_SamePoints_0.eq_1]
    have hlt : (l.length < l.length) = False:=by simp
    simp only [↓E1,E2,zA,zB,zC,zD,zE,zF,zG,zH,zI,zJ,zK,zL,zM,zN,reduceIte,zO,zP,h0,h1,hc,hlt,xl,xs]
    exact hY _ _ _ (Gr.refl hf) ⟨hf,hx,hy,by simp [updN,updE,h0],by simp [updN,updE,h1]⟩
  · simp [updN,updE,envI]
  · simp [updN,updE,envI]
  · simp [updN,updE]
  · intro ha e' mu' n' g hI
    simp only [↓E1,E2,zA,zB,zC,zD,zE,zF,zG,zH,zI,zJ,zK,zL,zM,zN,reduceIte,zO,zP]
    exact h _ _ g
  · rintro ⟨j,j1,j2,j3⟩
    cases j3
theorem ref4_SameEntry (e : Ent) (x y : SV) (hb : e.batch.length ≤ 4398046511104) : BoolC P n_ref4_SameEntry [.ag (entC e x),.ag (entC e y)] (λM=>PtsR M x e.batch ∧ PtsR M y e.batch) true:=boolC H.mx H.ref4_SameEntry 0 λfz mu n k hfr g0 hx h=>by
  obtain ⟨hx,hy⟩:=hx
  obtain ⟨xl,xs,xk,xm⟩:=hx.len
  obtain ⟨yl,ys,yk,ym⟩:=hy.len
  have gA : Gr n fz mu ((n + 1,entC e y) :: (n,entC e x) :: mu) n (n + 1 + 1):=gr2 hfr
  have u:=gA.sub hfr (Nat.le_refl _)
  rw [i_ref4_SameEntry,dc_at b_ref4_SameEntry.eq_1]
  unfold entC at *
  simp only [↓E1,E2,zA,zB,zC,zD,zE,zF,zG,zH,zI,zJ,zK,zL,zM,zN,reduceIte,zO,zP, *]
  refine (ref1_SamePoints H x y e.batch (by omega)).c1 gA.free ⟨PtsR.mono u hx,PtsR.mono u hy⟩ ?_
  rintro v mu2 n2 g2 rfl
  simp only [↓E1,E2,zA,zB,zC,zD,zE,zF,zG,zH,zI,zJ,zK,zL,zM,zN,reduceIte,zO,zP, *]
  exact h _ _ (gA.trans (g2.weaken (by omega)))
theorem ref4_SameLog (l : Lg) (x y : SV) (hz : LgSz l) : BoolC P n_ref4_SameLog [.ag (lgC l x),.ag (lgC l y)] (λM=>EntsR M x l.ents ∧ EntsR M y l.ents) true:=boolC H.mx H.ref4_SameLog (l.ents.length + 1) λfz mu n k hfr g0 hx h=>by
  obtain ⟨s1,s2⟩:=hx
  obtain ⟨z1,z2⟩:=hz
  obtain ⟨xl,xs,xk,xm⟩:=s1.len
  obtain ⟨yl,ys,yk,ym⟩:=s2.len
  have hse : strEq l.snap.l l.snap.n l.snap.l l.snap.n = true:=(strEq_iff ..).2 ⟨rfl,rfl⟩
  have gB : Gr n fz mu ((n + 1,lgC l y) :: (n,lgC l x) :: mu) n (n + 1 + 1):=gr2 hfr
  have b1 : Ev.look ((n + 1,lgC l y) :: (n,lgC l x) :: mu) n = some (lgC l x):=by rw [look_c,if_neg (by omega),look_c,if_pos rfl]
  have b2 : Ev.look ((n + 1,lgC l y) :: (n,lgC l x) :: mu) (n + 1) = some (lgC l y):=by rw [look_c,if_pos rfl]
  rw [i_ref4_SameLog,dc_at b_ref4_SameLog.eq_1]
  unfold lgC at *
  simp only [↓E1,E2,zA,zB,zC,zD,zE,zF,zG,zH,zI,zJ,zK,zL,zM,zN,reduceIte,zO,zP, *]
  refine scan (x:=0) (L:=l.ents.length) (q:=0) (r:=5) (p:=λ_=>true) (λe mu' n'=>Gr n fz mu mu' n n' ∧ n + 1 + 1 ≤ n' ∧ Ev.look mu' n = some [I l.base,l.snap.sv,x] ∧ Ev.look mu' (n + 1) = some [I l.base,l.snap.sv,y] ∧ e 0 2 = .one (.optr n 0) ∧ e 0 3 = .one (.optr (n + 1) 0)) (λe=>True) (λ_ _ _ h=>h.1.free) ?_ ?_ l.ents.length 0 (l.ents.length + 1) _ _ _ _ _ (by omega) (by omega) (by omega) ⟨gB,by omega,b1,b2,?_,?_⟩ ?_ ?_ ?_
  · rintro i e mu4 n4 K hi ⟨g4,a0,a1,a2,e2,e3⟩ hc hY hn
    have u4:=g4.sub hfr (Nat.le_refl _)
    have hw:=wrap_succ hi (by omega)
    obtain ⟨id,off,cap,B,a,rfl,p1,p2,p3,p4,p5⟩:=(EntsR.mono u4 s1).elem hi
    obtain ⟨id2,off2,cap2,B3,b,rfl,q1,q2,q3,q4,q5⟩:=(EntsR.mono u4 s2).elem hi
    have w1:=look_with (fz:=fz) a1
    have w2:=look_with (fz:=fz) a2
    have hL:=ref4_SameEntry H l.ents[i] a b (z2 _ (List.getElem_mem hi))
    unfold entC at p4 q4 hL
    rw [dc_at l_ref4_SameLog_0.eq_1]
    simp only [↓E1,E2,zA,zB,zC,zD,zE,zF,zG,zH,zI,zJ,zK,zL,zM,zN,reduceIte,zO,zP, *]
    refine hL.d2 g4.free ⟨p5,q5⟩ ?_
    rintro v new n5 g5 rfl
    have b1:=(g5.own n (by omega)).trans a1
    have b2:=(g5.own (n + 1) (by omega)).trans a2
    have l5:=g5.le
    simp only [↓E1,E2,zA,zB,zC,zD,zE,zF,zG,zH,zI,zJ,zK,zL,zM,zN,reduceIte,zO,zP, *]
    exact hY rfl _ _ _ g5 ⟨g4.trans (g5.weaken (by omega)),by omega,b1,b2,by simp [updN,updE, *],by simp [updN,updE, *]⟩ (by simp [updN,updE, *])
  · rintro e mu4 n4 K ⟨g4,a0,a1,a2,e2,e3⟩ hc hY
    rw [dc_at l_ref4_SameLog_0.eq_1]
    have hlt : (l.ents.length < l.ents.length) = False:=by simp
    have w1:=look_with (fz:=fz) a1
    have w2:=look_with (fz:=fz) a2
    simp only [↓E1,E2,zA,zB,zC,zD,zE,zF,zG,zH,zI,zJ,zK,zL,zM,zN,reduceIte,zO,zP, *]
    exact hY _ _ _ (Gr.refl g4.free) ⟨g4,a0,a1,a2,by simp [updN,updE,e2],by simp [updN,updE,e3]⟩
  · simp [updN,updE,envI]
  · simp [updN,updE,envI]
  · simp [updN,updE]
  · rintro ha e' mu' n' g ⟨g4,a0,a1,a2,e2,e3⟩
    simp only [↓E1,E2,zA,zB,zC,zD,zE,zF,zG,zH,zI,zJ,zK,zL,zM,zN,reduceIte,zO,zP, *]
    try exact h _ _ g4
  · rintro ⟨j,j1,j2,j3⟩
    cases j3
theorem ref4_Same (m : Msg) (xb xe yb ye : SV) (hb : m.batch.length ≤ 4398046511104) (hz : LgSz m.log) : BoolC P n_ref4_Same [.ag (msgC m xb xe),.ag (msgC m yb ye)] (λM=>PtsR M xb m.batch ∧ EntsR M xe m.log.ents ∧ PtsR M yb m.batch ∧ EntsR M ye m.log.ents) true:=boolC H.mx H.ref4_Same 0 λfz mu n k hfr g0 hx h=>by
  obtain ⟨t1,t2,t3,t4⟩:=hx
  obtain ⟨xl,xs,xk,xm⟩:=t1.len
  obtain ⟨yl,ys,yk,ym⟩:=t2.len
  obtain ⟨zl,zs,zk,zm⟩:=t3.len
  obtain ⟨vl,vs,vk,vm⟩:=t4.len
  have hse : ∀ t : Tx,strEq t.l t.n t.l t.n = true:=λt=>(strEq_iff ..).2 ⟨rfl,rfl⟩
  have gA : Gr n fz mu ((n + 1,msgC m yb ye) :: (n,msgC m xb xe) :: mu) n (n + 1 + 1):=gr2 hfr
  have u:=gA.sub hfr (Nat.le_refl _)
  have hL:=ref4_SameLog H m.log xe ye hz
  rw [i_ref4_Same,dc_at b_ref4_Same.eq_1]
  unfold msgC at *
  unfold lgC at hL
  simp only [↓E1,E2,zA,zB,zC,zD,zE,zF,zG,zH,zI,zJ,zK,zL,zM,zN,reduceIte,zO,zP, *]
  refine (ref1_SamePoints H xb yb m.batch (by omega)).c1 gA.free ⟨PtsR.mono u t1,PtsR.mono u t3⟩ ?_
  rintro v mu2 n2 g2 rfl
  have b1:=(g2.own n (by omega)).trans (by rw [look_c,if_neg (by omega),look_c,if_pos rfl])
  have b2:=(g2.own (n + 1) (by omega)).trans (by rw [look_c,if_pos rfl])
  have w1:=look_with (fz:=fz) b1
  have w2:=look_with (fz:=fz) b2
  have gB:=gA.trans (g2.weaken (by omega))
  have u:=gB.sub hfr (Nat.le_refl _)
  simp only [↓E1,E2,zA,zB,zC,zD,zE,zF,zG,zH,zI,zJ,zK,zL,zM,zN,reduceIte,zO,zP, *]
  refine hL.c1 gB.free ⟨EntsR.mono u t2,EntsR.mono u t4⟩ ?_
  rintro v mu3 n3 g3 rfl
  have l2:=g2.le
  replace b1:=(g3.own n (by omega)).trans b1
  replace b2:=(g3.own (n + 1) (by omega)).trans b2
  replace w1:=look_with (fz:=fz) b1
  replace w2:=look_with (fz:=fz) b2
  replace gB:=gB.trans (g3.weaken (by omega))
  simp only [↓E1,E2,zA,zB,zC,zD,zE,zF,zG,zH,zI,zJ,zK,zL,zM,zN,reduceIte,zO,zP, *]
  try exact h _ _ gB
end Go.Proofs.YtnnjlnkoomeadaaGreat.Pv
namespace Go.Proofs.YtnnjlnkoomeadaaGreat.Pv
open Go.Ev Go.Ev.Rp
set_option maxRecDepth 100000
set_option maxHeartbeats 4000000
set_option linter.unusedSimpArgs false
set_option linter.unusedVariables false
set_option linter.unusedSectionVars false
variable {P : Program} (H : Fs P)
include H
end Go.Proofs.YtnnjlnkoomeadaaGreat.Pv
namespace Go.Ev.Rp
end Go.Ev.Rp
namespace Go.Proofs.YtnnjlnkoomeadaaGreat.Pv
open Go.Ev Go.Ev.Rp
set_option maxRecDepth 100000
set_option maxHeartbeats 4000000
set_option linter.unusedSimpArgs false
set_option linter.unusedVariables false
set_option linter.unusedSectionVars false
variable {P : Program} (H : Fs P)
include H
end Go.Proofs.YtnnjlnkoomeadaaGreat.Pv
namespace Go.Ev
open Go.Shelf Go.Proofs
section
variable {val : Nat → Int} {fz : Fz} {mu : St} {n : Nat}
end
end Go.Ev
namespace Go.Ev
open Go.Shelf Go.Proofs
section
variable {R : Type} {T : R → Prop} {z : R} {P : Program} {val : Nat → Int}
end
end Go.Ev
namespace Go.Proofs.YtnnjlnkoomeadaaGreat.Pv
open Go.Ev Go.Ev.Rp
set_option linter.unusedVariables false
set_option linter.unusedSimpArgs false
end Go.Proofs.YtnnjlnkoomeadaaGreat.Pv
namespace Go.Proofs.YtnnjlnkoomeadaaGreat.Pv
open Go.Ev Go.Ev.Rp
set_option maxRecDepth 100000
set_option maxHeartbeats 4000000
set_option linter.unusedSimpArgs false
set_option linter.unusedVariables false
set_option linter.unusedSectionVars false
variable {P : Program} (H : Fs P)
include H
end Go.Proofs.YtnnjlnkoomeadaaGreat.Pv
namespace Go.Proofs.YtnnjlnkoomeadaaGreat.Pv
open Go.Ev Go.Ev.Rp
set_option maxRecDepth 100000
set_option maxHeartbeats 4000000
set_option linter.unusedSimpArgs false
set_option linter.unusedVariables false
set_option linter.unusedSectionVars false
variable {P : Program} (H : Fs P)
include H
end Go.Proofs.YtnnjlnkoomeadaaGreat.Pv
namespace Go.Proofs.YtnnjlnkoomeadaaGreat.Pv
open Go.Ev Go.Ev.Rp
set_option maxRecDepth 100000
set_option maxHeartbeats 4000000
set_option linter.unusedSimpArgs false
set_option linter.unusedVariables false
set_option linter.unusedSectionVars false
variable {P : Program} (H : Fs P)
include H
end Go.Proofs.YtnnjlnkoomeadaaGreat.Pv
namespace Go.Proofs.YtnnjlnkoomeadaaGreat.Pv
open Go.Ev Go.Ev.Rp
set_option maxRecDepth 100000
set_option maxHeartbeats 4000000
set_option linter.unusedSimpArgs false
set_option linter.unusedVariables false
set_option linter.unusedSectionVars false
variable {P : Program} (H : Fs P)
include H
end Go.Proofs.YtnnjlnkoomeadaaGreat.Pv
namespace Go.Proofs.YtnnjlnkoomeadaaGreat.Pv
open Go.Ev Go.Ev.Rp
set_option maxRecDepth 100000
set_option maxHeartbeats 4000000
set_option linter.unusedSimpArgs false
set_option linter.unusedVariables false
set_option linter.unusedSectionVars false
variable {P : Program} (H : Fs P)
include H
end Go.Proofs.YtnnjlnkoomeadaaGreat.Pv
namespace Go.Proofs.YtnnjlnkoomeadaaGreat.Pv
open Go.Ev Go.Ev.Rp
set_option maxRecDepth 100000
set_option maxHeartbeats 4000000
set_option linter.unusedSimpArgs false
set_option linter.unusedVariables false
set_option linter.unusedSectionVars false
variable {P : Program} (H : Fs P)
include H
end Go.Proofs.YtnnjlnkoomeadaaGreat.Pv
namespace Go.Proofs.YtnnjlnkoomeadaaGreat.Pv
open Go.Ev Go.Ev.Rp
set_option maxRecDepth 100000
set_option maxHeartbeats 4000000
set_option linter.unusedSimpArgs false
set_option linter.unusedVariables false
set_option linter.unusedSectionVars false
theorem LentE.rs {lo : Nat} {M : Fz} {id : Nat} {l : List Ent} (h : LentE lo M id l) : EntsR M (.osl id 0 l.length (l.length + 1) 5) l:=by
  obtain ⟨cs,h1,h2⟩:=h
  have hl : cs.length = l.length + 1:=by simpa using h2.length
  rcases h1 with ⟨h | h,_⟩ | ⟨id',e,h3,h4,h5⟩
  · cases h
  · cases h
  · injection e with e1 e2 e3 e4 e5
    subst e1
    have htl : (cs.take l.length).length = l.length:=by simp; omega
    have hu : ∀ e ∈ cs.take l.length,e.length = 5 ∧ knownAll e = true:=λe he=>h5 e (List.mem_of_mem_take he)
    have hfl:=flat_length (s:=5) (es:=cs.take l.length) λe he=>(hu e he).1
    have hsplit : cs.flatten = (cs.take l.length).flatten ++ (cs.drop l.length).flatten:=by rw [← List.flatten_append,List.take_append_drop]
    rw [htl] at hfl
    have hs : Sl M 5 (.osl id 0 (cs.take l.length).length (l.length + 1) 5) (cs.take l.length):=by
      refine .inr ⟨id,0,l.length + 1,cs.flatten,rfl,by omega,From.sub _ _ h3,h4,?_,?_,hu⟩
      · rw [flat_length λe he=>(h5 e he).1,htl,hl]; omega
      · rw [List.drop_zero,hsplit,htl,List.take_left' hfl]
    rw [htl] at hs
    refine ⟨cs.take l.length,hs,All2.of_get (by omega) λi a b ha hb=>?_⟩
    obtain ⟨hi,rfl⟩:=List.getElem?_eq_some_iff.1 ha
    obtain ⟨hi2,rfl⟩:=List.getElem?_eq_some_iff.1 hb
    have h3:=h2.at (i:=i) (by omega) (by simp; omega)
    rw [List.getElem_append_left (by simpa using hi2),List.getElem_map] at h3
    obtain ⟨idp,h6,h7⟩:=h3
    rw [List.getElem_take]
    exact ⟨_,h6,PtsR.mono (Ex.sub.trans From.sub) (LentP.sl h7)⟩
theorem LentR.rs {M : Fz} {r : Rep} {ide ida ids : Nat} {xd : SV} (h : LentR M r ide ida ids xd) : RepS M r (.osl ide 0 r.log.ents.length (r.log.ents.length + 1) 5) (.osl ida 0 r.acks.length (r.acks.length + 2) 1) (.osl ids 0 r.starts.length (r.starts.length + 2) 1) xd:=by
  obtain ⟨⟨lo,h1⟩,h2,h3,lo',cs,h4,h5⟩:=h
  refine ⟨h1.rs,h2.sl,h3.sl,cs,Sl.mono h4.to From.sub,h5.imp λc d g=>?_⟩
  obtain ⟨id,lo2,e1,e2⟩:=g
  exact ⟨_,e1,EntsR.mono (Ex.sub.trans From.sub) e2.rs⟩
theorem LndSz.rs {r : Rep} (h : LndSz r) : RepSz r:=⟨⟨by have:=h.log.ents; omega,λe he=>by have:=h.log.bat e he; omega⟩,by have:=h.acks; omega,by have:=h.starts; omega,h.dos,λd hd=>⟨by have:=(h.dlog d hd).ents; omega,λe he=>by have:=(h.dlog d hd).bat e he; omega⟩⟩
variable {P : Program} (H : Fs P)
include H
end Go.Proofs.YtnnjlnkoomeadaaGreat.Pv
namespace Go.Proofs.YtnnjlnkoomeadaaGreat.Pv
open Go.Ev Go.Ev.Rp
set_option maxRecDepth 100000
set_option maxHeartbeats 4000000
set_option linter.unusedSimpArgs false
set_option linter.unusedVariables false
set_option linter.unusedSectionVars false
variable {P : Program} (H : Fs P)
include H
end Go.Proofs.YtnnjlnkoomeadaaGreat.Pv
namespace Go.Proofs.YtnnjlnkoomeadaaGreat.Pv
open Go.Ev Go.Ev.Rp
set_option maxRecDepth 100000
set_option maxHeartbeats 4000000
set_option linter.unusedSimpArgs false
set_option linter.unusedVariables false
set_option linter.unusedSectionVars false
theorem nilE (M : Fz) : EntsR M .nsl []:=⟨[],.inl ⟨.inl rfl,rfl⟩,trivial⟩
variable {P : Program} (H : Fs P)
include H
end Go.Proofs.YtnnjlnkoomeadaaGreat.Pv
namespace Go.Ev
set_option linter.unusedVariables false
theorem CallS.forget {P : Program} {f : Nat} {args : List AV} {fz : Fz} {mu : St} {n : Nat} {v : AV} {mu' : St} {n' : Nat} (h : CallS P f args fz mu n v mu' n') {mu2 : St} (hs : ∀ id c,look mu2 id = some c → look mu' id = some c) : CallS P f args fz mu n v mu2 n':=by
  obtain ⟨h1,h2,h3⟩:=h
  have hi : ∀ id,(look mu2 id).isSome = true → (look mu' id).isSome = true:=λid hid=>by
    obtain ⟨c,hc⟩:=Option.isSome_iff_exists.1 hid
    rw [hs id c hc]; rfl
  refine ⟨h1,h2,λρ w xs hr hx hf=>(h3 ρ w xs hr hx hf).mono λe w' ⟨x,he,ρ',p1,p2,p3,p4,p5,p6⟩=>⟨x,he,ρ',p1,⟨p2.rf,λid cs h=>p2.rm id cs (hs id cs h),λid cs h=>p2.dm id cs (hs id cs h),λid id' p p' a b=>p2.dj id id' p p' (hi id a) (b.imp (hi id') λz=>z)⟩,p3,p4,λid p hl hp=>p5 id p (hi id hl) hp,λid hid=>p6 id (hi id hid)⟩⟩
section
variable {P : Program} {f : Nat} {args : List AV} {pre : Fz → Prop} {Q : AV → Prop} {fz : Fz} {mu : St} {n : Nat} {k : KT Prop}
theorem Ctr.q1 (h : Ctr P f args pre λ_ _ _ v=>Q v) {w : WK k} (hf : Free fz mu n) (hp : pre (with' mu fz)) (hk : ∀ v n',n ≤ n' → Q v → k v [] n') : CPr P f args (with' mu fz) [] n k w:=by
  obtain ⟨v,new,n',hQ,hc⟩:=h (with' mu fz) [] n (λv _ _=>Q v) (λj=>hf j) hp (λv _ _ _ hq=>hq)
  exact ⟨v,[],n',hk v n' hc.2.1 hQ,hc.forget λid c h=>by cases h⟩
theorem Ctr.q0 (h : Ctr P f args pre λ_ _ _ v=>Q v) {w : WK k} (hf : Free fz mu n) (hp : pre (with' mu fz)) (hk : ∀ v n',n ≤ n' → Q v → k v mu n') : CPr P f args fz mu n k w:=by
  obtain ⟨v,new,n',hQ,hc⟩:=h (with' mu fz) [] n (λv _ _=>Q v) (λj=>hf j) hp (λv _ _ _ hq=>hq)
  exact ⟨v,[],n',hk v n' hc.2.1 hQ,hc.forget λid c h=>by cases h⟩
end
theorem Free.le {fz : Fz} {mu : St} {n n' : Nat} (h : Free fz mu n) (hn : n ≤ n') : Free fz mu n':=λj=>by
  have:=h.none (show n ≤ n' + j by omega)
  exact this
theorem Gr.le2 {lo : Nat} {fz : Fz} {mu mu' : St} {n n' n2 : Nat} (h : Gr lo fz mu mu' n n') (hn : n' ≤ n2) : Gr lo fz mu mu' n n2:=⟨Nat.le_trans h.le hn,h.ext,h.own,h.free.le hn⟩
end Go.Ev
namespace Go.Proofs.YtnnjlnkoomeadaaGreat.Pv
open Go.Ev Go.Ev.Rp
set_option maxRecDepth 100000
set_option maxHeartbeats 4000000
set_option linter.unusedSimpArgs false
set_option linter.unusedVariables false
set_option linter.unusedSectionVars false
def MsgX (M : Fz) (c : List SV) (m : Msg) : Prop:=∃ xb xe,c = msgC m xb xe ∧ PtsX M xb m.batch ∧ EntsX M xe m.log.ents
theorem MsgX.mono {M M' : Fz} {c : List SV} {m : Msg} (hm : Sub M M') (h : MsgX M c m) : MsgX M' c m:=let ⟨xb,xe,h1,h2,h3⟩:=h; ⟨xb,xe,h1,PtsX.mono hm h2,EntsX.mono hm h3⟩
def Tag28 (o : Nat → Nat) (M : Fz) : Fz:=λj=>if o j = 2 ∨ o j = 8 then M j else none
theorem Tag28.el {o : Nat → Nat} {j : Nat} {M : Fz} {B : List SV} (h : Tag28 o M j = some B) : (o j = 2 ∨ o j = 8) ∧ M j = some B:=by
  unfold Tag28 at h
  split at h
  · rename_i e; exact ⟨e,h⟩
  · cases h
theorem Tag28.at {o : Nat → Nat} {j : Nat} {M : Fz} {B : List SV} (h : o j = 2 ∨ o j = 8) (g : M j = some B) : Tag28 o M j = some B:=by unfold Tag28; rw [if_pos h]; exact g
theorem Tag28.sub {o : Nat → Nat} {M : Fz} : Sub (Tag28 o M) M:=λ_ _ h=>(Tag28.el h).2
theorem Tag28.keep {o o' : Nat → Nat} {M M' : Fz} (h2 : Sub (Tag o 2 M) (Tag o' 2 M')) (h8 : Sub (Tag o 8 M) (Tag o' 8 M')) : Sub (Tag28 o M) (Tag28 o' M'):=λj B h=>by
  obtain ⟨h3 | h3,h4⟩:=Tag28.el h
  · obtain ⟨h5,h6⟩:=Tag.el (h2 j B (Tag.at h3 h4)); exact Tag28.at (.inl h5) h6
  · obtain ⟨h5,h6⟩:=Tag.el (h8 j B (Tag.at h3 h4)); exact Tag28.at (.inr h5) h6
def OutT (o : Nat → Nat) (M : Fz) (xo : SV) (out : List Msg) : Prop:=∃ cs,SlX (Tag o 7 M) 20 xo cs ∧ All2 (MsgX (Tag28 o M)) cs out
theorem RepT.keep {o o' : Nat → Nat} {M M' : Fz} {r : Rep} {xe xa xs xd : SV} (h : ∀ t,1 ≤ t → t ≤ 6 → Sub (Tag o t M) (Tag o' t M')) (g : RepT o M r xe xa xs xd) : RepT o' M' r xe xa xs xd:=by
  obtain ⟨⟨cs,h1,h2⟩,h3,h4,ds,h5,h6⟩:=g
  exact ⟨⟨cs,h1.mono (h 1 (by omega) (by omega)),h2.imp λc a g=>EntX.mono (h 2 (by omega) (by omega)) g⟩,IntsX.mono (h 3 (by omega) (by omega)) h3,IntsX.mono (h 4 (by omega) (by omega)) h4,⟨ds,h5.mono (h 5 (by omega) (by omega)),h6.imp λc a g=>DvX.mono (h 6 (by omega) (by omega)) g⟩⟩
theorem OutT.keep {o o' : Nat → Nat} {M M' : Fz} {xo : SV} {out : List Msg} (h2 : Sub (Tag o 2 M) (Tag o' 2 M')) (h7 : Sub (Tag o 7 M) (Tag o' 7 M')) (h8 : Sub (Tag o 8 M) (Tag o' 8 M')) (g : OutT o M xo out) : OutT o' M' xo out:=by
  obtain ⟨cs,h1,h3⟩:=g
  exact ⟨cs,h1.mono h7,h3.imp λc a g=>MsgX.mono (Tag28.keep h2 h8) g⟩
structure SW (lo : Nat) (fz : Fz) (s : Nat) (o : Nat → Nat) (mu : St) (n : Nat) (r : Rep) (out : List Msg) (vd : Bool) (xe xa xs xd xo : SV) : Prop where
  cells : Ev.look mu s = some (stepC r xe xa xs xd xo vd)
  rt : RepT o (with' mu fz) r xe xa xs xd
  ot : OutT o (with' mu fz) xo out
  free : Free fz mu n
  los : lo ≤ s
  os : o s = 9
  zero : ∀ j,j < lo → o j = 0
  fzl : ∀ j,lo ≤ j → fz j = none
section
variable {lo : Nat} {fz : Fz} {s : Nat} {o : Nat → Nat} {mu : St} {n : Nat} {r : Rep} {out : List Msg} {vd : Bool} {xe xa xs xd xo : SV}
theorem SW.slt (h : SW lo fz s o mu n r out vd xe xa xs xd xo) : s < n:=h.free.lt (look_with h.cells)
theorem SW.lon (h : SW lo fz s o mu n r out vd xe xa xs xd xo) : lo ≤ n:=Nat.le_of_lt (Nat.lt_of_le_of_lt h.los h.slt)
theorem SW.ge (h : SW lo fz s o mu n r out vd xe xa xs xd xo) {j : Nat} (hj : o j ≠ 0) : lo ≤ j:=by
  rcases Nat.lt_or_ge j lo with h1 | h1
  · exact (hj (h.zero j h1)).elim
  · exact h1
theorem SW.ks (h : SW lo fz s o mu n r out vd xe xa xs xd xo) : (xe.known = true ∧ xe.isMk = false) ∧ (xa.known = true ∧ xa.isMk = false) ∧ (xs.known = true ∧ xs.isMk = false) ∧ (xd.known = true ∧ xd.isMk = false) ∧ (xo.known = true ∧ xo.isMk = false):=by
  obtain ⟨⟨cs,h1,h2⟩,h3,h4,ds,h5,h6⟩:=h.rt
  obtain ⟨es,h7,h8⟩:=h.ot
  exact ⟨(SlX.len h1).2.2,(SlX.len h3).2.2,(SlX.len h4).2.2,(SlX.len h5).2.2,(SlX.len h7).2.2⟩
theorem SW.rs (h : SW lo fz s o mu n r out vd xe xa xs xd xo) : RepS (with' mu fz) r xe xa xs xd:=by
  obtain ⟨⟨cs,h1,h2⟩,h3,h4,ds,h5,h6⟩:=h.rt
  exact ⟨⟨cs,(h1.mono Tag.sub).to,h2.imp λc a g=>(EntX.mono Tag.sub g).to⟩,IntsX.to (IntsX.mono Tag.sub h3),IntsX.to (IntsX.mono Tag.sub h4),⟨ds,(h5.mono Tag.sub).to,h6.imp λc a g=>(DvX.mono Tag.sub g).to⟩⟩
theorem SW.gr (h : SW lo fz s o mu n r out vd xe xa xs xd xo) {mu' : St} {n' : Nat} (g : Gr n fz mu mu' n n') : SW lo fz s o mu' n' r out vd xe xa xs xd xo:=by
  have u : ∀ t,Sub (Tag o t (with' mu fz)) (Tag o t (with' mu' fz)):=λt=>Tag.mono (g.sub h.free (Nat.le_refl _))
  exact ⟨(g.own s h.slt).trans h.cells,h.rt.keep λt _ _=>u t,h.ot.keep (u 2) (u 7) (u 8),g.free,h.los,h.os,h.zero,h.fzl⟩
theorem SW.le (h : SW lo fz s o mu n r out vd xe xa xs xd xo) {n' : Nat} (g : n ≤ n') : SW lo fz s o mu n' r out vd xe xa xs xd xo:=⟨h.cells,h.rt,h.ot,h.free.le g,h.los,h.os,h.zero,h.fzl⟩
theorem SW.put (h : SW lo fz s o mu n r out vd xe xa xs xd xo) {r' : Rep} {vd' : Bool} (he : r'.log.ents = r.log.ents) (ha : r'.acks = r.acks) (hs : r'.starts = r.starts) (hd : r'.dos = r.dos) : SW lo fz s o (putS mu s (stepC r' xe xa xs xd xo vd')) n r' out vd' xe xa xs xd xo:=by
  have u : ∀ t,t ≠ 9 → Sub (Tag o t (with' mu fz)) (Tag o t (with' (putS mu s (stepC r' xe xa xs xd xo vd')) fz)):=λt ht=>Tag.put (lookI h.cells) (by rw [h.os]; omega)
  have g:=(Gr.refl (lo:=lo) h.free).put h.los h.cells (c:=stepC r' xe xa xs xd xo vd')
  refine ⟨by rw [look_putS,if_pos rfl,h.cells]; rfl,?_,h.ot.keep (u 2 (by omega)) (u 7 (by omega)) (u 8 (by omega)),g.free,h.los,h.os,h.zero,h.fzl⟩
  obtain ⟨h1,h2,h3,h4⟩:=h.rt.keep (λt _ _=>u t (by omega))
  exact ⟨by rw [he]; exact h1,by rw [ha]; exact h2,by rw [hs]; exact h3,by rw [hd]; exact h4⟩
end
end Go.Proofs.YtnnjlnkoomeadaaGreat.Pv
namespace Go.Proofs.YtnnjlnkoomeadaaGreat.Pv
open Go.Ev Go.Ev.Rp
set_option maxRecDepth 100000
set_option maxHeartbeats 4000000
set_option linter.unusedSimpArgs false
set_option linter.unusedVariables false
set_option linter.unusedSectionVars false
variable {P : Program} (H : Fs P)
include H
theorem replica_step_last (id : Nat) (r : Rep) (xe xa xs xd xo : SV) (vd : Bool) : Ctr P n_replica_step_last [.one (.optr id 0)] (λM=>M id = some (stepC r xe xa xs xd xo vd) ∧ EntsR M xe r.log.ents) (λ_ _ _ v=>v = .one (I (last r.log))):=Ctr.of H.mx H.replica_step_last (λ_=>0) λfz mu n k hfr s hk=>by
  obtain ⟨b1,s1⟩:=s
  have hE:=choose_Last H r.log xe
  unfold lgC at hE
  unfold stepC repC at b1
  rw [i_replica_step_last,dc_at b_replica_step_last.eq_1]
  simp only [↓E1,E2,zA,zB,zC,zD,zE,zF,zG,zH,zI,zJ,zK,zL,zM,zN,reduceIte,zO,zP, *]
  refine hE.q0 hfr s1 ?_
  rintro v n' hl rfl
  simp only [↓E1,E2,zA,zB,zC,zD,zE,zF,zG,zH,zI,zJ,zK,zL,zM,zN,reduceIte,zO,zP, *]
  exact hk _ _ _ ((Gr.refl hfr).le2 hl) rfl
end Go.Proofs.YtnnjlnkoomeadaaGreat.Pv
namespace Go.Proofs.YtnnjlnkoomeadaaGreat.Pv
open Go.Ev Go.Ev.Rp
set_option maxRecDepth 100000
set_option maxHeartbeats 4000000
set_option linter.unusedSimpArgs false
set_option linter.unusedVariables false
set_option linter.unusedSectionVars false
structure BegP (n : Nat) (M : Fz) (v : AV) (r : Rep) (s : Nat) (o : Nat → Nat) (xe xa xs xd : SV) : Prop where
  val : v = .one (.optr s 0)
  le : n ≤ s
  os : o s = 9
  zero : ∀ j,j < n → o j = 0
  cells : M s = some (stepC r xe xa xs xd .nsl false)
  rt : RepT o M r xe xa xs xd
theorem BegP.sw {n : Nat} {fz : Fz} {mu mu' : St} {n' : Nat} {v : AV} {r : Rep} {s : Nat} {o : Nat → Nat} {xe xa xs xd : SV} (h : BegP n (with' mu' fz) v r s o xe xa xs xd) (hf : Free fz mu n) (g : Gr n fz mu mu' n n') : SW n fz s o mu' n' r [] false xe xa xs xd .nsl :=
  ⟨own_of_free hf h.le h.cells,h.rt,⟨[],.inl ⟨.inl rfl,rfl⟩,trivial⟩,g.free,h.le,h.os,h.zero,λj hj=>by
    have h0:=hf.none hj
    rw [with_eq] at h0
    cases e : Ev.look mu j with
    | none=>rw [e] at h0; exact h0
    | some c=>rw [e] at h0; cases h0⟩
variable {P : Program} (H : Fs P)
include H
theorem replica_begin (r : Rep) (xe xa xs xd : SV) (hz : RepSz r) : Ctr P n_replica_begin [.ag (repC r xe xa xs xd)] (λM=>RepS M r xe xa xs xd) (λn _ M v=>∃ s o xe' xa' xs' xd',BegP n M v r s o xe' xa' xs' xd'):=Ctr.of H.mx H.replica_begin (λ_=>0) λfz mu n k hfr s1 hk=>by
  obtain ⟨-,-,xek,xem⟩:=s1.1.len
  obtain ⟨-,-,xak,xam⟩:=s1.2.1.len
  obtain ⟨-,-,xsk,xsm⟩:=s1.2.2.1.len
  obtain ⟨-,-,xdk,xdm⟩:=s1.2.2.2.len
  have hC:=replica_Clone H r xe xa xs xd hz
  rw [i_replica_begin,dc_at b_replica_begin.eq_1]
  unfold repC at hC ⊢
  simp only [↓E1,E2,zA,zB,zC,zD,zE,zF,zG,zH,zI,zJ,zK,zL,zM,zN,reduceIte,zO,zP, *]
  refine CPr.abs1 hfr λm1 n1 g1 l1 b1=>?_
  refine hC.c1 g1.free (RepS.mono (g1.sub hfr (Nat.le_refl _)) s1) ?_
  rintro v m2 n2 g2 ⟨xe',xa',xs',xd',o,rfl,ho,hT⟩
  have l2:=g2.le
  have gg:=g1.trans (g2.weaken (by omega))
  obtain ⟨⟨es,q1,q2⟩,q3,q4,ds,q5,q6⟩:=hT
  have hT : RepT o (with' m2 fz) r xe' xa' xs' xd':=⟨⟨es,q1,q2⟩,q3,q4,ds,q5,q6⟩
  obtain ⟨-,-,yek,yem⟩:=q1.len
  obtain ⟨-,-,yak,yam⟩:=SlX.len q3
  obtain ⟨-,-,ysk,ysm⟩:=SlX.len q4
  obtain ⟨-,-,ydk,ydm⟩:=SlX.len q5
  simp only [↓E1,E2,zA,zB,zC,zD,zE,zF,zG,zH,zI,zJ,zK,zL,zM,zN,reduceIte,zO,zP, *]
  have gB:=gg.cons (by omega) (stepC r xe' xa' xs' xd' .nsl false)
  refine hk _ _ _ gB ⟨n2,λj=>if j = n2 then 9 else o j,xe',xa',xs',xd',rfl,by omega,by simp,λj hj=>by rw [if_neg (by omega)]; exact ho j (by omega),by rw [with_c,if_pos rfl]; rfl,?_⟩
  refine hT.keep λt _ _ j B hj=>?_
  obtain ⟨h1,h2⟩:=Tag.el hj
  have h3:=gg.free.lt h2
  refine Tag.at (by rw [if_neg (by omega)]; exact h1) ?_
  rw [with_c,if_neg (by omega)]; exact h2
end Go.Proofs.YtnnjlnkoomeadaaGreat.Pv
namespace Go.Proofs.YtnnjlnkoomeadaaGreat.Pv
open Go.Ev Go.Ev.Rp
set_option maxRecDepth 100000
set_option maxHeartbeats 4000000
set_option linter.unusedSimpArgs false
set_option linter.unusedVariables false
set_option linter.unusedSectionVars false
structure MsgSz (m : Msg) : Prop where
  bat : m.batch.length ≤ 4398046511104
  log : LgSz m.log
structure Kp (T : Nat → Prop) (s : Nat) (o o' : Nat → Nat) (mu : St) (n : Nat) (mu' : St) (n' : Nat) : Prop where
  le : n ≤ n'
  tags : ∀ j,j < n → o' j = o j
  keep : ∀ j,j < n → j ≠ s → ¬ T (o j) → Ev.look mu' j = Ev.look mu j
theorem Kp.trans {T : Nat → Prop} {s : Nat} {o o1 o2 : Nat → Nat} {mu mu1 mu2 : St} {n n1 n2 : Nat} (h : Kp T s o o1 mu n mu1 n1) (k : Kp T s o1 o2 mu1 n1 mu2 n2) : Kp T s o o2 mu n mu2 n2 :=
  ⟨Nat.le_trans h.le k.le,λj hj=>by rw [k.tags j (Nat.lt_of_lt_of_le hj h.le)]; exact h.tags j hj,λj hj hs ht=>by
    rw [k.keep j (Nat.lt_of_lt_of_le hj h.le) hs (by rw [h.tags j hj]; exact ht)]; exact h.keep j hj hs ht⟩
theorem Kp.weaken {T T' : Nat → Prop} {s : Nat} {o o' : Nat → Nat} {mu mu' : St} {n n' : Nat} (h : Kp T s o o' mu n mu' n') (ht : ∀ t,T t → T' t) : Kp T' s o o' mu n mu' n' :=
  ⟨h.le,h.tags,λj h1 h2 h3=>h.keep j h1 h2 λh4=>h3 (ht _ h4)⟩
theorem Kp.refl {T : Nat → Prop} {s : Nat} {o : Nat → Nat} {mu : St} {n : Nat} : Kp T s o o mu n mu n:=⟨Nat.le_refl _,λ_ _=>rfl,λ_ _ _ _=>rfl⟩
theorem Kp.gr {T : Nat → Prop} {s lo : Nat} {o o' : Nat → Nat} {fz : Fz} {mu mu' : St} {n n' : Nat} (h : Kp T s o o' mu n mu' n') (hf : Free fz mu' n') (hl : lo ≤ s) (hln : lo ≤ n) (hz : ∀ j,j < lo → o j = 0) (h0 : ¬ T 0) : Gr lo fz mu mu' n n' :=
  have hk : ∀ j,j < lo → Ev.look mu' j = Ev.look mu j:=λj hj=>h.keep j (by omega) (by omega) (by rw [hz j hj]; exact h0)
  ⟨h.le,λj hj=>with_congr (hk j hj),hk,hf⟩
def FT (o : Nat → Nat) (n : Nat) (M : Fz) : Fz:=λj=>if n ≤ j ∨ o j = 2 ∨ o j = 8 then M j else none
theorem FT.el {o : Nat → Nat} {n j : Nat} {M : Fz} {B : List SV} (h : FT o n M j = some B) : (n ≤ j ∨ o j = 2 ∨ o j = 8) ∧ M j = some B:=by
  unfold FT at h
  split at h
  · rename_i e; exact ⟨e,h⟩
  · cases h
theorem FT.from {o : Nat → Nat} {n : Nat} {M : Fz} : Sub (From n M) (FT o n M):=λj B h=>by
  obtain ⟨h1,h2⟩:=From.el h
  unfold FT; rw [if_pos (.inl h1)]; exact h2
theorem FT.tag {o : Nat → Nat} {n : Nat} {M : Fz} : Sub (Tag28 o M) (FT o n M):=λj B h=>by
  obtain ⟨h1,h2⟩:=Tag28.el h
  unfold FT; rw [if_pos (.inr h1)]; exact h2
theorem SW.app {lo : Nat} {fz : Fz} {s : Nat} {o : Nat → Nat} {mu : St} {n : Nat} {r : Rep} {out : List Msg} {vd : Bool} {xe xa xs xd xo : SV} (S : SW lo fz s o mu n r out vd xe xa xs xd xo) {mu2 : St} {n2 : Nat} (g : Gr n fz mu mu2 n n2) {m : Msg} {xb xm : SV}
    (hb : PtsX (FT o n (with' mu2 fz)) xb m.batch) (hm : EntsX (FT o n (with' mu2 fz)) xm m.log.ents) (hl : out.length ≤ 1000) {K : KT Prop}
    (hk : ∀ m3 o' xo',xo'.known = true → Ev.look m3 s = some (stepC r xe xa xs xd xo vd) → SW lo fz s o' (putS m3 s (stepC r xe xa xs xd xo' vd)) (n2 + 1) r (out ++ [m]) vd xe xa xs xd xo' → Kp (· = 7) s o o' mu n (putS m3 s (stepC r xe xa xs xd xo' vd)) (n2 + 1) → K (.one xo') m3 (n2 + 1)) :
    onApp mu2 n2 20 216 xo (msgC m xb xm) 1 K:=by
  obtain ⟨cs,h1,h2⟩:=S.ot
  have hcl:=h2.length
  have hfz : ∀ j,o j ≠ 0 → fz j = none:=λj hj=>S.fzl j (S.ge hj)
  have hG : ∀ id B,Tag o 7 (with' mu fz) id = some B → Ev.look mu2 id = some B:=λid B h=>by
    obtain ⟨p1,p2⟩:=Tag.el h
    have p3:=S.free.lt p2
    rw [with_look (hfz id (by omega))] at p2
    exact (g.own id p3).trans p2
  obtain ⟨-,-,zbk,-⟩:=SlX.len hb
  obtain ⟨-,-,zmk,-⟩:=hm.choose_spec.1.len
  have hkn : knownAll (msgC m xb xm) = true:=by unfold msgC; simp only [↓E1,E2,zA,zB,zC,zD,zE,zF,zG,zH,zI,zJ,zK,zL,zM,zN,reduceIte,zO,zP, *]
  have hfl : onApp mu2 n2 20 216 xo ([msgC m xb xm] : List (List SV)).flatten ([msgC m xb xm] : List (List SV)).length K:=by
    refine onApp_more (G:=Tag o 7 (with' mu fz)) h1 hG (by rw [hcl]; exact fits_le (by simp; omega) (by decide) (by decide)) (by simp) (λe he=>by rw [List.mem_singleton.1 he]; exact ⟨rfl,hkn⟩) λm3 ho hn=>?_
    have hsame : ∀ j,j ≠ n2 → (j < n → o j ≠ 7) → Ev.look m3 j = Ev.look mu2 j:=λj hj h7=>by
      rcases ho j hj with h | ⟨B,p1,-⟩
      · exact h
      · obtain ⟨p2,p3⟩:=Tag.el p1
        exact (h7 (S.free.lt p3) p2).elim
    have hs2 : s < n:=S.slt
    have hln:=g.le
    have hs3 : Ev.look m3 s = some (stepC r xe xa xs xd xo vd):=(hsame s (by omega) (λ_=>by rw [S.os]; omega)).trans ((g.own s hs2).trans S.cells)
    have hlon:=S.lon
    -- the tags
    let o' : Nat → Nat:=tagN o n λj=>if j = n2 then 7 else 8
    have ho1 : ∀ j,j < n → o' j = o j:=λj hj=>tagN_lt hj
    have ho2 : o' n2 = 7:=by show tagN o n _ n2 = 7; rw [tagN_ge hln]; simp
    have ho3 : ∀ j,n ≤ j → j ≠ n2 → o' j = 8:=λj hj hne=>by show tagN o n _ j = 8; rw [tagN_ge hj,if_neg hne]
    have hput : ∀ (xo' : SV) j,j ≠ s → with' (putS m3 s (stepC r xe xa xs xd xo' vd)) fz j = with' m3 fz j:=λxo' j hj=>by rw [with_putS hs3,if_neg (by omega)]
    have u : ∀ (xo' : SV) t,t ≠ 7 → t ≠ 9 → t ≠ 0 → Sub (Tag o t (with' mu fz)) (Tag o' t (with' (putS m3 s (stepC r xe xa xs xd xo' vd)) fz)):=λxo' t ht ht9 ht0 j B hj=>by
      obtain ⟨p1,p2⟩:=Tag.el hj
      have p3:=S.free.lt p2
      refine Tag.at (by rw [ho1 j p3]; exact p1) ?_
      rw [hput xo' j (λe=>by rw [e,S.os] at p1; omega),with_congr (hsame j (by omega) (λ_=>by omega)),g.ext j p3]; exact p2
    have uN : ∀ (xo' : SV),Sub (FT o n (with' mu2 fz)) (Tag28 o' (with' (putS m3 s (stepC r xe xa xs xd xo' vd)) fz)):=λxo' j B hj=>by
      obtain ⟨p1,p2⟩:=FT.el hj
      have p3:=g.free.lt p2
      rcases Nat.lt_or_ge j n with hjn | hjn
      · have p4 : o j = 2 ∨ o j = 8:=p1.resolve_left (by omega)
        refine Tag28.at (by rw [ho1 j hjn]; exact p4) ?_
        rw [hput xo' j (λe=>by rw [e,S.os] at p4; omega),with_congr (hsame j (by omega) (λ_=>by omega))]; exact p2
      · refine Tag28.at (.inr (ho3 j hjn (by omega))) ?_
        rw [hput xo' j (by omega),with_congr (hsame j (by omega) (λ_=>by omega))]; exact p2
    have hfz2 : ∀ j,lo ≤ j → fz j = none:=S.fzl
    have hn7 : ∀ (xo' : SV),with' (putS m3 s (stepC r xe xa xs xd xo' vd)) fz n2 = some (cs ++ [msgC m xb xm]).flatten:=λxo'=>by rw [hput xo' n2 (by omega)]; exact look_with hn
    have hfree : ∀ (xo' : SV),Free fz (putS m3 s (stepC r xe xa xs xd xo' vd)) (n2 + 1):=λxo' j=>by
      rw [hput xo' _ (by omega),with_congr (hsame (n2 + 1 + j) (by omega) (λ_=>by omega))]
      exact g.free.none (by omega)
    refine hk m3 o' _ rfl hs3 ⟨by rw [look_putS,if_pos rfl,hs3]; rfl,S.rt.keep λt t1 t2=>u _ t (by omega) (by omega) (by omega),⟨cs ++ [msgC m xb xm],.inr ⟨n2,rfl,Tag.at ho2 (hn7 _),?_,?_⟩,?_⟩,hfree _,S.los,by rw [ho1 s hs2]; exact S.os,λj hj=>by rw [ho1 j (by omega)]; exact S.zero j hj,S.fzl⟩ ⟨by omega,ho1,λj hj hjs h7=>?_⟩
    · have hkf : ∀ e ∈ cs ++ [msgC m xb xm], e.length = 20 ∧ knownAll e = true := fun e he => by
        rcases List.mem_append.1 he with he | he
        · rcases h1 with ⟨_,rfl⟩ | ⟨id,_,_,_,h4⟩
          · cases he
          · exact h4 e he
        · rw [List.mem_singleton.1 he]; exact ⟨rfl,hkn⟩
      exact mkd_known (knownAll_flat hkf)
    · intro e he
      rcases List.mem_append.1 he with he | he
      · rcases h1 with ⟨_,rfl⟩ | ⟨id,_,_,_,h4⟩
        · cases he
        · exact h4 e he
      · rw [List.mem_singleton.1 he]; exact ⟨rfl,hkn⟩
    · exact All2.append (h2.imp λc a h=>MsgX.mono (Tag28.keep (u _ 2 (by omega) (by omega) (by omega)) (u _ 8 (by omega) (by omega) (by omega))) h) ⟨⟨xb,xm,rfl,PtsX.mono (uN _) hb,EntsX.mono (uN _) hm⟩,trivial⟩
    · rw [look_putS,if_neg (by omega),hsame j (by omega) (λ_=>h7)]; exact g.own j hj
  simpa only [List.flatten_cons,List.flatten_nil,List.append_nil,List.length_cons,List.length_nil,Nat.zero_add] using hfl
variable {P : Program} (H : Fs P)
include H
theorem step_send {lo : Nat} {fz : Fz} {s : Nat} {o : Nat → Nat} {mu : St} {n : Nat} {r : Rep} {out : List Msg} {vd : Bool} {xe xa xs xd xo : SV} (S : SW lo fz s o mu n r out vd xe xa xs xd xo) (to : Int) (m : Msg) (yb ye : SV)
    (hm : MsgS (with' mu fz) m yb ye) (hz : MsgSz m) (hl : out.length ≤ 1000) {k : KT Prop} {w : WK k}
    (hk : ∀ mu' n' o' xo',SW lo fz s o' mu' n' r (out ++ [{ m with frm:=r.me,to:=to }]) vd xe xa xs xd xo' → Kp (· = 7) s o o' mu n mu' n' → k noVal mu' n') : CPh P n_replica_step_send [.one (.optr s 0),.one (I to),.ag (msgC m yb ye)] fz mu n k w:=by
  refine CP_of H.replica_step_send H.mx 0 ?_
  obtain ⟨-,-,ybk,ybm⟩:=hm.1.len
  obtain ⟨-,-,yek,yem⟩:=hm.2.len
  have hC:=message_Clone H { m with frm:=r.me,to:=to } yb ye hz.bat hz.log.ents hz.log.bat
  have gA:=(Gr.refl (lo:=n) S.free).cons (Nat.le_refl _) (msgC { m with frm:=r.me,to:=to } yb ye)
  have hsn : s < n:=S.slt
  have S1:=S.gr gA
  have b1 : Ev.look ((n,msgC { m with frm:=r.me,to:=to } yb ye) :: mu) n = some (msgC { m with frm:=r.me,to:=to } yb ye):=by rw [look_c,if_pos rfl]
  have ws0:=look_with (fz:=fz) S.cells
  have hne : (n = s) = False:=by simp; omega
  obtain ⟨⟨xek,xem⟩,⟨xak,xam⟩,⟨xsk,xsm⟩,⟨xdk,xdm⟩,xok,xom⟩:=S1.ks
  obtain ⟨m1,hm1⟩ : ∃ mz : St,((n,msgC { m with frm:=r.me,to:=to } yb ye) :: mu) = mz:=⟨_,rfl⟩
  rw [hm1] at gA S1 b1
  have ws1:=look_with (fz:=fz) S1.cells
  have wb1:=look_with (fz:=fz) b1
  rw [i_replica_step_send,dc_at b_replica_step_send.eq_1]
  unfold msgC at hm1 hC wb1 ⊢
  unfold stepC repC at ws0 ws1
  simp only [↓E1,E2,zA,zB,zC,zD,zE,zF,zG,zH,zI,zJ,zK,zL,zM,zN,reduceIte,zO,zP, *,with_putI,look_putS,putS_putS,Option.isSome_some,Option.map_some]
  refine hC.d2 S1.free ⟨PtsR.mono (gA.sub S.free (Nat.le_refl _)) hm.1,EntsR.mono (gA.sub S.free (Nat.le_refl _)) hm.2⟩ ?_
  rintro v new n2 g2 ⟨xb',xe',rfl,hxb,hxm⟩
  have l2:=g2.le
  obtain ⟨-,-,zbk,zbm⟩:=SlX.len hxb
  obtain ⟨-,-,zek,zem⟩:=hxm.choose_spec.1.len
  have S2:=S1.gr g2
  have ws2:=look_with (fz:=fz) S2.cells
  unfold stepC repC at ws2
  simp only [↓E1,E2,zA,zB,zC,zD,zE,zF,zG,zH,zI,zJ,zK,zL,zM,zN,reduceIte,zO,zP, *,with_putI,look_putS,putS_putS,Option.isSome_some,Option.map_some]
  have gB : Gr n fz mu ((n2,[I m.kind,I r.me,I to,I m.view,I m.normal,I m.at',I m.commit,I m.round,I m.client,I m.session,I m.number,I m.code,I m.agg,I m.until',m.series.sv,xb',I m.log.base,m.log.snap.sv,xe',m.text.sv]) :: (new ++ m1)) n (n2 + 1):=(gA.trans (g2.weaken (by omega))).cons (by omega) _
  have u2 : Sub (From (n + 1) (with' (new ++ m1) fz)) (From n (with' ((n2,[I m.kind,I r.me,I to,I m.view,I m.normal,I m.at',I m.commit,I m.round,I m.client,I m.session,I m.number,I m.code,I m.agg,I m.until',m.series.sv,xb',I m.log.base,m.log.snap.sv,xe',m.text.sv]) :: (new ++ m1)) fz)):=λj B hj=>by
    obtain ⟨p1,p2⟩:=From.el hj
    have:=g2.free.lt p2
    exact From.at (by omega) (by rw [with_c,if_neg (by omega)]; exact p2)
  refine SW.app S gB (m:={ m with frm:=r.me,to:=to }) (PtsX.mono (u2.trans FT.from) hxb) (EntsX.mono (u2.trans FT.from) hxm) hl λm3 o' xo' hko hs3 hS hKp=>?_
  have hkom:=known_mk hko
  unfold stepC repC at hs3
  have hk2:=hk _ _ _ _ hS hKp
  unfold stepC repC at hk2
  simp only [↓E1,E2,zA,zB,zC,zD,zE,zF,zG,zH,zI,zJ,zK,zL,zM,zN,reduceIte,zO,zP, *,with_putI,look_putS,putS_putS,Option.isSome_some,Option.map_some]
  exact hk2
end Go.Proofs.YtnnjlnkoomeadaaGreat.Pv
namespace Go.Proofs.YtnnjlnkoomeadaaGreat.Pv
open Go.Ev Go.Ev.Rp
set_option maxRecDepth 100000
set_option maxHeartbeats 4000000
set_option linter.unusedSimpArgs false
set_option linter.unusedVariables false
set_option linter.unusedSectionVars false
def Un (s : Nat) (o : Nat → Nat) (M : Fz) : Fz:=λj=>if o j = 7 ∨ j = s then none else M j
theorem Un.el {s j : Nat} {o : Nat → Nat} {M : Fz} {B : List SV} (h : Un s o M j = some B) : o j ≠ 7 ∧ j ≠ s ∧ M j = some B:=by
  unfold Un at h
  split at h
  · cases h
  · rename_i hn; exact ⟨λe=>hn (.inl e),λe=>hn (.inr e),h⟩
theorem Un.at {s j : Nat} {o : Nat → Nat} {M : Fz} {B : List SV} (h1 : o j ≠ 7) (h2 : j ≠ s) (h : M j = some B) : Un s o M j = some B:=by
  unfold Un; rw [if_neg (λe=>e.elim h1 h2)]; exact h
theorem Un.sub {s : Nat} {o : Nat → Nat} {M : Fz} : Sub (Un s o M) M:=λ_ _ h=>(Un.el h).2.2
theorem Kp.un {s : Nat} {o o' : Nat → Nat} {fz : Fz} {mu mu' : St} {n n' : Nat} (h : Kp (· = 7) s o o' mu n mu' n') (hf : Free fz mu n) : Sub (Un s o (with' mu fz)) (Un s o' (with' mu' fz)):=λj B hj=>by
  obtain ⟨h1,h2,h3⟩:=Un.el hj
  have h4:=hf.lt h3
  exact Un.at (by rw [h.tags j h4]; exact h1) h2 (by rw [with_congr (h.keep j h4 h2 h1)]; exact h3)
def trim (o : Nat → Nat) (n : Nat) : Nat → Nat:=λj=>if j < n then o j else 0
theorem trim_lt {o : Nat → Nat} {n j : Nat} (h : j < n) : trim o n j = o j:=by unfold trim; rw [if_pos h]
theorem trim_ge {o : Nat → Nat} {n j : Nat} (h : n ≤ j) : trim o n j = 0:=by unfold trim; rw [if_neg (by omega)]
theorem Kp.trim {T : Nat → Prop} {s : Nat} {o o' : Nat → Nat} {mu mu' : St} {n n' : Nat} (h : Kp T s (trim o n) o' mu n mu' n') : Kp T s o o' mu n mu' n' :=
  ⟨h.le,λj hj=>by rw [h.tags j hj,trim_lt hj],λj hj hs ht=>h.keep j hj hs (by rw [trim_lt hj]; exact ht)⟩
theorem SW.trim {lo : Nat} {fz : Fz} {s : Nat} {o : Nat → Nat} {mu : St} {n : Nat} {r : Rep} {out : List Msg} {vd : Bool} {xe xa xs xd xo : SV} (S : SW lo fz s o mu n r out vd xe xa xs xd xo) : SW lo fz s (trim o n) mu n r out vd xe xa xs xd xo:=by
  have u : ∀ t,Sub (Tag o t (with' mu fz)) (Tag (Pv.trim o n) t (with' mu fz)):=λt j B hj=>by
    obtain ⟨p1,p2⟩:=Tag.el hj
    exact Tag.at (by rw [trim_lt (S.free.lt p2)]; exact p1) p2
  exact ⟨S.cells,S.rt.keep λt _ _=>u t,S.ot.keep (u 2) (u 7) (u 8),S.free,S.los,by rw [trim_lt S.slt]; exact S.os,λj hj=>by rw [trim_lt (Nat.lt_of_lt_of_le hj S.lon)]; exact S.zero j hj,S.fzl⟩
theorem Gr.kp {T : Nat → Prop} {s : Nat} {o : Nat → Nat} {fz : Fz} {mu mu' : St} {n n' : Nat} (g : Gr n fz mu mu' n n') : Kp T s o o mu n mu' n':=⟨g.le,λ_ _=>rfl,λj hj _ _=>g.own j hj⟩
def allM (r : Rep) (m : Msg) (i : Nat) : List Msg:=((List.range i).filter λ(j : Nat)=>!decide ((j : Int) = r.me)).map λ(j : Nat)=>{ m with frm:=r.me,to:=(j : Int) }
theorem allM_succ (r : Rep) (m : Msg) (i : Nat) : allM r m (i + 1) = if (i : Int) = r.me then allM r m i else allM r m i ++ [{ m with frm:=r.me,to:=(i : Int) }]:=by
  unfold allM
  rw [List.range_succ,List.filter_append,List.map_append]
  by_cases h : (i : Int) = r.me <;> simp [h]
theorem allM_length (r : Rep) (m : Msg) (i : Nat) : (allM r m i).length ≤ i:=by
  unfold allM
  rw [List.length_map]
  exact Nat.le_trans (List.length_filter_le _ _) (by simp)
variable {P : Program} (H : Fs P)
include H
theorem step_all {lo : Nat} {fz : Fz} {s : Nat} {o : Nat → Nat} {mu : St} {n : Nat} {r : Rep} {out : List Msg} {vd : Bool} {xe xa xs xd xo : SV} (S : SW lo fz s o mu n r out vd xe xa xs xd xo) (m : Msg) (yb ye : SV)
    (hm : MsgS (Un s o (with' mu fz)) m yb ye) (hz : MsgSz m) (hl : out.length ≤ 900) {N : Nat} (hN : r.nodes = (N : Int)) (hN7 : N ≤ 7) {k : KT Prop} {w : WK k}
    (hk : ∀ mu' n' o' xo',SW lo fz s o' mu' n' r (out ++ allM r m N) vd xe xa xs xd xo' → Kp (· = 7) s o o' mu n mu' n' → k noVal mu' n') : CPh P n_replica_step_all [.one (.optr s 0),.ag (msgC m yb ye)] fz mu n k w:=by
  refine CP_of H.replica_step_all H.mx 9 ?_
  obtain ⟨-,-,ybk,ybm⟩:=hm.1.len
  obtain ⟨-,-,yek,yem⟩:=hm.2.len
  have gA:=(Gr.refl (lo:=n) S.free).cons (Nat.le_refl _) (msgC m yb ye)
  have hsn : s < n:=S.slt
  have S1:=S.trim.gr gA
  have b1 : Ev.look ((n,msgC m yb ye) :: mu) n = some (msgC m yb ye):=by rw [look_c,if_pos rfl]
  have hKA : Kp (· = 7) s (trim o n) (trim o n) mu n ((n,msgC m yb ye) :: mu) (n + 1):=Gr.kp gA
  have hm1 : MsgS (Un s (trim o n) (with' ((n,msgC m yb ye) :: mu) fz)) m yb ye:=by
    have u : Sub (Un s o (with' mu fz)) (Un s (trim o n) (with' mu fz)):=λj B hj=>by
      obtain ⟨h1,h2,h3⟩:=Un.el hj
      exact Un.at (by rw [trim_lt (S.free.lt h3)]; exact h1) h2 h3
    exact MsgS.mono (u.trans (hKA.un S.free)) hm
  obtain ⟨⟨xek,xem⟩,⟨xak,xam⟩,⟨xsk,xsm⟩,⟨xdk,xdm⟩,xok,xom⟩:=S1.ks
  obtain ⟨m1,hm1e⟩ : ∃ mz : St,((n,msgC m yb ye) :: mu) = mz:=⟨_,rfl⟩
  rw [hm1e] at gA S1 b1 hKA hm1
  have ws1:=look_with (fz:=fz) S1.cells
  have wb1:=look_with (fz:=fz) b1
  rw [i_replica_step_all,dc_at b_replica_step_all.eq_1]
  unfold msgC at hm1e wb1 ⊢
  unfold stepC repC at ws1
  rw [hN] at ws1
  have hkH:=Hide.mk hk
  clear hk
  simp only [↓E1,E2,zA,zB,zC,zD,zE,zF,zG,zH,zI,zJ,zK,zL,zM,zN,reduceIte,zO,zP, *,with_putI,look_putS,putS_putS,Option.isSome_some,Option.map_some]
  refine loopI (x:=0) (L:=N) (p:=λ_=>true) (λi e mu' n'=>∃ o' xo',SW lo fz s o' mu' n' r (out ++ allM r m i) vd xe xa xs xd xo' ∧ Kp (· = 7) s (trim o n) o' m1 (n + 1) mu' n' ∧ e 0 0 = .one (.optr s 0) ∧ e 0 3 = .one (.optr n 0) ∧ e 0 9 = .one (I (N : Nat)) ∧ e 0 10 = .one (.int .i64 i)) (λ_ _ _=>False) ?_ ?_ _ _ _ _ _ (by omega) ?_ ?_ (by rintro ⟨_,_,_,h⟩; cases h)
  · rintro i e mu2 n2 K hi ⟨o2,xo2,S2,K2,e0,e3,e9,e10⟩ hY hn
    have hY':=Hide.mk hY
    clear hY hn
    have hw:=wrap_succ hi (by omega)
    have hsucc:=allM_succ r m i
    have hlen:=allM_length r m i
    have hon : trim o n n = 0:=trim_ge (Nat.le_refl _)
    have b2:=(K2.keep n (by omega) (by omega) (by rw [hon]; omega)).trans b1
    have ws2:=look_with (fz:=fz) S2.cells
    have wb2:=look_with (fz:=fz) b2
    have hiN : (i < N) = True:=by simp; exact hi
    obtain ⟨⟨xek,xem⟩,⟨xak,xam⟩,⟨xsk,xsm⟩,⟨xdk,xdm⟩,xok,xom⟩:=S2.ks
    unfold msgC at wb2
    unfold stepC repC at ws2
    clear ws1 wb1
    rw [dc_at l_replica_step_all_0.eq_1]
    simp only [↓E1,E2,zA,zB,zC,zD,zE,zF,zG,zH,zI,zJ,zK,zL,zM,zN,reduceIte,zO,zP, *,with_putI,look_putS,putS_putS,Option.isSome_some,Option.map_some]
    refine Br_intro (λhb=>?_) (λhb=>?_)
    · have hb' : (i : Int) = r.me:=of_decide_eq_true hb
      rw [if_pos hb'] at hsucc
      clear hb'
      rw [← hsucc] at S2
      simp only [↓E1,E2,zA,zB,zC,zD,zE,zF,zG,zH,zI,zJ,zK,zL,zM,zN,reduceIte,zO,zP, *,with_putI,look_putS,putS_putS,Option.isSome_some,Option.map_some]
      refine hY'.out rfl _ _ _ ⟨o2,xo2,S2,K2,?_,?_,?_,?_⟩
      all_goals simp [updN,updE, *]
    · have hb' : ¬ (i : Int) = r.me:=of_decide_eq_false hb
      rw [if_neg hb'] at hsucc
      clear hb'
      have hSend:=λ(k : KT Prop) (w : WK k)=>step_send H S2 (i : Nat) m yb ye (MsgS.mono (K2.un gA.free |>.trans Un.sub) hm1) hz (by rw [List.length_append]; omega) (k:=k) (w:=w)
      unfold msgC at hSend
      simp only [↓E1,E2,zA,zB,zC,zD,zE,zF,zG,zH,zI,zJ,zK,zL,zM,zN,reduceIte,zO,zP, *,with_putI,look_putS,putS_putS,Option.isSome_some,Option.map_some]
      refine hSend _ _ λm5 n5 o5 xo5 S5 K5=>?_
      rw [List.append_assoc,← hsucc] at S5
      simp only [↓E1,E2,zA,zB,zC,zD,zE,zF,zG,zH,zI,zJ,zK,zL,zM,zN,reduceIte,zO,zP, *,with_putI,look_putS,putS_putS,Option.isSome_some,Option.map_some]
      refine hY'.out rfl _ _ _ ⟨o5,xo5,S5,K2.trans K5,?_,?_,?_,?_⟩
      all_goals simp [updN,updE, *]
  · rintro e mu2 n2 K ⟨o2,xo2,S2,K2,e0,e3,e9,e10⟩ hx
    have hx':=Hide.mk hx
    clear hx
    have hlt : ((N : Int) < N) = False:=by simp
    have hlt2 : (N < N) = False:=by simp
    rw [dc_at l_replica_step_all_0.eq_1]
    simp only [↓E1,E2,zA,zB,zC,zD,zE,zF,zG,zH,zI,zJ,zK,zL,zM,zN,reduceIte,zO,zP, *]
    refine hx'.out _ _ _ ⟨o2,xo2,S2,K2,?_,?_,?_,?_⟩
    all_goals simp [updN,updE, *]
  · refine ⟨trim o n,xo,by simpa [allM] using S1,Kp.refl,?_,?_,?_,?_⟩
    all_goals simp [updN,updE,envI]
  · rintro - e mu2 n2 ⟨o2,xo2,S2,K2,e0,e3,e9,e10⟩
    simp only [↓E1,E2,zA,zB,zC,zD,zE,zF,zG,zH,zI,zJ,zK,zL,zM,zN,reduceIte,zO,zP]
    exact hkH.out _ _ _ _ S2 (hKA.trans K2).trim
end Go.Proofs.YtnnjlnkoomeadaaGreat.Pv
namespace Go.Proofs.YtnnjlnkoomeadaaGreat.Pv
open Go.Ev Go.Ev.Rp
set_option maxRecDepth 100000
set_option maxHeartbeats 4000000
set_option linter.unusedSimpArgs false
set_option linter.unusedVariables false
set_option linter.unusedSectionVars false
section
variable {lo : Nat} {fz : Fz} {s : Nat} {o : Nat → Nat} {mu : St} {n : Nat} {r : Rep} {out : List Msg} {vd : Bool} {xe xa xs xd xo : SV}
theorem SW.grT (h : SW lo fz s o mu n r out vd xe xa xs xd xo) {mu' : St} {n' : Nat} (τ : Nat → Nat) (g : Gr n fz mu mu' n n') : SW lo fz s (tagN o n τ) mu' n' r out vd xe xa xs xd xo:=by
  have u : ∀ t,Sub (Tag o t (with' mu fz)) (Tag (tagN o n τ) t (with' mu' fz)):=λt=>Tag.old h.free (g.sub h.free (Nat.le_refl _))
  exact ⟨(g.own s h.slt).trans h.cells,h.rt.keep λt _ _=>u t,h.ot.keep (u 2) (u 7) (u 8),g.free,h.los,by rw [tagN_lt h.slt]; exact h.os,λj hj=>by rw [tagN_lt (Nat.lt_of_lt_of_le hj h.lon)]; exact h.zero j hj,h.fzl⟩
end
variable {P : Program} (H : Fs P)
include H
end Go.Proofs.YtnnjlnkoomeadaaGreat.Pv
namespace Go.Proofs.YtnnjlnkoomeadaaGreat.Pv
open Go.Ev Go.Ev.Rp
set_option maxRecDepth 100000
set_option maxHeartbeats 4000000
set_option linter.unusedSimpArgs false
set_option linter.unusedVariables false
set_option linter.unusedSectionVars false
variable {P : Program} (H : Fs P)
include H
theorem ref4_CopyLogG (l : Lg) (x : SV) (hL : l.ents.length ≤ 2513169434916) (hb : ∀ e ∈ l.ents,e.batch.length ≤ 4398046511104) : Ctr P n_ref4_CopyLog [.ag (lgC l x)] (λM=>EntsR M x l.ents) (λn _ M v=>∃ x',v = .ag (lgC l x') ∧ Grow n M 5 EntX x' l.ents):=Ctr.of H.mx H.ref4_CopyLog (λ_=>l.ents.length + 1) λfz mu n k hfr s1 hk=>by
  obtain ⟨xl,xs,xk,xm⟩:=s1.len
  rw [i_ref4_CopyLog,dc_at b_ref4_CopyLog.eq_1]
  unfold lgC
  simp only [↓E1,E2,zA,zB,zC,zD,zE,zF,zG,zH,zI,zJ,zK,zL,zM,zN,reduceIte,zO,zP, *,with_putI,look_putS,putS_putS,Option.isSome_some,Option.map_some]
  refine loopI (x:=0) (L:=l.ents.length) (p:=λ_=>true) (λi e mu' n'=>∃ xe,Gr n fz mu mu' n n' ∧ n + 3 ≤ n' ∧ Ev.look mu' n = some [I l.base,l.snap.sv,x] ∧ Ev.look mu' (n + 1) = some [I 0,.str 0 0,.nsl] ∧ Ev.look mu' (n + 1 + 1) = some [I l.base,l.snap.sv,xe] ∧ Grow (n + 3) (with' mu' fz) 5 EntX xe (l.ents.take i) ∧ e 0 1 = .one (.optr n 0) ∧ e 0 2 = .one (.optr (n + 1) 0) ∧ e 0 3 = .one (.optr (n + 1 + 1) 0) ∧ e 0 4 = .one (.int .i64 i)) (λ_ _ _=>False) ?_ ?_ _ _ _ _ _ (by omega) ?_ ?_ ?_
  · rintro i e mu1 n1 K hi ⟨xe,g1,h3,c0,c1,c2,G,e1,e2,e3,e4⟩ hy hn
    have hY:=Hide.mk hy
    clear hy hn
    have hw:=wrap_succ hi (by omega)
    have u1:=g1.sub hfr (Nat.le_refl _)
    obtain ⟨id,off,cap,B,b,rfl,p1,p2,p3,p4,p5⟩:=(EntsR.mono u1 s1).elem hi
    obtain ⟨bl,bs,bk,bm⟩:=p5.len
    unfold entC at p4
    have w0:=look_with (fz:=fz) c0
    have w2:=look_with (fz:=fz) c2
    have hne : (n1 = n) = False:=by simp; omega
    have hne2 : (n1 = n + 1 + 1) = False:=by simp; omega
    have hne3 : (n1 + 1 = n1) = False:=by simp
    have hmem : l.ents[i] ∈ l.ents:=List.getElem_mem hi
    rw [dc_at l_ref4_CopyLog_0.eq_1]
    simp only [↓E1,E2,zA,zB,zC,zD,zE,zF,zG,zH,zI,zJ,zK,zL,zM,zN,reduceIte,zO,zP, *,with_putI,look_putS,putS_putS,Option.isSome_some,Option.map_some]
    have gE:=(Gr.refl (lo:=n1) g1.free).cons (Nat.le_refl _) [I l.ents[i].view,I l.ents[i].client,I l.ents[i].session,I l.ents[i].number,b]
    have uE:=gE.sub g1.free (Nat.le_refl _)
    have q5:=PtsR.mono uE p5
    obtain ⟨h1,h2⟩:=onSrc_Sl (Sl.mono q5 (sub1 gE.free (c:=[])))
    rw [h1]; clear h1
    refine ⟨h2,app_empty gE.free (fits_le (by rw [List.length_map]; have:=hb _ hmem; omega) (by decide) (by decide)) pt_ok (λx' mu2 n2 g2 hx=>?_)⟩
    obtain ⟨xl2,xs2,xk2,xm2⟩:=SlX.len hx
    have l2:=g2.le
    have gF:=gE.trans (g2.weaken (by omega))
    have d1 : Ev.look mu2 n1 = some [I l.ents[i].view,I l.ents[i].client,I l.ents[i].session,I l.ents[i].number,b]:=(g2.own n1 (by omega)).trans (by rw [look_c,if_pos rfl])
    have d2:=(gF.own (n + 1 + 1) (by omega)).trans c2
    have d0:=(gF.own n (by omega)).trans c0
    have wd1:=look_with (fz:=fz) d1
    have wd2:=look_with (fz:=fz) d2
    obtain ⟨-,-,xek,xem⟩:=G.len
    clear w0 w2
    simp only [↓E1,E2,zA,zB,zC,zD,zE,zF,zG,zH,zI,zJ,zK,zL,zM,zN,reduceIte,zO,zP, *,with_putI,look_putS,putS_putS,Option.isSome_some,Option.map_some]
    have gP:=gF.put (id:=n1) (Nat.le_refl _) d1 (c:=[I l.ents[i].view,I l.ents[i].client,I l.ents[i].session,I l.ents[i].number,x'])
    have gG:=gP.cons (by omega) [I l.ents[i].view,I l.ents[i].client,I l.ents[i].session,I l.ents[i].number,x']
    have uG : Sub (From (n1 + 1) (with' mu2 fz)) (From n1 (with' ((n2,[I l.ents[i].view,I l.ents[i].client,I l.ents[i].session,I l.ents[i].number,x']) :: putS mu2 n1 [I l.ents[i].view,I l.ents[i].client,I l.ents[i].session,I l.ents[i].number,x']) fz)):=λj B hj=>by
      obtain ⟨h4,h5⟩:=From.el hj
      have h6:=g2.free.lt h5
      exact From.at (by omega) (by rw [with_c,if_neg (by omega),with_putS d1,if_neg (by omega)]; exact h5)
    refine Grow.more (R:=EntX) (λh g=>EntX.mono h g) (a:=l.ents[i]) G g1.free h3 (λj hj=>hfr.fz j (by omega)) gG ⟨x',rfl,PtsX.mono uG hx⟩ ⟨rfl,by simp only [↓E1,E2,zA,zB,zC,zD,zE,zF,zG,zH,zI,zJ,zK,zL,zM,zN,reduceIte,zO,zP, *]⟩ (fits_le (by rw [List.length_take]; omega) (by decide) (by decide)) (λmu3 g3 G3=>?_)
    have f2:=(g3.own (n + 1 + 1) (by omega)).trans c2
    have f1:=(g3.own (n + 1) (by omega)).trans c1
    have f0:=(g3.own n (by omega)).trans c0
    clear wd1 wd2 hx q5 p1
    simp only [↓E1,E2,zA,zB,zC,zD,zE,zF,zG,zH,zI,zJ,zK,zL,zM,zN,reduceIte,zO,zP, *,with_putI,look_putS,putS_putS,Option.isSome_some,Option.map_some]
    refine hY.out rfl _ _ _ ⟨_,(g1.trans (g3.weaken (by omega))).put (by omega) f2,by omega,by rw [look_putS,if_neg (by omega)]; exact f0,by rw [look_putS,if_neg (by omega)]; exact f1,by rw [look_putS,if_pos rfl,f2]; rfl,Grow.mono (R:=EntX) (λh g=>EntX.mono h g) ?_ (From.put (by omega) f2),?_,?_,?_,?_⟩
    · rw [List.take_succ_eq_append_getElem hi]; exact G3
    all_goals simp [updN,updE, *]
  · rintro e mu1 n1 K ⟨xe,g1,h3,c0,c1,c2,G,e1,e2,e3,e4⟩ hx
    have hX:=Hide.mk hx
    clear hx
    have w0:=look_with (fz:=fz) c0
    have hlt : ((l.ents.length : Int) < l.ents.length) = False:=by simp
    have hlt2 : (l.ents.length < l.ents.length) = False:=by simp
    rw [dc_at l_ref4_CopyLog_0.eq_1]
    simp only [↓E1,E2,zA,zB,zC,zD,zE,zF,zG,zH,zI,zJ,zK,zL,zM,zN,reduceIte,zO,zP, *]
    exact hX.out _ _ _ ⟨xe,g1,h3,c0,c1,c2,G,by simp [updN,updE,e1],by simp [updN,updE,e2],by simp [updN,updE,e3],by simp [updN,updE,e4]⟩
  · exact ⟨.nsl,gr3 hfr,by omega,by rw [look_c,if_neg (by omega),look_c,if_neg (by omega),look_c,if_pos rfl],by simp [look_c],by simp [look_c],Grow.nil,by simp [updN,updE],by simp [updN,updE],by simp [updN,updE],by simp [updN,updE]⟩
  · rintro - e1 mu1 n1 ⟨xe,g1,h3,c0,c1,c2,G,e1,e2,e3,e4⟩
    have b2:=look_with (fz:=fz) c2
    obtain ⟨-,-,zk,zm⟩:=G.len
    rw [List.take_length] at G
    have g2:=g1.put (id:=n + 1) (by omega) c1 (c:=[I l.base,l.snap.sv,xe])
    have hk2:=hk _ _ _ g2 ⟨xe,rfl,Grow.weaken (R:=EntX) (lo:=n + 3) (lo':=n) (λh g=>EntX.mono h g) (by omega) (Grow.mono (R:=EntX) (λh g=>EntX.mono h g) G (From.put (by omega) c1))⟩
    unfold lgC at hk2
    clear hk
    have hne : (n + 1 = n + 1 + 1) = False:=by simp
    simp only [↓E1,E2,zA,zB,zC,zD,zE,zF,zG,zH,zI,zJ,zK,zL,zM,zN,reduceIte,zO,zP, *,with_putI,look_putS,putS_putS,Option.isSome_some,Option.map_some]
  · rintro ⟨_,_,_,h⟩; cases h
theorem ref4_CopyLog (l : Lg) (x : SV) (hL : l.ents.length ≤ 2513169434916) (hb : ∀ e ∈ l.ents,e.batch.length ≤ 4398046511104) : Ctr P n_ref4_CopyLog [.ag (lgC l x)] (λM=>EntsR M x l.ents) (λn _ M v=>∃ x',v = .ag (lgC l x') ∧ EntsX (From n M) x' l.ents) :=
  (ref4_CopyLogG H l x hL hb).mono λ_ _ _ _ ⟨x',h1,h2⟩=>⟨x',h1,growEnts h2⟩
end Go.Proofs.YtnnjlnkoomeadaaGreat.Pv
namespace Go.Proofs.YtnnjlnkoomeadaaGreat.Pv
open Go.Ev Go.Ev.Rp
set_option maxRecDepth 100000
set_option maxHeartbeats 4000000
set_option linter.unusedSimpArgs false
set_option linter.unusedVariables false
set_option linter.unusedSectionVars false
variable {P : Program} (H : Fs P)
include H
theorem ref16_Copy (r : Rep) (xe xa xs xd : SV) (hz : RepSz r) : Ctr P n_ref16_Copy [.ag (repC r xe xa xs xd)] (λM=>RepS M r xe xa xs xd) (λn _ M v=>∃ xe' xa' xs' xd' o,v = .ag (repC r xe' xa' xs' xd') ∧ (∀ j,j < n → o j = 0) ∧ RepT o M r xe' xa' xs' xd'):=Ctr.of H.mx H.ref16_Copy (λ_=>r.dos.length + 1) λfz mu n k hfr s hk=>by
  obtain ⟨s1,s2,s3,s4⟩:=s
  obtain ⟨xel,xes,xek,xem⟩:=s1.len
  obtain ⟨xal,xas,xak,xam⟩:=s2.len
  obtain ⟨xsl,xss,xsk,xsm⟩:=s3.len
  obtain ⟨xdl,xds,xdk,xdm⟩:=s4.len
  have hE:=ref4_CopyLogG H r.log xe hz.log.ents hz.log.bat
  have hkH:=Hide.mk hk
  clear hk
  unfold lgC at hE
  rw [i_ref16_Copy,dc_at b_ref16_Copy.eq_1]
  unfold repC
  simp only [↓E1,E2,zA,zB,zC,zD,zE,zF,zG,zH,zI,zJ,zK,zL,zM,zN,reduceIte,zO,zP, *]
  refine hE.c1 (gr2 hfr).free (EntsR.mono (sub2 hfr) s1) ?_
  rintro v mu1' n1 g1 ⟨xe',rfl,hG⟩
  have l1:=g1.le
  have ga:=(gr2 hfr).trans (g1.weaken (by omega))
  have b1:=(g1.own n (by omega)).trans (by rw [look_c,if_neg (by omega),look_c,if_pos rfl])
  have b2:=(g1.own (n + 1) (by omega)).trans (by rw [look_c,if_pos rfl])
  obtain ⟨-,-,zek,zem⟩:=hG.len
  have gb:=ga.put (Nat.le_refl _) b1 (c:=[I r.me,I r.nodes,I r.view,I r.normal,I r.status,I r.commit,.bool r.sent,I r.log.base,r.log.snap.sv,xe',xa,xs,xd])
  have c1 : Ev.look (putS mu1' n [I r.me,I r.nodes,I r.view,I r.normal,I r.status,I r.commit,.bool r.sent,I r.log.base,r.log.snap.sv,xe',xa,xs,xd]) n = some [I r.me,I r.nodes,I r.view,I r.normal,I r.status,I r.commit,.bool r.sent,I r.log.base,r.log.snap.sv,xe',xa,xs,xd]:=by rw [look_putS,if_pos rfl,b1]; rfl
  have c2 : Ev.look (putS mu1' n [I r.me,I r.nodes,I r.view,I r.normal,I r.status,I r.commit,.bool r.sent,I r.log.base,r.log.snap.sv,xe',xa,xs,xd]) (n + 1) = some [I 0,I 0,I 0,I 0,I 0,I 0,.bool false,I 0,.str 0 0,.nsl,.nsl,.nsl,.nsl]:=by rw [look_putS,if_neg (by omega)]; exact b2
  have hG1:=Grow.mono (R:=EntX) (λh g=>EntX.mono h g) hG (From.put (fz:=fz) (d':=[I r.me,I r.nodes,I r.view,I r.normal,I r.status,I r.commit,.bool r.sent,I r.log.base,r.log.snap.sv,xe',xa,xs,xd]) (by omega) b1)
  have hne1 : (n1 = n) = False:=by simp; omega
  simp only [↓E1,E2,zA,zB,zC,zD,zE,zF,zG,zH,zI,zJ,zK,zL,zM,zN,reduceIte,zO,zP, *,with_putI,look_putS,putS_putS,Option.isSome_some,Option.map_some]
  obtain ⟨m2,hm2⟩ : ∃ m2,putS mu1' n [I r.me,I r.nodes,I r.view,I r.normal,I r.status,I r.commit,.bool r.sent,I r.log.base,r.log.snap.sv,xe',xa,xs,xd] = m2:=⟨_,rfl⟩
  rw [hm2] at gb c1 c2 hG1
  try rw [hm2]
  have e2 : ∀ j,n + 2 ≤ j → j < n1 → with' m2 fz j = with' mu1' fz j:=λj h1 h2=>by rw [← hm2,with_putS b1,if_neg (by omega)]
  have hb1:=g1.free
  clear hm2 b1 b2 ga g1
  obtain ⟨h1,h2⟩:=onSrc_Sl (Sl.mono (IntsR.mono (gb.sub hfr (Nat.le_refl _)) s2) (sub1 gb.free (c:=[])))
  rw [h1]; clear h1
  refine ⟨h2,app_empty gb.free (fits_le (by rw [List.length_map]; have:=hz.acks; omega) (by decide) (by decide)) int_ok (λxa' m3' n2 gn2 hxxa=>?_)⟩
  clear h2
  have ln2:=gn2.le
  obtain ⟨-,-,zxak,zxam⟩:=SlX.len hxxa
  have d1:=(gn2.own n (by omega)).trans c1
  have d2:=(gn2.own (n + 1) (by omega)).trans c2
  have gc:=(gb.trans (gn2.weaken (by omega))).put (Nat.le_refl _) d1 (c:=[I r.me,I r.nodes,I r.view,I r.normal,I r.status,I r.commit,.bool r.sent,I r.log.base,r.log.snap.sv,xe',xa',xs,xd])
  have uc:=From.put (fz:=fz) (lo:=n + 2) (d':=[I r.me,I r.nodes,I r.view,I r.normal,I r.status,I r.commit,.bool r.sent,I r.log.base,r.log.snap.sv,xe',xa',xs,xd]) (by omega) d1
  have uc1:=From.put (fz:=fz) (lo:=n1) (d':=[I r.me,I r.nodes,I r.view,I r.normal,I r.status,I r.commit,.bool r.sent,I r.log.base,r.log.snap.sv,xe',xa',xs,xd]) (by omega) d1
  have c1' : Ev.look (putS m3' n [I r.me,I r.nodes,I r.view,I r.normal,I r.status,I r.commit,.bool r.sent,I r.log.base,r.log.snap.sv,xe',xa',xs,xd]) n = some [I r.me,I r.nodes,I r.view,I r.normal,I r.status,I r.commit,.bool r.sent,I r.log.base,r.log.snap.sv,xe',xa',xs,xd]:=by rw [look_putS,if_pos rfl,d1]; rfl
  have c2' : Ev.look (putS m3' n [I r.me,I r.nodes,I r.view,I r.normal,I r.status,I r.commit,.bool r.sent,I r.log.base,r.log.snap.sv,xe',xa',xs,xd]) (n + 1) = some [I 0,I 0,I 0,I 0,I 0,I 0,.bool false,I 0,.str 0 0,.nsl,.nsl,.nsl,.nsl]:=by rw [look_putS,if_neg (by omega)]; exact d2
  have hG2:=Grow.mono (R:=EntX) (λh g=>EntX.mono h g) hG1 ((From.mono (gn2.sub gb.free (Nat.le_refl _))).trans uc)
  have hA2:=SlX.mono hxxa uc1
  have hne2 : (n2 = n) = False:=by simp; omega
  simp only [↓E1,E2,zA,zB,zC,zD,zE,zF,zG,zH,zI,zJ,zK,zL,zM,zN,reduceIte,zO,zP, *,with_putI,look_putS,putS_putS,Option.isSome_some,Option.map_some]
  obtain ⟨m3,hm3⟩ : ∃ m3,putS m3' n [I r.me,I r.nodes,I r.view,I r.normal,I r.status,I r.commit,.bool r.sent,I r.log.base,r.log.snap.sv,xe',xa',xs,xd] = m3:=⟨_,rfl⟩
  rw [hm3] at gc c1' c2' hG2 hA2
  try rw [hm3]
  have e3 : ∀ j,n + 2 ≤ j → j < n1 → with' m3 fz j = with' mu1' fz j:=λj h1 h2=>by rw [← hm3,with_putS d1,if_neg (by omega),gn2.ext j h2]; exact e2 j h1 h2
  have e3' : ∀ j,n1 ≤ j → with' m3 fz j = with' m3' fz j:=λj h1=>by rw [← hm3,with_putS d1,if_neg (by omega)]
  have hb2:=gn2.free
  clear hm3 hG1 d1 d2 uc uc1
  have hmid:=gc.free
  clear c1 c2
  have c1:=c1'
  have c2:=c2'
  clear c1' c2'
  have gb':=gb
  clear gb
  have gb:=gc
  clear gc
  obtain ⟨h1,h2⟩:=onSrc_Sl (Sl.mono (IntsR.mono (gb.sub hfr (Nat.le_refl _)) s3) (sub1 gb.free (c:=[])))
  rw [h1]; clear h1
  refine ⟨h2,app_empty gb.free (fits_le (by rw [List.length_map]; have:=hz.starts; omega) (by decide) (by decide)) int_ok (λxs' m4' n3 gn3 hxxs=>?_)⟩
  clear h2
  have ln3:=gn3.le
  obtain ⟨-,-,zxsk,zxsm⟩:=SlX.len hxxs
  have d1:=(gn3.own n (by omega)).trans c1
  have d2:=(gn3.own (n + 1) (by omega)).trans c2
  have gc:=(gb.trans (gn3.weaken (by omega))).put (Nat.le_refl _) d1 (c:=[I r.me,I r.nodes,I r.view,I r.normal,I r.status,I r.commit,.bool r.sent,I r.log.base,r.log.snap.sv,xe',xa',xs',.nsl])
  have uc:=From.put (fz:=fz) (lo:=n + 2) (d':=[I r.me,I r.nodes,I r.view,I r.normal,I r.status,I r.commit,.bool r.sent,I r.log.base,r.log.snap.sv,xe',xa',xs',.nsl]) (by omega) d1
  have uc1:=From.put (fz:=fz) (lo:=n1) (d':=[I r.me,I r.nodes,I r.view,I r.normal,I r.status,I r.commit,.bool r.sent,I r.log.base,r.log.snap.sv,xe',xa',xs',.nsl]) (by omega) d1
  have uc2:=From.put (fz:=fz) (lo:=n2) (d':=[I r.me,I r.nodes,I r.view,I r.normal,I r.status,I r.commit,.bool r.sent,I r.log.base,r.log.snap.sv,xe',xa',xs',.nsl]) (by omega) d1
  have c1' : Ev.look (putS m4' n [I r.me,I r.nodes,I r.view,I r.normal,I r.status,I r.commit,.bool r.sent,I r.log.base,r.log.snap.sv,xe',xa',xs',.nsl]) n = some [I r.me,I r.nodes,I r.view,I r.normal,I r.status,I r.commit,.bool r.sent,I r.log.base,r.log.snap.sv,xe',xa',xs',.nsl]:=by rw [look_putS,if_pos rfl,d1]; rfl
  have c2' : Ev.look (putS m4' n [I r.me,I r.nodes,I r.view,I r.normal,I r.status,I r.commit,.bool r.sent,I r.log.base,r.log.snap.sv,xe',xa',xs',.nsl]) (n + 1) = some [I 0,I 0,I 0,I 0,I 0,I 0,.bool false,I 0,.str 0 0,.nsl,.nsl,.nsl,.nsl]:=by rw [look_putS,if_neg (by omega)]; exact d2
  have hG3:=Grow.mono (R:=EntX) (λh g=>EntX.mono h g) hG2 ((From.mono (gn3.sub gb.free (Nat.le_refl _))).trans uc)
  have hA3:=SlX.mono hA2 ((From.mono (gn3.sub gb.free (Nat.le_refl _))).trans uc1)
  have hS3:=SlX.mono hxxs uc2
  simp only [↓E1,E2,zA,zB,zC,zD,zE,zF,zG,zH,zI,zJ,zK,zL,zM,zN,reduceIte,zO,zP, *,with_putI,look_putS,putS_putS,Option.isSome_some,Option.map_some]
  obtain ⟨m4,hm4⟩ : ∃ m4,putS m4' n [I r.me,I r.nodes,I r.view,I r.normal,I r.status,I r.commit,.bool r.sent,I r.log.base,r.log.snap.sv,xe',xa',xs',.nsl] = m4:=⟨_,rfl⟩
  rw [hm4] at gc c1' c2' hG3 hA3 hS3
  try rw [hm4]
  have e4 : ∀ j,n + 2 ≤ j → j < n2 → with' m4 fz j = with' m3 fz j:=λj h1 h2=>by rw [← hm4,with_putS d1,if_neg (by omega),gn3.ext j h2]
  have e4' : ∀ j,n2 ≤ j → with' m4 fz j = with' m4' fz j:=λj h1=>by rw [← hm4,with_putS d1,if_neg (by omega)]
  have hb3:=gn3.free
  clear hm4 hG2 d1 d2 uc uc1 uc2 hA2 c1 c2
  have hf4:=gc.free
  have hzd:=hz.dos
  refine loopI (x:=0) (L:=r.dos.length) (p:=λ_=>true) (λi e mu' n'=>∃ xdd,Gr n fz mu mu' n n' ∧ n3 ≤ n' ∧ Ev.look mu' n = some [I r.me,I r.nodes,I r.view,I r.normal,I r.status,I r.commit,.bool r.sent,I r.log.base,r.log.snap.sv,xe',xa',xs',xdd] ∧ Ev.look mu' (n + 1) = some [I 0,I 0,I 0,I 0,I 0,I 0,.bool false,I 0,.str 0 0,.nsl,.nsl,.nsl,.nsl] ∧ (∀ j,n + 2 ≤ j → j < n3 → Ev.look mu' j = Ev.look m4 j) ∧ Grow n3 (with' mu' fz) 6 DvX xdd (r.dos.take i) ∧ e 0 1 = .one (.optr n 0) ∧ e 0 2 = .one (.optr (n + 1) 0) ∧ e 0 3 = .one xd ∧ e 0 4 = .one (.int .i64 i)) (λ_ _ _=>False) ?_ ?_ _ _ _ _ _ (by omega) ?_ ?_ (by rintro ⟨_,_,_,h⟩; cases h)
  · rintro i e mu1 m1 K hi ⟨xdd,g1,h3,a1,a2,a3,G,e1,e2,e3,e4⟩ hy hn
    have hY:=Hide.mk hy
    clear hy hn
    have hw:=wrap_succ hi (by omega)
    obtain ⟨id,off,cap,B,b,rfl,p1,p2,p3,p4,p5⟩:=(DvsR.mono (g1.sub hfr (Nat.le_refl _)) s4).elem hi
    unfold dvC at p4
    obtain ⟨bl,bs,bk,bm⟩:=p5.len
    have hmem : r.dos[i] ∈ r.dos:=List.getElem_mem hi
    have hLd:=ref4_CopyLogG H r.dos[i].log b (hz.dlog _ hmem).ents (hz.dlog _ hmem).bat
    unfold lgC at hLd
    have w1:=look_with (fz:=fz) a1
    have hq1 : (m1 = n) = False:=by simp; omega
    rw [dc_at l_ref16_Copy_0.eq_1]
    simp only [↓E1,E2,zA,zB,zC,zD,zE,zF,zG,zH,zI,zJ,zK,zL,zM,zN,reduceIte,zO,zP, *,with_putI,look_putS,putS_putS,Option.isSome_some,Option.map_some]
    have gE:=(Gr.refl (lo:=m1) g1.free).cons (Nat.le_refl _) [I r.dos[i].frm,I r.dos[i].normal,I r.dos[i].commit,I r.dos[i].log.base,r.dos[i].log.snap.sv,b]
    refine hLd.c1 gE.free (EntsR.mono (gE.sub g1.free (Nat.le_refl _)) p5) ?_
    rintro v mu2 m2 g2 ⟨x',rfl,hGx⟩
    have l2:=g2.le
    obtain ⟨-,-,xk',xm'⟩:=hGx.len
    have gF:=gE.trans (g2.weaken (by omega))
    have d1 : Ev.look mu2 m1 = some [I r.dos[i].frm,I r.dos[i].normal,I r.dos[i].commit,I r.dos[i].log.base,r.dos[i].log.snap.sv,b]:=(g2.own m1 (by omega)).trans (by rw [look_c,if_pos rfl])
    have d0:=(gF.own n (by omega)).trans a1
    have wd1:=look_with (fz:=fz) d1
    have wd0:=look_with (fz:=fz) d0
    obtain ⟨-,-,ddk,ddm⟩:=G.len
    clear w1 p1
    have hq2 : (m2 = n) = False:=by simp; omega
    simp only [↓E1,E2,zA,zB,zC,zD,zE,zF,zG,zH,zI,zJ,zK,zL,zM,zN,reduceIte,zO,zP, *,with_putI,look_putS,putS_putS,Option.isSome_some,Option.map_some]
    have gP:=gF.put (id:=m1) (Nat.le_refl _) d1 (c:=[I r.dos[i].frm,I r.dos[i].normal,I r.dos[i].commit,I r.dos[i].log.base,r.dos[i].log.snap.sv,x'])
    have gG:=gP.cons (by omega) [I r.dos[i].frm,I r.dos[i].normal,I r.dos[i].commit,I r.dos[i].log.base,r.dos[i].log.snap.sv,x']
    have uG : Sub (From (m1 + 1) (with' mu2 fz)) (From m1 (with' ((m2,[I r.dos[i].frm,I r.dos[i].normal,I r.dos[i].commit,I r.dos[i].log.base,r.dos[i].log.snap.sv,x']) :: putS mu2 m1 [I r.dos[i].frm,I r.dos[i].normal,I r.dos[i].commit,I r.dos[i].log.base,r.dos[i].log.snap.sv,x']) fz)):=λj B hj=>by
      obtain ⟨h4,h5⟩:=From.el hj
      have h6:=g2.free.lt h5
      exact From.at (by omega) (by rw [with_c,if_neg (by omega),with_putS d1,if_neg (by omega)]; exact h5)
    refine Grow.more (R:=DvX) (λh g=>DvX.mono h g) (a:=r.dos[i]) G g1.free h3 (λj hj=>hfr.fz j (by omega)) gG ⟨x',rfl,EntsX.mono uG (growEnts hGx)⟩ ⟨rfl,by simp only [↓E1,E2,zA,zB,zC,zD,zE,zF,zG,zH,zI,zJ,zK,zL,zM,zN,reduceIte,zO,zP, *]⟩ (fits_le (by rw [List.length_take]; omega) (by decide) (by decide)) (λmu3 g3 G3=>?_)
    have f1:=(g3.own n (by omega)).trans a1
    have f2:=(g3.own (n + 1) (by omega)).trans a2
    clear wd0 wd1 hGx
    simp only [↓E1,E2,zA,zB,zC,zD,zE,zF,zG,zH,zI,zJ,zK,zL,zM,zN,reduceIte,zO,zP, *,with_putI,look_putS,putS_putS,Option.isSome_some,Option.map_some]
    refine hY.out rfl _ _ _ ⟨_,(g1.trans (g3.weaken (by omega))).put (by omega) f1,by omega,by rw [look_putS,if_pos rfl,f1]; rfl,by rw [look_putS,if_neg (by omega)]; exact f2,λj h4 h5=>by rw [look_putS,if_neg (by omega),g3.own j h5]; exact a3 j h4 h5,Grow.mono (R:=DvX) (λh g=>DvX.mono h g) ?_ (From.put (by omega) f1),?_,?_,?_,?_⟩
    · rw [List.take_succ_eq_append_getElem hi]; exact G3
    all_goals simp [updN,updE, *]
  · rintro e mu1 m1 K ⟨xdd,g1,h3,a1,a2,a3,G,e1,e2,e3,e4⟩ hx
    have hX:=Hide.mk hx
    clear hx
    have hlt : ((r.dos.length : Int) < r.dos.length) = False:=by simp
    have hlt2 : (r.dos.length < r.dos.length) = False:=by simp
    rw [dc_at l_ref16_Copy_0.eq_1]
    simp only [↓E1,E2,zA,zB,zC,zD,zE,zF,zG,zH,zI,zJ,zK,zL,zM,zN,reduceIte,zO,zP, *]
    exact hX.out _ _ _ ⟨xdd,g1,h3,a1,a2,a3,G,by simp [updN,updE,e1],by simp [updN,updE,e2],by simp [updN,updE,e3],by simp [updN,updE,e4]⟩
  · exact ⟨.nsl,gc,by omega,c1',c2',λ_ _ _=>rfl,Grow.nil,by simp [updN,updE],by simp [updN,updE],by simp [updN,updE],by simp [updN,updE]⟩
  · rintro - e1 mu1 m1 ⟨xdd,g1,h3,a1,a2,a3,G,f1,f2,f3,f4⟩
    rw [List.take_length] at G
    have w1:=look_with (fz:=fz) a1
    obtain ⟨-,-,ddk,ddm⟩:=G.len
    -- the tags
    obtain ⟨o1,ho1⟩ : ∃ o,o = tagN (tagN (tagN (λ_=>0) (n + 2) (splitT xe' 1 2)) n1 λ_=>3) n2 λ_=>4:=⟨_,rfl⟩
    obtain ⟨o,ho⟩ : ∃ o,o = tagN o1 n3 (splitT xdd 5 6):=⟨_,rfl⟩
    have hz0 : ∀ j,j < n + 2 → o j = 0:=λj hj=>by rw [ho,tagN_lt (by omega),ho1,tagN_lt (by omega),tagN_lt (by omega),tagN_lt hj]
    have vE : ∀ t j B,with' mu1' fz j = some B → n + 2 ≤ j → splitT xe' 1 2 j = t → Tag o t (with' (putS mu1 (n + 1) [I r.me,I r.nodes,I r.view,I r.normal,I r.status,I r.commit,.bool r.sent,I r.log.base,r.log.snap.sv,xe',xa',xs',xdd]) fz) j = some B:=λt j B hj h5 h6=>by
      have h7:=hb1.lt hj
      refine Tag.at (by rw [ho,tagN_lt (by omega),ho1,tagN_lt (by omega),tagN_lt h7,tagN_ge h5]; exact h6) ?_
      rw [with_putS a2,if_neg (by omega),with_congr (a3 j h5 (by omega)),e4 j h5 (by omega),e3 j h5 h7]; exact hj
    have vA : Sub (From n1 (with' m3' fz)) (Tag o 3 (with' (putS mu1 (n + 1) [I r.me,I r.nodes,I r.view,I r.normal,I r.status,I r.commit,.bool r.sent,I r.log.base,r.log.snap.sv,xe',xa',xs',xdd]) fz)):=λj B hj=>by
      obtain ⟨h5,h6⟩:=From.el hj
      have h7:=hb2.lt h6
      refine Tag.at (by rw [ho,tagN_lt (by omega),ho1,tagN_lt h7,tagN_ge h5]) ?_
      rw [with_putS a2,if_neg (by omega),with_congr (a3 j (by omega) (by omega)),e4 j (by omega) h7,e3' j h5]; exact h6
    have vS : Sub (From n2 (with' m4' fz)) (Tag o 4 (with' (putS mu1 (n + 1) [I r.me,I r.nodes,I r.view,I r.normal,I r.status,I r.commit,.bool r.sent,I r.log.base,r.log.snap.sv,xe',xa',xs',xdd]) fz)):=λj B hj=>by
      obtain ⟨h5,h6⟩:=From.el hj
      have h7:=hb3.lt h6
      refine Tag.at (by rw [ho,tagN_lt h7,ho1,tagN_ge h5]) ?_
      rw [with_putS a2,if_neg (by omega),with_congr (a3 j (by omega) h7),e4' j h5]; exact h6
    obtain ⟨ds,k1,k2⟩:=Grow.tag (R:=DvX) (λh g=>DvX.mono h g) (Grow.mono (R:=DvX) (λh g=>DvX.mono h g) G (From.put (lo:=n3) (fz:=fz) (d':=[I r.me,I r.nodes,I r.view,I r.normal,I r.status,I r.commit,.bool r.sent,I r.log.base,r.log.snap.sv,xe',xa',xs',xdd]) (by omega) a2)) (o:=o1) (a:=5) (b:=6)
    rw [← ho] at k1 k2
    obtain ⟨es,j1,j2⟩:=hG
    have hT : RepT o (with' (putS mu1 (n + 1) [I r.me,I r.nodes,I r.view,I r.normal,I r.status,I r.commit,.bool r.sent,I r.log.base,r.log.snap.sv,xe',xa',xs',xdd]) fz) r xe' xa' xs' xdd:=by
      refine ⟨⟨es,?_,j2.imp λc a h=>EntX.mono (λj B hj=>?_) h⟩,IntsX.mono vA hxxa,IntsX.mono vS hxxs,ds,k1,k2⟩
      · rcases j1 with h | ⟨id,q1,q2,q3⟩
        · exact .inl h
        · obtain ⟨q4,q5⟩:=From.el q2
          exact .inr ⟨id,q1,vE 1 id _ q5 q4 (by unfold splitT; rw [if_pos (by rw [q1]; rfl)]),q3⟩
      · obtain ⟨q1,q2⟩:=Ex.el hj
        obtain ⟨q3,q4⟩:=From.el q2
        exact vE 2 j B q4 q3 (by unfold splitT; rw [if_neg q1])
    have gz:=g1.put (id:=n + 1) (by omega) a2 (c:=[I r.me,I r.nodes,I r.view,I r.normal,I r.status,I r.commit,.bool r.sent,I r.log.base,r.log.snap.sv,xe',xa',xs',xdd])
    have hk2:=hkH.out _ _ _ gz ⟨xe',xa',xs',xdd,o,rfl,λj hj=>hz0 j (by omega),hT⟩
    unfold repC at hk2
    clear hkH
    simp only [↓E1,E2,zA,zB,zC,zD,zE,zF,zG,zH,zI,zJ,zK,zL,zM,zN,reduceIte,zO,zP, *,with_putI,look_putS,putS_putS,Option.isSome_some,Option.map_some]
end Go.Proofs.YtnnjlnkoomeadaaGreat.Pv
namespace Go.Proofs.YtnnjlnkoomeadaaGreat.Pv
open Go.Ev Go.Ev.Rp
set_option maxRecDepth 100000
set_option maxHeartbeats 4000000
set_option linter.unusedSimpArgs false
set_option linter.unusedVariables false
set_option linter.unusedSectionVars false
theorem Tag28.un {s : Nat} {o : Nat → Nat} {M : Fz} (hs : o s = 9) : Sub (Tag28 o M) (Un s o M):=λj B h=>by
  obtain ⟨h1,h2⟩:=Tag28.el h
  exact Un.at (by omega) (λe=>by rw [e,hs] at h1; omega) h2
theorem Kp.t28 {s : Nat} {o o' : Nat → Nat} {fz : Fz} {mu mu' : St} {n n' : Nat} (h : Kp (· = 7) s o o' mu n mu' n') (hs : o s = 9) (hf : Free fz mu n) : Sub (Tag28 o (with' mu fz)) (Tag28 o' (with' mu' fz)):=λj B hj=>by
  obtain ⟨h1,h2⟩:=Tag28.el hj
  have h3:=hf.lt h2
  exact Tag28.at (by rw [h.tags j h3]; exact h1) (by rw [with_congr (h.keep j h3 (λe=>by rw [e,hs] at h1; omega) (by omega))]; exact h2)
theorem Tag28.trim {o : Nat → Nat} {fz : Fz} {mu : St} {n : Nat} (hf : Free fz mu n) : Sub (Tag28 o (with' mu fz)) (Tag28 (Pv.trim o n) (with' mu fz)):=λj B hj=>by
  obtain ⟨h1,h2⟩:=Tag28.el hj
  exact Tag28.at (by rw [trim_lt (hf.lt h2)]; exact h1) h2
variable {P : Program} (H : Fs P)
include H
theorem play_send {lo : Nat} {fz : Fz} {s : Nat} {o : Nat → Nat} {mu : St} {n : Nat} {r : Rep} {out : List Msg} {vd : Bool} {xe xa xs xd xo : SV} (S : SW lo fz s o mu n r out vd xe xa xs xd xo) (to : Int) (m : Msg) (yb ye : SV)
    (hb : PtsX (Tag28 o (with' mu fz)) yb m.batch) (hm : EntsR (with' mu fz) ye m.log.ents) (hz : LgSz m.log) (hl : out.length ≤ 1000) {k : KT Prop} {w : WK k}
    (hk : ∀ mu' n' o' xo',SW lo fz s o' mu' n' r (out ++ [{ m with frm:=r.me,to:=to }]) vd xe xa xs xd xo' → Kp (· = 7) s o o' mu n mu' n' → k noVal mu' n') : CPh P n_ref16_play_send [.one (.optr s 0),.one (I to),.ag (msgC m yb ye)] fz mu n k w:=by
  refine CP_of H.ref16_play_send H.mx 0 ?_
  obtain ⟨-,-,ybk,ybm⟩:=SlX.len hb
  obtain ⟨-,-,yek,yem⟩:=hm.len
  have hC:=ref4_CopyLog H m.log ye hz.ents hz.bat
  have gA:=(Gr.refl (lo:=n) S.free).cons (Nat.le_refl _) (msgC { m with frm:=r.me,to:=to } yb ye)
  have hsn : s < n:=S.slt
  have S1:=S.gr gA
  have b1 : Ev.look ((n,msgC { m with frm:=r.me,to:=to } yb ye) :: mu) n = some (msgC { m with frm:=r.me,to:=to } yb ye):=by rw [look_c,if_pos rfl]
  have ws0:=look_with (fz:=fz) S.cells
  have hne : (n = s) = False:=by simp; omega
  obtain ⟨⟨xek,xem⟩,⟨xak,xam⟩,⟨xsk,xsm⟩,⟨xdk,xdm⟩,xok,xom⟩:=S1.ks
  obtain ⟨m1,hm1⟩ : ∃ mz : St,((n,msgC { m with frm:=r.me,to:=to } yb ye) :: mu) = mz:=⟨_,rfl⟩
  rw [hm1] at gA S1 b1
  have ws1:=look_with (fz:=fz) S1.cells
  have wb1:=look_with (fz:=fz) b1
  have hkH:=Hide.mk hk
  clear hk
  rw [i_ref16_play_send,dc_at b_ref16_play_send.eq_1]
  unfold lgC at hC
  unfold msgC at hm1 wb1 ⊢
  unfold stepC repC at ws0 ws1
  simp only [↓E1,E2,zA,zB,zC,zD,zE,zF,zG,zH,zI,zJ,zK,zL,zM,zN,reduceIte,zO,zP, *,with_putI,look_putS,putS_putS,Option.isSome_some,Option.map_some]
  refine hC.c1 S1.free (EntsR.mono (gA.sub S.free (Nat.le_refl _)) hm) ?_
  rintro v m2 n2 g2 ⟨xm,rfl,hxm⟩
  have l2:=g2.le
  obtain ⟨-,-,zek,zem⟩:=hxm.choose_spec.1.len
  have S2:=S1.gr g2
  have ws2:=look_with (fz:=fz) S2.cells
  have b2:=(g2.own n (by omega)).trans b1
  have wb2:=look_with (fz:=fz) b2
  unfold msgC at b2 wb2
  unfold stepC repC at ws2
  clear ws0 ws1 wb1
  have hne2 : (n2 = s) = False:=by simp; omega
  simp only [↓E1,E2,zA,zB,zC,zD,zE,zF,zG,zH,zI,zJ,zK,zL,zM,zN,reduceIte,zO,zP, *,with_putI,look_putS,putS_putS,Option.isSome_some,Option.map_some]
  have gP:=(gA.trans (g2.weaken (by omega))).put (Nat.le_refl _) b2 (c:=[I m.kind,I r.me,I to,I m.view,I m.normal,I m.at',I m.commit,I m.round,I m.client,I m.session,I m.number,I m.code,I m.agg,I m.until',m.series.sv,yb,I m.log.base,m.log.snap.sv,xm,m.text.sv])
  have gB:=gP.cons (by omega) [I m.kind,I r.me,I to,I m.view,I m.normal,I m.at',I m.commit,I m.round,I m.client,I m.session,I m.number,I m.code,I m.agg,I m.until',m.series.sv,yb,I m.log.base,m.log.snap.sv,xm,m.text.sv]
  have u2 : Sub (From (n + 1) (with' m2 fz)) (From n (with' ((n2,[I m.kind,I r.me,I to,I m.view,I m.normal,I m.at',I m.commit,I m.round,I m.client,I m.session,I m.number,I m.code,I m.agg,I m.until',m.series.sv,yb,I m.log.base,m.log.snap.sv,xm,m.text.sv]) :: putS m2 n [I m.kind,I r.me,I to,I m.view,I m.normal,I m.at',I m.commit,I m.round,I m.client,I m.session,I m.number,I m.code,I m.agg,I m.until',m.series.sv,yb,I m.log.base,m.log.snap.sv,xm,m.text.sv]) fz)):=λj B hj=>by
    obtain ⟨p1,p2⟩:=From.el hj
    have:=g2.free.lt p2
    exact From.at (by omega) (by rw [with_c,if_neg (by omega),with_putS b2,if_neg (by omega)]; exact p2)
  have ub : Sub (Tag28 o (with' mu fz)) (FT o n (with' ((n2,[I m.kind,I r.me,I to,I m.view,I m.normal,I m.at',I m.commit,I m.round,I m.client,I m.session,I m.number,I m.code,I m.agg,I m.until',m.series.sv,yb,I m.log.base,m.log.snap.sv,xm,m.text.sv]) :: putS m2 n [I m.kind,I r.me,I to,I m.view,I m.normal,I m.at',I m.commit,I m.round,I m.client,I m.session,I m.number,I m.code,I m.agg,I m.until',m.series.sv,yb,I m.log.base,m.log.snap.sv,xm,m.text.sv]) fz)):=λj B hj=>by
    obtain ⟨p1,p2⟩:=Tag28.el hj
    have p3:=S.free.lt p2
    have : with' ((n2,[I m.kind,I r.me,I to,I m.view,I m.normal,I m.at',I m.commit,I m.round,I m.client,I m.session,I m.number,I m.code,I m.agg,I m.until',m.series.sv,yb,I m.log.base,m.log.snap.sv,xm,m.text.sv]) :: putS m2 n [I m.kind,I r.me,I to,I m.view,I m.normal,I m.at',I m.commit,I m.round,I m.client,I m.session,I m.number,I m.code,I m.agg,I m.until',m.series.sv,yb,I m.log.base,m.log.snap.sv,xm,m.text.sv]) fz j = some B:=(gB.ext j p3).trans p2
    exact FT.tag j B (Tag28.at p1 this)
  refine SW.app S gB (m:={ m with frm:=r.me,to:=to }) (PtsX.mono ub hb) (EntsX.mono (u2.trans FT.from) hxm) hl λm3 o' xo' hko hs3 hS hKp=>?_
  have hkom:=known_mk hko
  unfold stepC repC at hs3
  have hk2:=hkH.out _ _ _ _ hS hKp
  unfold stepC repC at hk2
  clear hkH
  simp only [↓E1,E2,zA,zB,zC,zD,zE,zF,zG,zH,zI,zJ,zK,zL,zM,zN,reduceIte,zO,zP, *,with_putI,look_putS,putS_putS,Option.isSome_some,Option.map_some]
  exact hk2
theorem play_all {lo : Nat} {fz : Fz} {s : Nat} {o : Nat → Nat} {mu : St} {n : Nat} {r : Rep} {out : List Msg} {vd : Bool} {xe xa xs xd xo : SV} (S : SW lo fz s o mu n r out vd xe xa xs xd xo) (m : Msg) (yb ye : SV)
    (hb : PtsX (Tag28 o (with' mu fz)) yb m.batch) (hm : EntsR (Un s o (with' mu fz)) ye m.log.ents) (hz : LgSz m.log) (hl : out.length ≤ 900) {N : Nat} (hN : r.nodes = (N : Int)) (hN7 : N ≤ 7) {k : KT Prop} {w : WK k}
    (hk : ∀ mu' n' o' xo',SW lo fz s o' mu' n' r (out ++ allM r m N) vd xe xa xs xd xo' → Kp (· = 7) s o o' mu n mu' n' → k noVal mu' n') : CPh P n_ref16_play_all [.one (.optr s 0),.ag (msgC m yb ye)] fz mu n k w:=by
  refine CP_of H.ref16_play_all H.mx 9 ?_
  obtain ⟨-,-,ybk,ybm⟩:=SlX.len hb
  obtain ⟨-,-,yek,yem⟩:=hm.len
  have gA:=(Gr.refl (lo:=n) S.free).cons (Nat.le_refl _) (msgC m yb ye)
  have hsn : s < n:=S.slt
  have S1:=S.trim.gr gA
  have b1 : Ev.look ((n,msgC m yb ye) :: mu) n = some (msgC m yb ye):=by rw [look_c,if_pos rfl]
  have hKA : Kp (· = 7) s (trim o n) (trim o n) mu n ((n,msgC m yb ye) :: mu) (n + 1):=Gr.kp gA
  have hos : trim o n s = 9:=by rw [trim_lt hsn]; exact S.os
  have hm1 : EntsR (Un s (trim o n) (with' ((n,msgC m yb ye) :: mu) fz)) ye m.log.ents:=by
    have u : Sub (Un s o (with' mu fz)) (Un s (trim o n) (with' mu fz)):=λj B hj=>by
      obtain ⟨h1,h2,h3⟩:=Un.el hj
      exact Un.at (by rw [trim_lt (S.free.lt h3)]; exact h1) h2 h3
    exact EntsR.mono (u.trans (hKA.un S.free)) hm
  have hb1 : PtsX (Tag28 (trim o n) (with' ((n,msgC m yb ye) :: mu) fz)) yb m.batch:=PtsX.mono ((Tag28.trim S.free).trans (hKA.t28 hos S.free)) hb
  obtain ⟨m1,hm1e⟩ : ∃ mz : St,((n,msgC m yb ye) :: mu) = mz:=⟨_,rfl⟩
  rw [hm1e] at gA S1 b1 hKA hm1 hb1
  have ws1:=look_with (fz:=fz) S1.cells
  rw [i_ref16_play_all,dc_at b_ref16_play_all.eq_1]
  unfold msgC at hm1e ⊢
  have hkH:=Hide.mk hk
  clear hk
  simp only [↓E1,E2,zA,zB,zC,zD,zE,zF,zG,zH,zI,zJ,zK,zL,zM,zN,reduceIte,zO,zP, *,with_putI,look_putS,putS_putS,Option.isSome_some,Option.map_some]
  refine loopI (x:=0) (L:=N) (p:=λ_=>true) (λi e mu' n'=>∃ o' xo',SW lo fz s o' mu' n' r (out ++ allM r m i) vd xe xa xs xd xo' ∧ Kp (· = 7) s (trim o n) o' m1 (n + 1) mu' n' ∧ e 0 0 = .one (.optr s 0) ∧ e 0 3 = .one (.optr n 0) ∧ e 0 4 = .one (.int .i64 i)) (λ_ _ _=>False) ?_ ?_ _ _ _ _ _ (by omega) ?_ ?_ (by rintro ⟨_,_,_,h⟩; cases h)
  · rintro i e mu2 n2 K hi ⟨o2,xo2,S2,K2,e0,e3,e4⟩ hY hn
    have hY':=Hide.mk hY
    clear hY hn
    have hw:=wrap_succ hi (by omega)
    have hsucc:=allM_succ r m i
    have hlen:=allM_length r m i
    have hon : trim o n n = 0:=trim_ge (Nat.le_refl _)
    have b2:=(K2.keep n (by omega) (by omega) (by rw [hon]; omega)).trans b1
    have ws2:=look_with (fz:=fz) S2.cells
    have wb2:=look_with (fz:=fz) b2
    have hiN : (i < N) = True:=by simp; exact hi
    obtain ⟨⟨xek,xem⟩,⟨xak,xam⟩,⟨xsk,xsm⟩,⟨xdk,xdm⟩,xok,xom⟩:=S2.ks
    unfold msgC at wb2
    unfold stepC repC at ws2
    rw [hN] at ws2
    clear ws1
    rw [dc_at l_ref16_play_all_0.eq_1]
    simp only [↓E1,E2,zA,zB,zC,zD,zE,zF,zG,zH,zI,zJ,zK,zL,zM,zN,reduceIte,zO,zP, *,with_putI,look_putS,putS_putS,Option.isSome_some,Option.map_some]
    refine Br_intro (λhb=>?_) (λhb=>?_)
    · have hb' : (i : Int) = r.me:=of_decide_eq_true hb
      rw [if_pos hb'] at hsucc
      clear hb'
      rw [← hsucc] at S2
      simp only [↓E1,E2,zA,zB,zC,zD,zE,zF,zG,zH,zI,zJ,zK,zL,zM,zN,reduceIte,zO,zP, *,with_putI,look_putS,putS_putS,Option.isSome_some,Option.map_some]
      refine hY'.out rfl _ _ _ ⟨o2,xo2,S2,K2,?_,?_,?_⟩
      all_goals simp [updN,updE, *]
    · have hb' : ¬ (i : Int) = r.me:=of_decide_eq_false hb
      rw [if_neg hb'] at hsucc
      clear hb'
      have hSend:=λ(k : KT Prop) (w : WK k)=>play_send H S2 (i : Nat) m yb ye (PtsX.mono (K2.t28 hos gA.free) hb1) (EntsR.mono (K2.un gA.free |>.trans Un.sub) hm1) hz (by rw [List.length_append]; omega) (k:=k) (w:=w)
      unfold msgC at hSend
      simp only [↓E1,E2,zA,zB,zC,zD,zE,zF,zG,zH,zI,zJ,zK,zL,zM,zN,reduceIte,zO,zP, *,with_putI,look_putS,putS_putS,Option.isSome_some,Option.map_some]
      refine hSend _ _ λm5 n5 o5 xo5 S5 K5=>?_
      rw [List.append_assoc,← hsucc] at S5
      simp only [↓E1,E2,zA,zB,zC,zD,zE,zF,zG,zH,zI,zJ,zK,zL,zM,zN,reduceIte,zO,zP, *,with_putI,look_putS,putS_putS,Option.isSome_some,Option.map_some]
      refine hY'.out rfl _ _ _ ⟨o5,xo5,S5,K2.trans K5,?_,?_,?_⟩
      all_goals simp [updN,updE, *]
  · rintro e mu2 n2 K ⟨o2,xo2,S2,K2,e0,e3,e4⟩ hx
    have hx':=Hide.mk hx
    clear hx
    have hlt : ((N : Int) < N) = False:=by simp
    have hlt2 : (N < N) = False:=by simp
    have ws2:=look_with (fz:=fz) S2.cells
    unfold stepC repC at ws2
    rw [hN] at ws2
    rw [dc_at l_ref16_play_all_0.eq_1]
    simp only [↓E1,E2,zA,zB,zC,zD,zE,zF,zG,zH,zI,zJ,zK,zL,zM,zN,reduceIte,zO,zP, *]
    refine hx'.out _ _ _ ⟨o2,xo2,S2,K2,?_,?_,?_⟩
    all_goals simp [updN,updE, *]
  · refine ⟨trim o n,xo,by simpa [allM] using S1,Kp.refl,?_,?_,?_⟩
    all_goals simp [updN,updE,envI]
  · rintro - e mu2 n2 ⟨o2,xo2,S2,K2,e0,e3,e4⟩
    simp only [↓E1,E2,zA,zB,zC,zD,zE,zF,zG,zH,zI,zJ,zK,zL,zM,zN,reduceIte,zO,zP]
    exact hkH.out _ _ _ _ S2 (hKA.trans K2).trim
end Go.Proofs.YtnnjlnkoomeadaaGreat.Pv
namespace Go.Proofs.YtnnjlnkoomeadaaGreat.Pv
open Go.Ev Go.Ev.Rp
set_option maxRecDepth 100000
set_option maxHeartbeats 4000000
set_option linter.unusedSimpArgs false
set_option linter.unusedVariables false
set_option linter.unusedSectionVars false
def addE (r : Rep) (e : Ent) : Rep:={ r with log:={ r.log with ents:=r.log.ents ++ [e] } }
def F2 (o : Nat → Nat) (n : Nat) (M : Fz) : Fz:=λj=>if n ≤ j ∨ o j = 2 then M j else none
theorem F2.el {o : Nat → Nat} {n j : Nat} {M : Fz} {B : List SV} (h : F2 o n M j = some B) : (n ≤ j ∨ o j = 2) ∧ M j = some B:=by
  unfold F2 at h
  split at h
  · rename_i e; exact ⟨e,h⟩
  · cases h
theorem F2.at {o : Nat → Nat} {n j : Nat} {M : Fz} {B : List SV} (h : n ≤ j ∨ o j = 2) (g : M j = some B) : F2 o n M j = some B:=by unfold F2; rw [if_pos h]; exact g
theorem SW.put0 {lo : Nat} {fz : Fz} {s : Nat} {o : Nat → Nat} {mu : St} {n : Nat} {r : Rep} {out : List Msg} {vd : Bool} {xe xa xs xd xo : SV} (S : SW lo fz s o mu n r out vd xe xa xs xd xo) {id : Nat} {c d : List SV} (h : Ev.look mu id = some d) (ho : o id = 0) : SW lo fz s o (putS mu id c) n r out vd xe xa xs xd xo:=by
  have u : ∀ t,t ≠ 0 → Sub (Tag o t (with' mu fz)) (Tag o t (with' (putS mu id c) fz)):=λt ht=>Tag.put (lookI h) (by rw [ho]; omega)
  have hne : id ≠ s:=λe=>by have:=S.os; rw [← e,ho] at this; omega
  refine ⟨by rw [look_putS,if_neg hne]; exact S.cells,S.rt.keep λt h1 h2=>u t (by omega),S.ot.keep (u 2 (by omega)) (u 7 (by omega)) (u 8 (by omega)),λj=>?_,S.los,S.os,S.zero,S.fzl⟩
  have:=S.free.lt (look_with (fz:=fz) h)
  rw [with_putS h,if_neg (by omega)]; exact S.free j
theorem SW.kill0 {lo : Nat} {fz : Fz} {s : Nat} {o : Nat → Nat} {mu : St} {n : Nat} {r : Rep} {out : List Msg} {vd : Bool} {xe xa xs xd xo : SV} (S : SW lo fz s o mu n r out vd xe xa xs xd xo) {id : Nat} (ho : o id = 0) (hfz : fz id = none) : SW lo fz s o (killS mu id) n r out vd xe xa xs xd xo:=by
  have hw : ∀ j,j ≠ id → with' (killS mu id) fz j = with' mu fz j:=λj hj=>with_congr (by rw [look_killS,if_neg (by omega)])
  have u : ∀ t,t ≠ 0 → Sub (Tag o t (with' mu fz)) (Tag o t (with' (killS mu id) fz)):=λt ht j B hj=>by
    obtain ⟨p1,p2⟩:=Tag.el hj
    exact Tag.at p1 (by rw [hw j (λe=>by rw [e,ho] at p1; omega)]; exact p2)
  have hne : id ≠ s:=λe=>by have:=S.os; rw [← e,ho] at this; omega
  refine ⟨by rw [look_killS,if_neg hne]; exact S.cells,S.rt.keep λt h1 h2=>u t (by omega),S.ot.keep (u 2 (by omega)) (u 7 (by omega)) (u 8 (by omega)),λj=>?_,S.los,S.os,S.zero,S.fzl⟩
  by_cases e : n + j = id
  · rw [with_look (by rw [e]; exact hfz),e,look_killS,if_pos rfl]
  · rw [hw _ e]; exact S.free j
theorem look_kc {m : St} {id : Nat} {c d : List SV} (h : Ev.look m id = some d) (j : Nat) : Ev.look ((id,c) :: killS m id) j = Ev.look (putS m id c) j:=by
  rw [look_c,look_killS,look_putS]
  by_cases e : id = j
  · rw [if_pos e,if_pos e,h]; rfl
  · rw [if_neg e,if_neg e,if_neg e]
theorem SW.appE {lo : Nat} {fz : Fz} {s : Nat} {o : Nat → Nat} {mu : St} {n : Nat} {r : Rep} {out : List Msg} {vd : Bool} {xe xa xs xd xo : SV} (S : SW lo fz s o mu n r out vd xe xa xs xd xo) {mu2 : St} {n2 : Nat} (g : Gr n fz mu mu2 n n2) {e : Ent} {b : SV}
    (hb : PtsX (F2 o n (with' mu2 fz)) b e.batch) (hl : r.log.ents.length ≤ 1000000) {K : KT Prop}
    (hk : ∀ m3 o' xe',xe'.known = true → Ev.look m3 s = some (stepC r xe xa xs xd xo vd) → SW lo fz s o' (putS m3 s (stepC (addE r e) xe' xa xs xd xo vd)) (n2 + 1) (addE r e) out vd xe' xa xs xd xo → Kp (· = 1) s o o' mu n (putS m3 s (stepC (addE r e) xe' xa xs xd xo vd)) (n2 + 1) → PtsX (Tag28 o' (with' (putS m3 s (stepC (addE r e) xe' xa xs xd xo vd)) fz)) b e.batch →
      (∀ j,n ≤ j → j ≠ n2 → Ev.look m3 j = Ev.look mu2 j) → K (.one xe') m3 (n2 + 1)) :
    onApp mu2 n2 5 56 xe (entC e b) 1 K:=by
  obtain ⟨⟨cs,h1,h2⟩,h3,h4,ds,h5,h6⟩:=S.rt
  have hcl:=h2.length
  have hfz : ∀ j,o j ≠ 0 → fz j = none:=λj hj=>S.fzl j (S.ge hj)
  have hG : ∀ id B,Tag o 1 (with' mu fz) id = some B → Ev.look mu2 id = some B:=λid B h=>by
    obtain ⟨p1,p2⟩:=Tag.el h
    have p3:=S.free.lt p2
    rw [with_look (hfz id (by omega))] at p2
    exact (g.own id p3).trans p2
  obtain ⟨-,-,zbk,-⟩:=SlX.len hb
  have hkn : knownAll (entC e b) = true:=by unfold entC; simp only [↓E1,E2,zA,zB,zC,zD,zE,zF,zG,zH,zI,zJ,zK,zL,zM,zN,reduceIte,zO,zP, *]
  have hfl : onApp mu2 n2 5 56 xe ([entC e b] : List (List SV)).flatten ([entC e b] : List (List SV)).length K:=by
    refine onApp_more (G:=Tag o 1 (with' mu fz)) h1 hG (by rw [hcl]; exact fits_le (by simp; omega) (by decide) (by decide)) (by simp) (λe he=>by rw [List.mem_singleton.1 he]; exact ⟨rfl,hkn⟩) λm3 ho hn=>?_
    have hsame : ∀ j,j ≠ n2 → (j < n → o j ≠ 1) → Ev.look m3 j = Ev.look mu2 j:=λj hj h7=>by
      rcases ho j hj with h | ⟨B,p1,-⟩
      · exact h
      · obtain ⟨p2,p3⟩:=Tag.el p1
        exact (h7 (S.free.lt p3) p2).elim
    have hs2 : s < n:=S.slt
    have hln:=g.le
    have hs3 : Ev.look m3 s = some (stepC r xe xa xs xd xo vd):=(hsame s (by omega) (λ_=>by rw [S.os]; omega)).trans ((g.own s hs2).trans S.cells)
    have hlon:=S.lon
    let o' : Nat → Nat:=tagN o n λj=>if j = n2 then 1 else 2
    have ho1 : ∀ j,j < n → o' j = o j:=λj hj=>tagN_lt hj
    have ho2 : o' n2 = 1:=by show tagN o n _ n2 = 1; rw [tagN_ge hln]; simp
    have ho3 : ∀ j,n ≤ j → j ≠ n2 → o' j = 2:=λj hj hne=>by show tagN o n _ j = 2; rw [tagN_ge hj,if_neg hne]
    have hput : ∀ (x' : SV) j,j ≠ s → with' (putS m3 s (stepC (addE r e) x' xa xs xd xo vd)) fz j = with' m3 fz j:=λx' j hj=>by rw [with_putS hs3,if_neg (by omega)]
    have u : ∀ (x' : SV) t,t ≠ 1 → t ≠ 9 → t ≠ 0 → Sub (Tag o t (with' mu fz)) (Tag o' t (with' (putS m3 s (stepC (addE r e) x' xa xs xd xo vd)) fz)):=λx' t ht ht9 ht0 j B hj=>by
      obtain ⟨p1,p2⟩:=Tag.el hj
      have p3:=S.free.lt p2
      refine Tag.at (by rw [ho1 j p3]; exact p1) ?_
      rw [hput x' j (λe=>by rw [e,S.os] at p1; omega),with_congr (hsame j (by omega) (λ_=>by omega)),g.ext j p3]; exact p2
    have uN : ∀ (x' : SV),Sub (F2 o n (with' mu2 fz)) (Tag o' 2 (with' (putS m3 s (stepC (addE r e) x' xa xs xd xo vd)) fz)):=λx' j B hj=>by
      obtain ⟨p1,p2⟩:=F2.el hj
      have p3:=g.free.lt p2
      rcases Nat.lt_or_ge j n with hjn | hjn
      · have p4 : o j = 2:=p1.resolve_left (by omega)
        refine Tag.at (by rw [ho1 j hjn]; exact p4) ?_
        rw [hput x' j (λe=>by rw [e,S.os] at p4; omega),with_congr (hsame j (by omega) (λ_=>by omega))]; exact p2
      · refine Tag.at (ho3 j hjn (by omega)) ?_
        rw [hput x' j (by omega),with_congr (hsame j (by omega) (λ_=>by omega))]; exact p2
    have hn7 : ∀ (x' : SV),with' (putS m3 s (stepC (addE r e) x' xa xs xd xo vd)) fz n2 = some (cs ++ [entC e b]).flatten:=λx'=>by rw [hput x' n2 (by omega)]; exact look_with hn
    have hfree : ∀ (x' : SV),Free fz (putS m3 s (stepC (addE r e) x' xa xs xd xo vd)) (n2 + 1):=λx' j=>by
      rw [hput x' _ (by omega),with_congr (hsame (n2 + 1 + j) (by omega) (λ_=>by omega))]
      exact g.free.none (by omega)
    have hkf : ∀ e' ∈ cs ++ [entC e b],e'.length = 5 ∧ knownAll e' = true:=λe' he=>by
      rcases List.mem_append.1 he with he | he
      · rcases h1 with ⟨_,rfl⟩ | ⟨id,_,_,_,h4⟩
        · cases he
        · exact h4 e' he
      · rw [List.mem_singleton.1 he]; exact ⟨rfl,hkn⟩
    refine hk m3 o' _ rfl hs3 ⟨by rw [look_putS,if_pos rfl,hs3]; rfl,⟨⟨cs ++ [entC e b],.inr ⟨n2,rfl,Tag.at ho2 (hn7 _),mkd_known (knownAll_flat hkf),hkf⟩,?_⟩,IntsX.mono (u _ 3 (by omega) (by omega) (by omega)) h3,IntsX.mono (u _ 4 (by omega) (by omega) (by omega)) h4,ds,h5.mono (u _ 5 (by omega) (by omega) (by omega)),h6.imp λc a g=>DvX.mono (u _ 6 (by omega) (by omega) (by omega)) g⟩,
      S.ot.keep (u _ 2 (by omega) (by omega) (by omega)) (u _ 7 (by omega) (by omega) (by omega)) (u _ 8 (by omega) (by omega) (by omega)),hfree _,S.los,by rw [ho1 s hs2]; exact S.os,λj hj=>by rw [ho1 j (by omega)]; exact S.zero j hj,S.fzl⟩ ⟨by omega,ho1,λj hj hjs h7=>?_⟩ ?_ (λj h1 h2=>hsame j h2 (λh=>by omega))
    · exact All2.append (h2.imp λc a h=>EntX.mono (u _ 2 (by omega) (by omega) (by omega)) h) ⟨⟨b,rfl,PtsX.mono (uN _) hb⟩,trivial⟩
    · rw [look_putS,if_neg (by omega),hsame j (by omega) (λ_=>h7)]; exact g.own j hj
    · exact PtsX.mono ((uN _).trans λj B h=>Tag28.at (.inl (Tag.el h).1) (Tag.el h).2) hb
  simpa only [List.flatten_cons,List.flatten_nil,List.append_nil,List.length_cons,List.length_nil,Nat.zero_add] using hfl
def propB (r : Rep) (e : Ent) : Bool:=repB r && leadB r && entB e && !decide (4 ≤ IntKind.i64.wrap (last r.log - r.commit)) && !decide (4096 ≤ last r.log)
def prepM (r : Rep) (e : Ent) : Msg:=⟨4,0,0,r.view,0,last (addE r { e with view:=r.view }).log,r.commit,0,e.client,e.session,e.number,0,0,0,tx0,e.batch,⟨0,tx0,[]⟩,tx0⟩
def propR (r : Rep) (e : Ent) : Rep:=if r.nodes = 1 then { addE r { e with view:=r.view } with commit:=last (addE r { e with view:=r.view }).log } else addE r { e with view:=r.view }
end Go.Proofs.YtnnjlnkoomeadaaGreat.Pv
namespace Go.Proofs.YtnnjlnkoomeadaaGreat.Pv
open Go.Ev Go.Ev.Rp
set_option maxRecDepth 100000
set_option maxHeartbeats 4000000
set_option linter.unusedSimpArgs false
set_option linter.unusedVariables false
set_option linter.unusedSectionVars false
def proposeS (r : Rep) (e : Ent) : Rep × List Msg × Int:=if propB r e then (propR r e,allM r (prepM r e) r.nodes.toNat,last (addE r { e with view:=r.view }).log) else (r,[],-1)
def PropP (r : Rep) (e : Ent) (n : Nat) (M : Fz) (v : AV) : Prop:=∃ xe xa xs xd xo o,v = .tp [.ag (repC (proposeS r e).1 xe xa xs xd),.one xo,.one (I (proposeS r e).2.2)] ∧ (∀ j,j < n → o j = 0) ∧ RepT o M (proposeS r e).1 xe xa xs xd ∧ OutT o M xo (proposeS r e).2.1
theorem prop_cases (r : Rep) (e : Ent) : (propB r e = true ∧ repB r = true ∧ leadB r = true ∧ entB e = true ∧ decide (4 ≤ IntKind.i64.wrap (last r.log - r.commit)) = false ∧ decide (4096 ≤ last r.log) = false) ∨
    (propB r e = false ∧ (repB r = false ∨ (repB r = true ∧ leadB r = false) ∨ (repB r = true ∧ leadB r = true ∧ entB e = false) ∨ (repB r = true ∧ leadB r = true ∧ entB e = true ∧ decide (4 ≤ IntKind.i64.wrap (last r.log - r.commit)) = true) ∨
      (repB r = true ∧ leadB r = true ∧ entB e = true ∧ decide (4 ≤ IntKind.i64.wrap (last r.log - r.commit)) = false ∧ decide (4096 ≤ last r.log) = true))):=by
  unfold propB
  cases repB r <;> cases leadB r <;> cases entB e <;> cases decide (4 ≤ IntKind.i64.wrap (last r.log - r.commit)) <;> cases decide (4096 ≤ last r.log) <;> simp
theorem rep_ents {r : Rep} (h : repB r = true) : r.log.ents.length ≤ 4096:=by
  have : lgB r.log = true:=by
    cases e : lgB r.log with
    | true=>rfl
    | false=>unfold repB at h; rw [e] at h; simp only [Bool.and_false,Bool.false_and] at h; cases h
  unfold lgB at this
  simp only [Bool.and_eq_true,decide_eq_true_eq] at this
  exact this.1.2
variable {P : Program} (H : Fs P)
include H
theorem replica_Propose (r : Rep) (xe xa xs xd : SV) (e : Ent) (b : SV) (hz : RepSz r) (hzb : e.batch.length ≤ 4398046511104) : Ctr P n_replica_Propose [.ag (repC r xe xa xs xd),.ag (entC e b)] (λM=>RepS M r xe xa xs xd ∧ PtsR M b e.batch) (λn _ M v=>PropP r e n M v):=Ctr.of H.mx H.replica_Propose (λ_=>0) λfz mu n k hfr s hk=>by
  obtain ⟨s1,s2⟩:=s
  obtain ⟨-,-,xek,xem⟩:=s1.1.len
  obtain ⟨-,-,xak,xam⟩:=s1.2.1.len
  obtain ⟨-,-,xsk,xsm⟩:=s1.2.2.1.len
  obtain ⟨-,-,xdk,xdm⟩:=s1.2.2.2.len
  obtain ⟨-,-,bk,bm⟩:=s2.len
  have hB:=replica_begin H r xe xa xs xd hz
  have hM:=replica_May H r xe xa xs xd (RepSz.s r hz).1 (RepSz.s r hz).2.1 (RepSz.s r hz).2.2
  have hEM:=message_MayEntry H e b
  have hkH:=Hide.mk hk
  clear hk
  unfold repC at hB hM ⊢
  unfold entC at hEM ⊢
  rw [i_replica_Propose,dc_at b_replica_Propose.eq_1]
  simp only [↓E1,E2,zA,zB,zC,zD,zE,zF,zG,zH,zI,zJ,zK,zL,zM,zN,reduceIte,zO,zP, *]
  refine CPr.abs3 hfr λm1 n1 g1 l1 b1 b2 b3=>?_
  have u1:=g1.sub hfr (Nat.le_refl _)
  refine hB.c1 g1.free (RepS.mono u1 s1) ?_
  rintro v m2 n2 g2 ⟨s,o,xe',xa',xs',xd',hP⟩
  have S2:=hP.sw g1.free g2
  obtain rfl:=hP.val
  have l2:=g2.le
  have u2:=u1.trans (g2.sub g1.free (Nat.le_refl _))
  have gg:=g1.trans (g2.weaken (by omega))
  have c1:=(g2.own n (by omega)).trans b1
  have c2:=(g2.own (n + 1) (by omega)).trans b2
  have c3:=(g2.own (n + 1 + 1) (by omega)).trans b3
  have w1:=look_with (fz:=fz) c1
  have w2:=look_with (fz:=fz) c2
  have w3:=look_with (fz:=fz) c3
  have ws:=look_with (fz:=fz) S2.cells
  have hNo:=replica_step_normal H s r xe' xa' xs' xd' .nsl false
  have hLa:=replica_step_last H s r xe' xa' xs' xd' .nsl false
  obtain ⟨⟨yek,yem⟩,⟨yak,yam⟩,⟨ysk,ysm⟩,⟨ydk,ydm⟩,yok,yom⟩:=S2.ks
  have ws':=ws
  unfold stepC repC at ws
  clear b1 b2 b3 hB
  rcases prop_cases r e with ⟨hp,h1,h2,h3,h4,h5⟩ | ⟨hp,hrej⟩
  · simp only [↓E1,E2,zA,zB,zC,zD,zE,zF,zG,zH,zI,zJ,zK,zL,zM,zN,reduceIte,zO,zP, *,with_putI,look_putS,putS_putS,Option.isSome_some,Option.map_some]
    refine hM.q1 S2.free (RepS.mono u2 s1) ?_
    rintro v n3 l3 rfl
    simp only [↓E1,E2,zA,zB,zC,zD,zE,zF,zG,zH,zI,zJ,zK,zL,zM,zN,reduceIte,zO,zP, *,with_putI,look_putS,putS_putS,Option.isSome_some,Option.map_some]
    refine hNo.q1 (S2.free.le l3) ws' ?_
    rintro v n4 l4 rfl
    have f4:=(S2.free.le l3).le l4
    simp only [↓E1,E2,zA,zB,zC,zD,zE,zF,zG,zH,zI,zJ,zK,zL,zM,zN,reduceIte,zO,zP, *,with_putI,look_putS,putS_putS,Option.isSome_some,Option.map_some]
    refine hEM.q1 f4 (PtsR.mono u2 s2) ?_
    rintro v n5 l5 rfl
    have f5:=f4.le l5
    simp only [↓E1,E2,zA,zB,zC,zD,zE,zF,zG,zH,zI,zJ,zK,zL,zM,zN,reduceIte,zO,zP, *,with_putI,look_putS,putS_putS,Option.isSome_some,Option.map_some]
    refine hLa.q1 f5 ⟨ws',S2.rs.1⟩ ?_
    rintro v n6 l6 rfl
    have f6:=f5.le l6
    simp only [↓E1,E2,zA,zB,zC,zD,zE,zF,zG,zH,zI,zJ,zK,zL,zM,zN,reduceIte,zO,zP, *,with_putI,look_putS,putS_putS,Option.isSome_some,Option.map_some]
    refine hLa.q1 f6 ⟨ws',S2.rs.1⟩ ?_
    rintro v n7 l7 rfl
    have f7:=f6.le l7
    have hCE:=message_CloneEntry H e b hzb
    unfold entC at hCE
    simp only [↓E1,E2,zA,zB,zC,zD,zE,zF,zG,zH,zI,zJ,zK,zL,zM,zN,reduceIte,zO,zP, *,with_putI,look_putS,putS_putS,Option.isSome_some,Option.map_some]
    have ln7 : n2 ≤ n7:=by omega
    have S7:=S2.le ln7
    refine hCE.c1 S7.free (PtsR.mono u2 s2) ?_
    rintro v m8 n8 g8 ⟨b',rfl,hb'⟩
    have l8:=g8.le
    obtain ⟨-,-,bk',bm'⟩:=SlX.len hb'
    have S8:=S7.grT (λ_=>2) g8
    have d1:=(g8.own n (by omega)).trans c1
    have d2:=(g8.own (n + 1) (by omega)).trans c2
    have d3:=(g8.own (n + 1 + 1) (by omega)).trans c3
    have ws8:=(g8.own s S7.slt).trans S7.cells |> look_with (fz:=fz)
    unfold stepC repC at ws8
    have hs1 : (n + 1 = s) = False:=by have:=hP.le; simp; omega
    have hs2 : (n + 1 + 1 = s) = False:=by have:=hP.le; simp; omega
    have hsl : s < n8:=by have:=S2.slt; omega
    have hs3 : (n8 = s) = False:=by simp; omega
    clear w1 w2 w3 ws
    simp only [↓E1,E2,zA,zB,zC,zD,zE,zF,zG,zH,zI,zJ,zK,zL,zM,zN,reduceIte,zO,zP, *,with_putI,look_putS,putS_putS,Option.isSome_some,Option.map_some]
    have hoN : tagN o n7 (λ_=>2) (n + 1) = 0:=by rw [tagN_lt (by omega)]; exact hP.zero _ (by omega)
    have S9:=S8.put0 (c:=[I r.view,I e.client,I e.session,I e.number,b']) d2 hoN
    have gB : Gr n8 fz (putS m8 (n + 1) [I r.view,I e.client,I e.session,I e.number,b']) ((n8,[I r.view,I e.client,I e.session,I e.number,b']) :: putS m8 (n + 1) [I r.view,I e.client,I e.session,I e.number,b']) n8 (n8 + 1):=(Gr.refl S9.free).cons (Nat.le_refl _) _
    have hb9 : PtsX (F2 (tagN o n7 λ_=>2) n8 (with' ((n8,[I r.view,I e.client,I e.session,I e.number,b']) :: putS m8 (n + 1) [I r.view,I e.client,I e.session,I e.number,b']) fz)) b' ({ e with view:=r.view } : Ent).batch:=PtsX.mono (λj B hj=>by
      obtain ⟨p1,p2⟩:=From.el hj
      have p3:=g8.free.lt p2
      exact F2.at (.inr (by rw [tagN_ge p1])) (by rw [with_c,if_neg (by omega),with_putS d2,if_neg (by omega)]; exact p2)) hb'
    have hlen : r.log.ents.length ≤ 1000000:=by have:=rep_ents h1; omega
    refine SW.appE S9 gB (e:={ e with view:=r.view }) hb9 hlen λm10 o' xe2 hko hs10 S10 K10 hb10 hnew=>?_
    have hkom:=known_mk hko
    unfold stepC repC at hs10
    have ws10:=look_with (fz:=fz) S10.cells
    have hLa2:=replica_step_last H s (addE r { e with view:=r.view }) xe2 xa' xs' xd' .nsl false
    unfold stepC repC at ws10
    have ws10b:=look_with (fz:=fz) S10.cells
    have hn : nodesB r.nodes = true:=rep_nodes h1
    obtain ⟨N,hN⟩ : ∃ N : Nat,r.nodes = (N : Int):=⟨r.nodes.toNat,by rcases nodes_cases hn with h | h | h | h <;> rw [h] <;> rfl⟩
    have hN7 : N ≤ 7:=by rcases nodes_cases hn with h | h | h | h <;> omega
    have hz9 : ∀ j,j < n8 → tagN o n7 (λ_=>2) j = 0 → j ≠ s → Ev.look (putS m10 s (stepC (addE r { e with view:=r.view }) xe2 xa' xs' xd' .nsl false)) j = Ev.look (putS m8 (n + 1) [I r.view,I e.client,I e.session,I e.number,b']) j:=λj h6 h7 h8=>K10.keep j h6 h8 (by rw [h7]; omega)
    have e2:=(hz9 (n + 1) (by omega) hoN (by have:=hP.le; omega)).trans (show _ = some [I r.view,I e.client,I e.session,I e.number,b'] by rw [look_putS,if_pos rfl,d2]; rfl)
    have we2:=look_with (fz:=fz) e2
    have g12 : (n + 1 = s) = False:=hs1
    have hAll:=λ(fr : n8 + 1 + 1 ≤ n8 + 1 + 1) (n' : Nat) (hle : n8 + 1 + 1 ≤ n') (k : KT Prop) (w : WK k)=>step_all H (S10.le hle) (prepM r e) b' .nsl ⟨PtsX.to (PtsX.mono (Tag28.un S10.os) hb10),nilE _⟩ ⟨hzb,⟨by simp [prepM],by simp [prepM]⟩⟩ (by simp) (N:=N) hN hN7 (k:=k) (w:=w)
    unfold stepC repC at we2 hAll
    unfold msgC at hAll
    have hNH:=Hide.mk hN
    clear hN
    simp only [↓E1,E2,zA,zB,zC,zD,zE,zF,zG,zH,zI,zJ,zK,zL,zM,zN,reduceIte,zO,zP, *,with_putI,look_putS,putS_putS,Option.isSome_some,Option.map_some]
    have hcell : stepC (addE r { e with view:=r.view }) xe2 xa' xs' xd' .nsl false = [I r.me,I r.nodes,I r.view,I r.normal,I r.status,I r.commit,.bool r.sent,I r.log.base,r.log.snap.sv,xe2,xa',xs',xd',.nsl,.bool false]:=rfl
    rw [hcell] at S10 K10 hb10 ws10b
    obtain ⟨m11,hm11⟩ : ∃ m,putS m10 s [I r.me,I r.nodes,I r.view,I r.normal,I r.status,I r.commit,.bool r.sent,I r.log.base,r.log.snap.sv,xe2,xa',xs',xd',.nsl,.bool false] = m:=⟨_,rfl⟩
    rw [hm11] at S10 K10 hb10 ws10b
    rw [hm11]
    refine hLa2.q1 S10.free ⟨look_with S10.cells,S10.rs.1⟩ ?_
    rintro v n11 l11 rfl
    have hlm : last (addE r { e with view:=r.view }).log = last (addE r { e with view:=r.view }).log:=rfl
    clear hz9 hAll e2 we2
    have e2:=(K10.keep (n + 1) (by omega) (by have:=hP.le; omega) (by rw [hoN]; omega)).trans (show _ = some [I r.view,I e.client,I e.session,I e.number,b'] by rw [look_putS,if_pos rfl,d2]; rfl)
    have e1:=(K10.keep n (by omega) (by have:=hP.le; omega) (by rw [tagN_lt (by omega),hP.zero n (by omega)]; omega)).trans (show _ = some _ by rw [look_putS,if_neg (by omega)]; exact d1)
    have e3:=(K10.keep (n + 1 + 1) (by omega) (by have:=hP.le; omega) (by rw [tagN_lt (by omega),hP.zero (n + 1 + 1) (by omega)]; omega)).trans (show _ = some _ by rw [look_putS,if_neg (by omega)]; exact d3)
    have we2:=look_with (fz:=fz) e2
    have ws11:=look_with (fz:=fz) S10.cells
    rw [hcell] at ws11
    clear hcell hs10 hnew ws10 ws10b ws8
    simp only [↓E1,E2,zA,zB,zC,zD,zE,zF,zG,zH,zI,zJ,zK,zL,zM,zN,reduceIte,zO,zP, *,with_putI,look_putS,putS_putS,Option.isSome_some,Option.map_some]
    have hAll:=λ(k : KT Prop) (w : WK k)=>step_all H (S10.le l11) (prepM r e) b' .nsl ⟨PtsX.to (PtsX.mono (Tag28.un S10.os) hb10),nilE _⟩ ⟨hzb,⟨by simp [prepM],by simp [prepM]⟩⟩ (by simp) (N:=N) hNH.out hN7 (k:=k) (w:=w)
    unfold msgC at hAll
    refine hAll _ _ λm12 n12 o12 xo12 S12 K12=>?_
    have l12:=K12.le
    have gK9:=((gg.le2 ln7).trans (g8.weaken (by omega))).put (id:=n + 1) (by omega) d2 (c:=[I r.view,I e.client,I e.session,I e.number,b'])
    have gK10:=K10.gr (lo:=n) S10.free (by have:=hP.le; omega) (by omega) (λj hj=>by rw [tagN_lt (by omega)]; exact hP.zero j (by omega)) (by omega)
    have gK12:=K12.gr (lo:=n) S12.free (by have:=hP.le; omega) (by omega) (λj hj=>by rw [K10.tags j (by omega),tagN_lt (by omega)]; exact hP.zero j (by omega)) (by omega)
    have gK : Gr n fz mu m12 n n12:=(gK9.trans gK10).trans ((Kp.gr (T:=(· = 7)) (K12.weaken λt h=>h) S12.free (by have:=hP.le; omega) (by omega) (λj hj=>by rw [K10.tags j (by omega),tagN_lt (by omega)]; exact hP.zero j (by omega)) (by omega)) |> λg=>(Gr.le2 (Gr.refl S10.free) l11).trans g)
    have e3b:=(K12.keep (n + 1 + 1) (by omega) (by have:=hP.le; omega) (by rw [K10.tags _ (by omega),tagN_lt (by omega),hP.zero (n + 1 + 1) (by omega)]; omega)).trans e3
    have ho12 : ∀ j,j < n1 → o12 j = 0:=λj hj=>by rw [K12.tags j (by omega),K10.tags j (by omega),tagN_lt (by omega)]; exact hP.zero j hj
    have ws12:=look_with (fz:=fz) S12.cells
    have ks12:=S12.ks
    obtain ⟨-,-,-,-,⟨zok,zom⟩⟩:=ks12
    obtain ⟨⟨zek,zem⟩,⟨zak,zam⟩,⟨zsk,zsm⟩,⟨zdk,zdm⟩,-⟩:=S12.ks
    unfold stepC repC at ws12
    rw [List.nil_append] at S12
    have hmsg : allM (addE r { e with view:=r.view }) (prepM r e) N = allM r (prepM r e) r.nodes.toNat:=by rw [hNH.out]; rfl
    rw [hmsg] at S12
    have hps : proposeS r e = (propR r e,allM r (prepM r e) r.nodes.toNat,last (addE r { e with view:=r.view }).log):=by unfold proposeS; rw [if_pos hp]
    obtain ⟨rA,hrA⟩ : ∃ rA,addE r { e with view:=r.view } = rA:=⟨_,rfl⟩
    have hpr : propR r e = if r.nodes = 1 then { rA with commit:=last rA.log } else rA:=by rw [← hrA]; rfl
    have hAc : ∀ xe xa xs xd : SV,repC rA xe xa xs xd = [I r.me,I r.nodes,I r.view,I r.normal,I r.status,I r.commit,.bool r.sent,I r.log.base,r.log.snap.sv,xe,xa,xs,xd]:=λ_ _ _ _=>by rw [← hrA]; rfl
    clear hLa2 hLa we2 ws11 e1 hM hNo hEM hCE h1 h2 h3 h4 h5 hp K10 hb10 S10
    rw [hrA] at S12 hps
    simp only [↓E1,E2,zA,zB,zC,zD,zE,zF,zG,zH,zI,zJ,zK,zL,zM,zN,reduceIte,zO,zP, *,with_putI,look_putS,putS_putS,Option.isSome_some,Option.map_some]
    have hLq:=λ(q : Rep)=>replica_step_last H s q xe2 xa' xs' xd' xo12 false
    have hs5 : (n + 1 + 1 = s) = False:=hs2
    have hz12 : o12 (n + 1 + 1) = 0:=ho12 _ (by omega)
    have hfz2 : fz (n + 1 + 1) = none:=by
      have:=hfr.none (show n ≤ n + 1 + 1 by omega)
      rw [with_eq] at this
      cases h6 : Ev.look mu (n + 1 + 1) with
      | none=>rw [h6] at this; exact this
      | some c=>rw [h6] at this; cases this
    refine Br_intro (λhb=>?_) (λhb=>?_)
    · have hn1 : rA.nodes = 1:=of_decide_eq_true hb
      have S13:=S12.put (r':={ rA with commit:=last rA.log }) (vd':=false) rfl rfl rfl rfl
      have gK3:=gK.put (id:=s) (by have:=hP.le; omega) S12.cells (c:=stepC { rA with commit:=last rA.log } xe2 xa' xs' xd' xo12 false)
      have hpr2 : propR r e = { rA with commit:=last rA.log }:=by rw [hpr,if_pos (by rw [← hrA] at hn1; exact hn1)]
      have e13 : Ev.look (putS m12 s (stepC { rA with commit:=last rA.log } xe2 xa' xs' xd' xo12 false)) (n + 1 + 1) = some [I 0,I 0,I 0,I 0,I 0,I 0,.bool false,I 0,.str 0 0,.nsl,.nsl,.nsl,.nsl]:=(look_putS ..).trans ((if_neg (by have:=hP.le; omega)).trans e3b)
      have hLq0:=hLq rA
      have hs12c:=S12.cells
      unfold stepC repC at hs12c
      clear hn1 hpr
      simp only [↓E1,E2,zA,zB,zC,zD,zE,zF,zG,zH,zI,zJ,zK,zL,zM,zN,reduceIte,zO,zP, *,with_putI,look_putS,putS_putS,Option.isSome_some,Option.map_some]
      refine hLq0.q0 S12.free ⟨look_with S12.cells,S12.rs.1⟩ ?_
      rintro v n13 l13 rfl
      simp only [↓E1,E2,zA,zB,zC,zD,zE,zF,zG,zH,zI,zJ,zK,zL,zM,zN,reduceIte,zO,zP, *,with_putI,look_putS,putS_putS,Option.isSome_some,Option.map_some]
      have hcell : stepC { rA with commit:=last rA.log } xe2 xa' xs' xd' xo12 false = [I rA.me,I rA.nodes,I rA.view,I rA.normal,I rA.status,I (last rA.log),.bool rA.sent,I rA.log.base,rA.log.snap.sv,xe2,xa',xs',xd',xo12,.bool false]:=rfl
      rw [hcell] at S13 gK3 e13
      obtain ⟨m13,hm13⟩ : ∃ m,putS m12 s [I rA.me,I rA.nodes,I rA.view,I rA.normal,I rA.status,I (last rA.log),.bool rA.sent,I rA.log.base,rA.log.snap.sv,xe2,xa',xs',xd',xo12,.bool false] = m:=⟨_,rfl⟩
      rw [hm13] at S13 gK3 e13
      try rw [hm13]
      rw [saP_some e13 rfl]
      have S14:=(S13.le l13).kill0 hz12 hfz2
      have w14:=look_with (fz:=fz) S14.cells
      have hLq1:=hLq { rA with commit:=last rA.log }
      unfold stepC repC at w14
      clear ws12 hs12c hm13
      simp only [↓E1,E2,zA,zB,zC,zD,zE,zF,zG,zH,zI,zJ,zK,zL,zM,zN,reduceIte,zO,zP, *,with_putI,look_putS,putS_putS,Option.isSome_some,Option.map_some]
      refine hLq1.q1 S14.free ⟨look_with S14.cells,S14.rs.1⟩ ?_
      rintro v n14 l14 rfl
      simp only [↓E1,E2,zA,zB,zC,zD,zE,zF,zG,zH,zI,zJ,zK,zL,zM,zN,reduceIte,zO,zP, *,with_putI,look_putS,putS_putS,Option.isSome_some,Option.map_some]
      have S15:=((S13.le l13).le l14).put0 (c:=[I rA.me,I rA.nodes,I rA.view,I rA.normal,I rA.status,I (last rA.log),.bool rA.sent,I rA.log.base,rA.log.snap.sv,xe2,xa',xs',xd']) e13 hz12
      have g15:=((gK3.le2 l13).le2 l14).put (id:=n + 1 + 1) (by omega) e13 (c:=[I rA.me,I rA.nodes,I rA.view,I rA.normal,I rA.status,I (last rA.log),.bool rA.sent,I rA.log.base,rA.log.snap.sv,xe2,xa',xs',xd'])
      have hX:=look_kc (c:=[I rA.me,I rA.nodes,I rA.view,I rA.normal,I rA.status,I (last rA.log),.bool rA.sent,I rA.log.base,rA.log.snap.sv,xe2,xa',xs',xd']) e13
      have hXw:=with_fun (fz:=fz) hX
      refine hkH.out _ _ _ (g15.congr hX) ⟨xe2,xa',xs',xd',xo12,o12,?_,λj hj=>ho12 j (by omega),?_,?_⟩
      · rw [hps,hpr2]; rfl
      · rw [hps,hpr2,hXw]; exact S15.rt
      · rw [hps,hXw]; exact S15.ot
    · have hn1 : ¬ rA.nodes = 1:=of_decide_eq_false hb
      have hpr2 : propR r e = rA:=by rw [hpr,if_neg (by rw [← hrA] at hn1; exact hn1)]
      have e13 : Ev.look m12 (n + 1 + 1) = some [I 0,I 0,I 0,I 0,I 0,I 0,.bool false,I 0,.str 0 0,.nsl,.nsl,.nsl,.nsl]:=e3b
      have hs12c:=S12.cells
      unfold stepC repC at hs12c
      clear hn1 hpr
      simp only [↓E1,E2,zA,zB,zC,zD,zE,zF,zG,zH,zI,zJ,zK,zL,zM,zN,reduceIte,zO,zP, *,with_putI,look_putS,putS_putS,Option.isSome_some,Option.map_some]
      rw [saP_some e13 rfl]
      have l13:=Nat.le_refl n12
      have S13:=S12
      have gK3:=gK
      have S14:=(S13.le l13).kill0 hz12 hfz2
      have w14:=look_with (fz:=fz) S14.cells
      have hLq1:=hLq rA
      unfold stepC repC at w14
      clear ws12 hs12c
      simp only [↓E1,E2,zA,zB,zC,zD,zE,zF,zG,zH,zI,zJ,zK,zL,zM,zN,reduceIte,zO,zP, *,with_putI,look_putS,putS_putS,Option.isSome_some,Option.map_some]
      refine hLq1.q1 S14.free ⟨look_with S14.cells,S14.rs.1⟩ ?_
      rintro v n14 l14 rfl
      simp only [↓E1,E2,zA,zB,zC,zD,zE,zF,zG,zH,zI,zJ,zK,zL,zM,zN,reduceIte,zO,zP, *,with_putI,look_putS,putS_putS,Option.isSome_some,Option.map_some]
      have S15:=((S13.le l13).le l14).put0 (c:=[I rA.me,I rA.nodes,I rA.view,I rA.normal,I rA.status,I rA.commit,.bool rA.sent,I rA.log.base,rA.log.snap.sv,xe2,xa',xs',xd']) e13 hz12
      have g15:=((gK3.le2 l13).le2 l14).put (id:=n + 1 + 1) (by omega) e13 (c:=[I rA.me,I rA.nodes,I rA.view,I rA.normal,I rA.status,I rA.commit,.bool rA.sent,I rA.log.base,rA.log.snap.sv,xe2,xa',xs',xd'])
      have hX:=look_kc (c:=[I rA.me,I rA.nodes,I rA.view,I rA.normal,I rA.status,I rA.commit,.bool rA.sent,I rA.log.base,rA.log.snap.sv,xe2,xa',xs',xd']) e13
      have hXw:=with_fun (fz:=fz) hX
      refine hkH.out _ _ _ (g15.congr hX) ⟨xe2,xa',xs',xd',xo12,o12,?_,λj hj=>ho12 j (by omega),?_,?_⟩
      · rw [hps,hpr2]; rfl
      · rw [hps,hpr2,hXw]; exact S15.rt
      · rw [hps,hXw]; exact S15.ot
  · have hps : proposeS r e = (r,[],-1):=by unfold proposeS; rw [if_neg (by rw [hp]; decide)]
    clear hp
    have hs2 : (n + 1 + 1 = s) = False:=by have:=hP.le; simp; omega
    have hz2 : o (n + 1 + 1) = 0:=hP.zero _ (by omega)
    rcases hrej with h1 | ⟨h1,h2⟩ | ⟨h1,h2,h3⟩ | ⟨h1,h2,h3,h4⟩ | ⟨h1,h2,h3,h4,h5⟩
    · simp only [↓E1,E2,zA,zB,zC,zD,zE,zF,zG,zH,zI,zJ,zK,zL,zM,zN,reduceIte,zO,zP, *,with_putI,look_putS,putS_putS,Option.isSome_some,Option.map_some]
      refine hM.q1 S2.free (RepS.mono u2 s1) ?_
      rintro v k0 j0 rfl
      have f0:=(S2.free).le j0
      simp only [↓E1,E2,zA,zB,zC,zD,zE,zF,zG,zH,zI,zJ,zK,zL,zM,zN,reduceIte,zO,zP, *,with_putI,look_putS,putS_putS,Option.isSome_some,Option.map_some]
      have S9:=(S2.le j0).put0 (c:=[I r.me,I r.nodes,I r.view,I r.normal,I r.status,I r.commit,.bool r.sent,I r.log.base,r.log.snap.sv,xe',xa',xs',xd']) c3 hz2
      have g9:=(gg.le2 j0).put (id:=n + 1 + 1) (by omega) c3 (c:=[I r.me,I r.nodes,I r.view,I r.normal,I r.status,I r.commit,.bool r.sent,I r.log.base,r.log.snap.sv,xe',xa',xs',xd'])
      refine hkH.out _ _ _ g9 ⟨xe',xa',xs',xd',.nsl,o,by rw [hps]; rfl,λj hj=>hP.zero j (by omega),by rw [hps]; exact S9.rt,by rw [hps]; exact S9.ot⟩
    · simp only [↓E1,E2,zA,zB,zC,zD,zE,zF,zG,zH,zI,zJ,zK,zL,zM,zN,reduceIte,zO,zP, *,with_putI,look_putS,putS_putS,Option.isSome_some,Option.map_some]
      refine hM.q1 S2.free (RepS.mono u2 s1) ?_
      rintro v k0 j0 rfl
      have f0:=(S2.free).le j0
      simp only [↓E1,E2,zA,zB,zC,zD,zE,zF,zG,zH,zI,zJ,zK,zL,zM,zN,reduceIte,zO,zP, *,with_putI,look_putS,putS_putS,Option.isSome_some,Option.map_some]
      refine hNo.q1 f0 ws' ?_
      rintro v k1 j1 rfl
      have f1:=(f0).le j1
      simp only [↓E1,E2,zA,zB,zC,zD,zE,zF,zG,zH,zI,zJ,zK,zL,zM,zN,reduceIte,zO,zP, *,with_putI,look_putS,putS_putS,Option.isSome_some,Option.map_some]
      have S9:=((S2.le j0).le j1).put0 (c:=[I r.me,I r.nodes,I r.view,I r.normal,I r.status,I r.commit,.bool r.sent,I r.log.base,r.log.snap.sv,xe',xa',xs',xd']) c3 hz2
      have g9:=((gg.le2 j0).le2 j1).put (id:=n + 1 + 1) (by omega) c3 (c:=[I r.me,I r.nodes,I r.view,I r.normal,I r.status,I r.commit,.bool r.sent,I r.log.base,r.log.snap.sv,xe',xa',xs',xd'])
      refine hkH.out _ _ _ g9 ⟨xe',xa',xs',xd',.nsl,o,by rw [hps]; rfl,λj hj=>hP.zero j (by omega),by rw [hps]; exact S9.rt,by rw [hps]; exact S9.ot⟩
    · simp only [↓E1,E2,zA,zB,zC,zD,zE,zF,zG,zH,zI,zJ,zK,zL,zM,zN,reduceIte,zO,zP, *,with_putI,look_putS,putS_putS,Option.isSome_some,Option.map_some]
      refine hM.q1 S2.free (RepS.mono u2 s1) ?_
      rintro v k0 j0 rfl
      have f0:=(S2.free).le j0
      simp only [↓E1,E2,zA,zB,zC,zD,zE,zF,zG,zH,zI,zJ,zK,zL,zM,zN,reduceIte,zO,zP, *,with_putI,look_putS,putS_putS,Option.isSome_some,Option.map_some]
      refine hNo.q1 f0 ws' ?_
      rintro v k1 j1 rfl
      have f1:=(f0).le j1
      simp only [↓E1,E2,zA,zB,zC,zD,zE,zF,zG,zH,zI,zJ,zK,zL,zM,zN,reduceIte,zO,zP, *,with_putI,look_putS,putS_putS,Option.isSome_some,Option.map_some]
      refine hEM.q1 f1 (PtsR.mono u2 s2) ?_
      rintro v k2 j2 rfl
      have f2:=(f1).le j2
      simp only [↓E1,E2,zA,zB,zC,zD,zE,zF,zG,zH,zI,zJ,zK,zL,zM,zN,reduceIte,zO,zP, *,with_putI,look_putS,putS_putS,Option.isSome_some,Option.map_some]
      have S9:=(((S2.le j0).le j1).le j2).put0 (c:=[I r.me,I r.nodes,I r.view,I r.normal,I r.status,I r.commit,.bool r.sent,I r.log.base,r.log.snap.sv,xe',xa',xs',xd']) c3 hz2
      have g9:=(((gg.le2 j0).le2 j1).le2 j2).put (id:=n + 1 + 1) (by omega) c3 (c:=[I r.me,I r.nodes,I r.view,I r.normal,I r.status,I r.commit,.bool r.sent,I r.log.base,r.log.snap.sv,xe',xa',xs',xd'])
      refine hkH.out _ _ _ g9 ⟨xe',xa',xs',xd',.nsl,o,by rw [hps]; rfl,λj hj=>hP.zero j (by omega),by rw [hps]; exact S9.rt,by rw [hps]; exact S9.ot⟩
    · simp only [↓E1,E2,zA,zB,zC,zD,zE,zF,zG,zH,zI,zJ,zK,zL,zM,zN,reduceIte,zO,zP, *,with_putI,look_putS,putS_putS,Option.isSome_some,Option.map_some]
      refine hM.q1 S2.free (RepS.mono u2 s1) ?_
      rintro v k0 j0 rfl
      have f0:=(S2.free).le j0
      simp only [↓E1,E2,zA,zB,zC,zD,zE,zF,zG,zH,zI,zJ,zK,zL,zM,zN,reduceIte,zO,zP, *,with_putI,look_putS,putS_putS,Option.isSome_some,Option.map_some]
      refine hNo.q1 f0 ws' ?_
      rintro v k1 j1 rfl
      have f1:=(f0).le j1
      simp only [↓E1,E2,zA,zB,zC,zD,zE,zF,zG,zH,zI,zJ,zK,zL,zM,zN,reduceIte,zO,zP, *,with_putI,look_putS,putS_putS,Option.isSome_some,Option.map_some]
      refine hEM.q1 f1 (PtsR.mono u2 s2) ?_
      rintro v k2 j2 rfl
      have f2:=(f1).le j2
      simp only [↓E1,E2,zA,zB,zC,zD,zE,zF,zG,zH,zI,zJ,zK,zL,zM,zN,reduceIte,zO,zP, *,with_putI,look_putS,putS_putS,Option.isSome_some,Option.map_some]
      refine hLa.q1 f2 ⟨ws',S2.rs.1⟩ ?_
      rintro v k3 j3 rfl
      have f3:=(f2).le j3
      simp only [↓E1,E2,zA,zB,zC,zD,zE,zF,zG,zH,zI,zJ,zK,zL,zM,zN,reduceIte,zO,zP, *,with_putI,look_putS,putS_putS,Option.isSome_some,Option.map_some]
      have S9:=((((S2.le j0).le j1).le j2).le j3).put0 (c:=[I r.me,I r.nodes,I r.view,I r.normal,I r.status,I r.commit,.bool r.sent,I r.log.base,r.log.snap.sv,xe',xa',xs',xd']) c3 hz2
      have g9:=((((gg.le2 j0).le2 j1).le2 j2).le2 j3).put (id:=n + 1 + 1) (by omega) c3 (c:=[I r.me,I r.nodes,I r.view,I r.normal,I r.status,I r.commit,.bool r.sent,I r.log.base,r.log.snap.sv,xe',xa',xs',xd'])
      refine hkH.out _ _ _ g9 ⟨xe',xa',xs',xd',.nsl,o,by rw [hps]; rfl,λj hj=>hP.zero j (by omega),by rw [hps]; exact S9.rt,by rw [hps]; exact S9.ot⟩
    · simp only [↓E1,E2,zA,zB,zC,zD,zE,zF,zG,zH,zI,zJ,zK,zL,zM,zN,reduceIte,zO,zP, *,with_putI,look_putS,putS_putS,Option.isSome_some,Option.map_some]
      refine hM.q1 S2.free (RepS.mono u2 s1) ?_
      rintro v k0 j0 rfl
      have f0:=(S2.free).le j0
      simp only [↓E1,E2,zA,zB,zC,zD,zE,zF,zG,zH,zI,zJ,zK,zL,zM,zN,reduceIte,zO,zP, *,with_putI,look_putS,putS_putS,Option.isSome_some,Option.map_some]
      refine hNo.q1 f0 ws' ?_
      rintro v k1 j1 rfl
      have f1:=(f0).le j1
      simp only [↓E1,E2,zA,zB,zC,zD,zE,zF,zG,zH,zI,zJ,zK,zL,zM,zN,reduceIte,zO,zP, *,with_putI,look_putS,putS_putS,Option.isSome_some,Option.map_some]
      refine hEM.q1 f1 (PtsR.mono u2 s2) ?_
      rintro v k2 j2 rfl
      have f2:=(f1).le j2
      simp only [↓E1,E2,zA,zB,zC,zD,zE,zF,zG,zH,zI,zJ,zK,zL,zM,zN,reduceIte,zO,zP, *,with_putI,look_putS,putS_putS,Option.isSome_some,Option.map_some]
      refine hLa.q1 f2 ⟨ws',S2.rs.1⟩ ?_
      rintro v k3 j3 rfl
      have f3:=(f2).le j3
      simp only [↓E1,E2,zA,zB,zC,zD,zE,zF,zG,zH,zI,zJ,zK,zL,zM,zN,reduceIte,zO,zP, *,with_putI,look_putS,putS_putS,Option.isSome_some,Option.map_some]
      refine hLa.q1 f3 ⟨ws',S2.rs.1⟩ ?_
      rintro v k4 j4 rfl
      have f4:=(f3).le j4
      simp only [↓E1,E2,zA,zB,zC,zD,zE,zF,zG,zH,zI,zJ,zK,zL,zM,zN,reduceIte,zO,zP, *,with_putI,look_putS,putS_putS,Option.isSome_some,Option.map_some]
      have S9:=(((((S2.le j0).le j1).le j2).le j3).le j4).put0 (c:=[I r.me,I r.nodes,I r.view,I r.normal,I r.status,I r.commit,.bool r.sent,I r.log.base,r.log.snap.sv,xe',xa',xs',xd']) c3 hz2
      have g9:=(((((gg.le2 j0).le2 j1).le2 j2).le2 j3).le2 j4).put (id:=n + 1 + 1) (by omega) c3 (c:=[I r.me,I r.nodes,I r.view,I r.normal,I r.status,I r.commit,.bool r.sent,I r.log.base,r.log.snap.sv,xe',xa',xs',xd'])
      refine hkH.out _ _ _ g9 ⟨xe',xa',xs',xd',.nsl,o,by rw [hps]; rfl,λj hj=>hP.zero j (by omega),by rw [hps]; exact S9.rt,by rw [hps]; exact S9.ot⟩
end Go.Proofs.YtnnjlnkoomeadaaGreat.Pv
