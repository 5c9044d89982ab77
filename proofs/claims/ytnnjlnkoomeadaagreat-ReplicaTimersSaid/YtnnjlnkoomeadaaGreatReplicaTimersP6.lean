/-
  ReplicaTimers: part 6 of what the proof is made of.
-/
import Derived.Test.YtnnjlnkoomeadaaGreatReplicaTimersP5
import Derived.Shelf.Spec.SlicesInsertGrow
set_option linter.unusedVariables false
set_option linter.unusedSimpArgs false
set_option linter.unusedSectionVars false
noncomputable section
open Int renaming reduceEq → zA,reduceNe → zB,reduceLT → zC,reduceLE → zD,reduceNeg → zE,reduceAdd → zF,reduceSub → zG,reduceToNat → zH
open Nat renaming reduceEqDiff → zI,reduceAdd → zJ,reduceMul → zK,reduceSub → zL,reduceLeDiff → zM,reduceBEq → zN,reduceLT → zO,reduceBneDiff → zP
namespace Go.Proofs.YtnnjlnkoomeadaaGreat.Pv
open Go.Ev Go.Ev.Rp
set_option maxRecDepth 100000
set_option maxHeartbeats 4000000
theorem Qqs {fz : Fz} {mu mu2 : St} {n n2 s b : Nat} {x : SV} {es fs : List (List SV)} {k : KT Prop} (hfr : Free fz mu n) (g : Gr n fz mu mu2 n n2) (hx : SlX (From n (with' mu2 fz)) s x es)
 (hf : fits (es.length + fs.length) b = true) (hfs : fs ≠ []) (he : ∀ e ∈ fs,e.length = s ∧ Qdo e = true)
 (h : ∀ mu3,Gr n fz mu mu3 n (n2 + 1) → Go.Ev.look mu3 n2 = some (es ++ fs).flatten → k (.one (.osl n2 0 (es ++ fs).length (es ++ fs).length s)) mu3 (n2 + 1)) : onApp mu2 n2 s b x fs.flatten fs.length k:=by
 have hfz : ∀ j,n ≤ j → fz j = none:=λj hj=>hfr.fz j hj
 have hle:=g.le
 refine Qg8 (G:=From n (with' mu2 fz)) hx (λid B h=>?_) hf hfs he λmu3 ho hn=>h mu3 ?_ hn
 ·obtain ⟨h2,h3⟩:=From.el h
  rw [← h3,Qe1 (hfz id h2)]
 ·have hk : ∀ j,j ≠ n2 → j < n → Go.Ev.look mu3 j = Go.Ev.look mu2 j:=by
   intro j hj hd
   rcases ho j hj with h | ⟨B,h2,h3,h4⟩
   ·exact h
   ·obtain ⟨h5,h6⟩:=From.el h2
    omega
  refine ⟨by omega,λid hi=>?_,λid hi=>?_,λj=>?_⟩
  ·rw [Qdq (hk id (by omega) hi)]; exact g.ext id hi
  ·rw [hk id (by omega) hi]; exact g.own id hi
  ·have h5:=g.free.none (id:=n2 + 1 + j) (by omega)
   rcases ho (n2 + 1 + j) (by omega) with h | ⟨B,h2,h3,h4⟩
   ·rw [Qdq h]; exact h5
   ·rw [Qd6,h4]; exact hfz _ (by omega)
theorem Qng (l : List Int) : (l.map intC).flatten = l.map I:=by
 induction l with
 | nil=>rfl
 | cons h t ih=>simp [ih,intC]
theorem Qgc {s id off len cap h : Nat} (hc : h ≤ cap) : Qfb s (.osl id off len cap s) none (some (.one (.int .i64 (h : Int)))) none = some (.osl id off h cap s):=by
 have h1 : ¬ ((h : Int) < 0):=by omega
 have h2 : h.ble cap = true:=Nat.ble_eq_true_of_le hc
 have h3 : Nat.ble 0 h = true:=Nat.ble_eq_true_of_le (Nat.zero_le _)
 simp [Qfb,bound,h1,h2,h3]
theorem mkd_I : ∀ (l : List Int),mkd (l.map I ++ [I (-7777),I (-8888)]) = false
 | []=>rfl
 | a :: l=>rfl
theorem Qog : ∀ (l : List Int) (i : Nat) (x : Int),i < l.length → over (l.map I) i [I x] = (l.set i x).map I
 | [],_,_,h=>absurd h (by simp)
 | a :: l,0,x,_=>by simp [over]
 | a :: l,i + 1,x,h=>by rw [List.map_cons,over_s,Qog l i x (by simpa using h)]; rfl
def LentI (M : Fz) (id : Nat) (l : List Int) : Prop:=M id = some (l.map I ++ [I (-7777),I (-8888)])
theorem LentI.sl {M : Fz} {id : Nat} {l : List Int} (h : LentI M id l) : IntsR M (.osl id 0 l.length (l.length + 2) 1) l :=
 .inr ⟨id,0,l.length + 2,_,by simp,by simp,h,mkd_I l,by simp,by simp [Qng],Qg0⟩
variable {P : Program} (H : Fs P)
include H
theorem law0_CopyInts (x : SV) (l : List Int) (hl : l.length ≤ 17592186044415) : Ctr P n_Qca [.one x] (λM=>IntsR M x l) (λn _ M v=>∃ x',v = .one x' ∧ IntsX (From n M) x' l):=Ctr.of H.mx H.Qca (λ_=>0) λfz mu n k hfr s1 hk=>by
 obtain ⟨xl,xs,xk,xm⟩:=s1.len
 rw [i_Qca,dc_at b_Qca.eq_1]
 simp only [↓E1,E2,zA,zB,zC,zD,zE,zF,zG,zH,zI,zJ,zK,zL,zM,zN,reduceIte,zO,zP, *]
 obtain ⟨h1,h2⟩:=Qf4 (Sl.mono s1 (sub1 hfr (c:=[])))
 rw [h1]; clear h1
 refine ⟨h2,Qf9 hfr (Qef (by simp; omega) (by decide) (by decide)) Qg0 (λx' mu' n' g hx=>?_)⟩
 simp only [↓E1,E2,zA,zB,zC,zD,zE,zF,zG,zH,zI,zJ,zK,zL,zM,zN,reduceIte,zO,zP]
 exact hk _ _ _ g ⟨x',rfl,hx⟩
theorem law0_LendInts (x : SV) (l : List Int) (hl : l.length ≤ 17592186044413) : Ctr P n_Qb4 [.one x] (λM=>IntsR M x l) (λn _ M v=>∃ id,v = .one (.osl id 0 l.length (l.length + 2) 1) ∧ n ≤ id ∧ M id = some (l.map I ++ [I (-7777),I (-8888)])):=Ctr.of H.mx H.Qb4 (λ_=>0) λfz mu n k hfr s1 hk=>by
 obtain ⟨xl,xs,xk,xm⟩:=s1.len
 rw [i_Qb4,dc_at b_Qb4.eq_1]
 simp only [↓E1,E2,zA,zB,zC,zD,zE,zF,zG,zH,zI,zJ,zK,zL,zM,zN,reduceIte,zO,zP, *]
 refine (law0_CopyInts H x l (by omega)).c1 hfr s1 ?_
 rintro v mu' n' g ⟨x',rfl,hx⟩
 simp only [↓E1,E2,zA,zB,zC,zD,zE,zF,zG,zH,zI,zJ,zK,zL,zM,zN,reduceIte,zO,zP, *]
 have hle:=g.le
 have g2:=g.cons hle [I (-7777),I (-8888)]
 have hs : Sl (with' ((n',[I (-7777),I (-8888)]) :: mu') fz) 1 (.osl n' 0 2 2 1) [[I (-7777)],[I (-8888)]]:=.inr ⟨n',0,2,[I (-7777),I (-8888)],rfl,Nat.le_refl _,by rw [Qed,if_pos rfl],rfl,by decide,rfl,by intro e he; simp at he; rcases he with rfl | rfl <;> exact ⟨rfl,rfl⟩⟩
 refine Qqs (fs:=[[I (-7777)],[I (-8888)]]) hfr g2 (hx.mono ?_) (Qef (by simp; omega) (by decide) (by decide)) (by simp) (by intro e he; simp at he; rcases he with rfl | rfl <;> exact ⟨rfl,rfl⟩) (λmu3 g3 hn=>?_)
 ·intro id B h
  obtain ⟨h5,h6⟩:=From.el h
  exact From.at h5 (by rw [Qed,if_neg (by have:=g.free.lt h6; omega)]; exact h6)
 ·simp only [↓E1,E2,zA,zB,zC,zD,zE,zF,zG,zH,zI,zJ,zK,zL,zM,zN,reduceIte,zO,zP,Option.map, *]
  rw [Qgc (by simp)]
  simp only [↓E1,E2,zA,zB,zC,zD,zE,zF,zG,zH,zI,zJ,zK,zL,zM,zN,reduceIte,zO,zP, *]
  refine hk _ _ _ g3 ⟨n' + 1,by simp,by omega,?_⟩
  rw [Qdl hn]
  simp [Qng]
theorem law0_SameInts (x y : SV) (l : List Int) (hl : l.length ≤ 4611686018427387904) : BoolC P n_Qcd [.one x,.one y] (λM=>IntsR M x l ∧ IntsR M y l) true:=boolC H.mx H.Qcd (l.length + 1) λfz mu n k hfr g0 hx h=>by
 obtain ⟨hx,hy⟩:=hx
 obtain ⟨xl,xs,xk,xm⟩:=hx.len
 obtain ⟨yl,ys,yk,ym⟩:=hy.len
 rw [i_Qcd,dc_at b_Qcd.eq_1]
 simp only [↓E1,E2,zA,zB,zC,zD,zE,zF,zG,zH,zI,zJ,zK,zL,zM,zN,reduceIte,zO,zP,xl,xs,yl,ys]
 refine scan (x:=0) (L:=l.length) (q:=0) (r:=5) (p:=λi=>true) (λe mu n=>Free fz mu n ∧ IntsR (with' mu fz) x l ∧ IntsR (with' mu fz) y l ∧ e 0 0 = .one x ∧ e 0 1 = .one y) (λe=>True) (λ_ _ _ h=>h.1) ?_ ?_ l.length 0 (l.length + 1) _ mu n _ _ (by omega) (by omega) (by omega) ⟨hfr,hx,hy,?_,?_⟩ ?_ ?_ ?_
 ·rintro i e mu n K hi ⟨hf,hx,hy,h0,h1⟩ hc hY hn
  have hx':=hx
  have hy':=hy
  obtain ⟨id,off,cap,B,rfl,hB,hmk,hbd,hsub⟩:=hx.elem hi
  obtain ⟨id2,off2,cap2,B2,rfl,hB2,hmk2,hbd2,hsub2⟩:=hy.elem hi
  rw [dc_at l_Qcd_0.eq_1]
  have hw:=Qdt hi hl
  simp only [↓E1,E2,zA,zB,zC,zD,zE,zF,zG,zH,zI,zJ,zK,zL,zM,zN,reduceIte,zO,zP,h0,h1,hc,hi,hB,hmk,hbd,hsub,hB2,hmk2,hbd2,hsub2,hw]
  exact hY rfl _ _ _ (Gr.refl hf) ⟨hf,hx',hy',by simp [updN,updE,h0],by simp [updN,updE,h1]⟩ (by simp [updN,updE])
 ·rintro e mu n K ⟨hf,hx,hy,h0,h1⟩ hc hY
  rw [dc_at l_Qcd_0.eq_1]
  have hlt : (l.length < l.length) = False:=by simp
  simp only [↓E1,E2,zA,zB,zC,zD,zE,zF,zG,zH,zI,zJ,zK,zL,zM,zN,reduceIte,zO,zP,h0,h1,hc,hlt,xl,xs]
  exact hY _ _ _ (Gr.refl hf) ⟨hf,hx,hy,by simp [updN,updE,h0],by simp [updN,updE,h1]⟩
 ·simp [updN,updE,envI]
 ·simp [updN,updE,envI]
 ·simp [updN,updE]
 ·intro ha e' mu' n' g hI
  simp only [↓E1,E2,zA,zB,zC,zD,zE,zF,zG,zH,zI,zJ,zK,zL,zM,zN,reduceIte,zO,zP]
  exact h _ _ g
 ·rintro ⟨j,j1,j2,j3⟩
  cases j3
theorem law0_KeptInts (id : Nat) (y : SV) (l : List Int) (hl : l.length ≤ 4611686018427387000) : BoolC P n_Qb8 [.one (.osl id 0 l.length (l.length + 2) 1),.one y] (λM=>LentI M id l ∧ IntsR M y l) true:=boolC H.mx H.Qb8 0 λfz mu n k hfr g0 hx h=>by
 obtain ⟨hx,hy⟩:=hx
 obtain ⟨yl,ys,yk,ym⟩:=hy.len
 have hs:=hx.sl
 rw [i_Qb8,dc_at b_Qb8.eq_1]
 have hw : IntKind.i64.wrap ((l.length : Int) + 2) = ((l.length + 2 : Nat) : Int):=by
  rw [wrap64 (by omega) (by omega)]; omega
 have hw1 : IntKind.i64.wrap ((l.length : Int) + 1) = ((l.length + 1 : Nat) : Int):=by
  rw [wrap64 (by omega) (by omega)]; omega
 simp only [↓E1,E2,zA,zB,zC,zD,zE,zF,zG,zH,zI,zJ,zK,zL,zM,zN,reduceIte,zO,zP,Option.map, *]
 rw [Qgc (Nat.le_refl _)]
 simp only [↓E1,E2,zA,zB,zC,zD,zE,zF,zG,zH,zI,zJ,zK,zL,zM,zN,reduceIte,zO,zP, *]
 refine (law0_SameInts H _ y l (by omega)).c1 hfr ⟨hs,hy⟩ ?_
 rintro v mu2 n2 g rfl
 have hB : with' mu2 fz id = some (l.map I ++ [I (-7777),I (-8888)]):=g.old hfr hx
 have hm:=mkd_I l
 have d1 : List.take 1 (List.drop (l.length * 1) (l.map I ++ [I (-7777),I (-8888)])) = [I (-7777)]:=by
  rw [List.drop_left' (by simp)]; rfl
 have d2 : List.take 1 (List.drop ((l.length + 1) * 1) (l.map I ++ [I (-7777),I (-8888)])) = [I (-8888)]:=by
  rw [show l.map I ++ [I (-7777),I (-8888)] = (l.map I ++ [I (-7777)]) ++ [I (-8888)] by simp,List.drop_left' (by simp)]; rfl
 have l1 : (l.map I ++ [I (-7777),I (-8888)]).length = l.length + 2:=by simp
 have n1 : l.length < l.length + 2:=by omega
 have n2 : l.length + 1 < l.length + 2:=by omega
 have n3 : l.length * 1 + 1 ≤ l.length + 2:=by omega
 have n4 : (l.length + 1) * 1 + 1 ≤ l.length + 2:=by omega
 simp only [↓E1,E2,zA,zB,zC,zD,zE,zF,zG,zH,zI,zJ,zK,zL,zM,zN,reduceIte,zO,zP, *]
 exact ⟨by omega,by omega,trivial⟩
theorem law0_SpoilInts (id : Nat) (l : List Int) (hl : l.length ≤ 4611686018427387904) {fz : Fz} {mu : St} {n : Nat} {k : KT Prop} {w : WK k} (hfr : Free fz mu n) (hb : Ev.look mu id = some (l.map I))
 (hk : ∀ mu',(∀ j,j ≠ id → Ev.look mu' j = Ev.look mu j) → Free fz mu' n → k noVal mu' n) : CPh P n_Qby [.one (.osl id 0 l.length l.length 1)] fz mu n k w:=by
 refine CP_of H.Qby H.mx (l.length + 1) ?_
 rw [i_Qby,dc_at b_Qby.eq_1]
 simp only [↓E1,E2,zA,zB,zC,zD,zE,zF,zG,zH,zI,zJ,zK,zL,zM,zN,reduceIte,zO,zP]
 refine loopI (x:=0) (L:=l.length) (p:=λ_=>true) (λi e mu1 n1=>n1 = n ∧ Free fz mu1 n ∧ (∀ j,j ≠ id → Ev.look mu1 j = Ev.look mu j) ∧ (∃ l' : List Int,l'.length = l.length ∧ Ev.look mu1 id = some (l'.map I)) ∧ e 0 0 = .one (.osl id 0 l.length l.length 1) ∧ e 0 2 = .one (.int .i64 i)) (λ_ _ _=>True) ?_ ?_ _ mu n _ _ (by omega) ⟨rfl,hfr,λ_ _=>rfl,⟨l,rfl,hb⟩,?_,?_⟩ ?_ ?_
 ·rintro i e mu1 n1 K hi ⟨rfl,hf,hj,⟨l',hl',hB⟩,h0,h2⟩ hY hn
  rw [dc_at l_Qby_0.eq_1]
  have hw:=Qdt hi hl
  have hB2 : with' mu1 fz id = some (l'.map I):=Qdl hB
  have hm : mkd (l'.map I) = false:=by cases l' <;> rfl
  have d1 : List.take 1 (List.drop (i * 1) (l'.map I)) = [I (l'[i]'(by omega))]:=by
   rw [Nat.mul_one,← List.map_drop,List.drop_eq_getElem_cons (by omega)]; rfl
  have d2 : i * 1 + 1 ≤ l.length:=by omega
  have d3 : (l'.map I).length = l.length:=by simp [hl']
  simp only [↓E1,E2,zA,zB,zC,zD,zE,zF,zG,zH,zI,zJ,zK,zL,zM,zN,reduceIte,zO,zP,h0,h2,hi,hB,hB2,hm,d1,d2,d3,hw]
  have hlt:=hf.lt hB2
  refine hY rfl _ _ _ ⟨rfl,λj=>?_,λj hne=>?_,⟨l'.set i (IntKind.i64.wrap (-9 - l'[i]'(by omega))),by simp [hl'],?_⟩,by simp [updN,updE,h0],by simp [updN,updE]⟩
  ·rw [Qel (lookI hB),if_neg (by omega)]; exact hf j
  ·rw [Qdm,if_neg (Ne.symm hne)]; exact hj j hne
  ·rw [Qdm,if_pos rfl,hB,Nat.mul_one]
   exact congrArg some (Qog l' i _ (by omega))
 ·rintro e mu1 n1 K ⟨rfl,hf,hj,hl',h0,h2⟩ hY
  rw [dc_at l_Qby_0.eq_1]
  have hlt : (l.length < l.length) = False:=by simp
  simp only [↓E1,E2,zA,zB,zC,zD,zE,zF,zG,zH,zI,zJ,zK,zL,zM,zN,reduceIte,zO,zP,h0,h2,hlt]
  exact hY _ _ _ ⟨rfl,hf,hj,hl',by simp [updN,updE,h0],by simp [updN,updE,h2]⟩
 ·simp [updN,updE,envI]
 ·simp [updN,updE,envI]
 ·rintro ha e' mu' n' ⟨rfl,hf,hj,hl',h0,h2⟩
  simp only [↓E1,E2,zA,zB,zC,zD,zE,zF,zG,zH,zI,zJ,zK,zL,zM,zN,reduceIte,zO,zP]
  exact hk _ hj hf
 ·rintro ⟨j,j1,j2,j3⟩
  cases j3
end Go.Proofs.YtnnjlnkoomeadaaGreat.Pv
namespace Go.Proofs.YtnnjlnkoomeadaaGreat.Pv
open Go.Ev Go.Ev.Rp
set_option maxRecDepth 100000
set_option maxHeartbeats 4000000
def mkP : Pt:=⟨⟨0,0,by decide⟩,77777,0⟩
theorem mkd_P : ∀ (l : List Pt),mkd ((l ++ [mkP,mkP]).map ptC).flatten = false
 | []=>rfl
 | a :: l=>rfl
theorem Qi0 (l : List Pt) : (l.map ptC).flatten.length = l.length * 3:=by
 induction l with
 | nil=>rfl
 | cons h t ih=>simp [ih,ptC]; omega
theorem eq_pt (p : Pt) : Qfc [2,0,0] (ptC p) (ptC p) = some true:=by
 simp [Qfc,Qk8,ptC,Tx.sv,I,IntKind.eqb,Qhm,strEq]
theorem eq_mk : Qfc [2,0,0] [SV.str 0 0,I 77777,I 0] [SV.str 0 0,SV.int IntKind.i64 77777,SV.int IntKind.i64 0] = some true:=eq_pt mkP
def LentP (M : Fz) (id : Nat) (l : List Pt) : Prop:=M id = some ((l ++ [mkP,mkP]).map ptC).flatten
theorem LentP.sl {M : Fz} {id : Nat} {l : List Pt} (h : LentP M id l) : PtsR M (.osl id 0 l.length (l.length + 2) 3) l:=by
 refine .inr ⟨id,0,l.length + 2,_,by simp,by simp,h,mkd_P l,?_,?_,pt_ok⟩
 ·rw [Qi0]; simp; omega
 ·rw [List.map_append,List.flatten_append,List.drop_zero,List.take_left' (by rw [Qi0]; simp)]
variable {P : Program} (H : Fs P)
include H
theorem law0_CopyPoints (x : SV) (l : List Pt) (hl : l.length ≤ 4398046511104) : Ctr P n_Qbq [.one x] (λM=>PtsR M x l) (λn _ M v=>∃ x',v = .one x' ∧ PtsX (From n M) x' l):=Ctr.of H.mx H.Qbq (λ_=>0) λfz mu n k hfr s1 hk=>by
 obtain ⟨xl,xs,xk,xm⟩:=s1.len
 rw [i_Qbq,dc_at b_Qbq.eq_1]
 simp only [↓E1,E2,zA,zB,zC,zD,zE,zF,zG,zH,zI,zJ,zK,zL,zM,zN,reduceIte,zO,zP, *]
 obtain ⟨h1,h2⟩:=Qf4 (Sl.mono s1 (sub1 hfr (c:=[])))
 rw [h1]; clear h1
 refine ⟨h2,Qf9 hfr (Qef (by simp; omega) (by decide) (by decide)) pt_ok (λx' mu' n' g hx=>?_)⟩
 simp only [↓E1,E2,zA,zB,zC,zD,zE,zF,zG,zH,zI,zJ,zK,zL,zM,zN,reduceIte,zO,zP]
 exact hk _ _ _ g ⟨x',rfl,hx⟩
theorem law0_LendPoints (x : SV) (l : List Pt) (hl : l.length ≤ 4398046511102) : Ctr P n_Qbl [.one x] (λM=>PtsR M x l) (λn _ M v=>∃ id,v = .one (.osl id 0 l.length (l.length + 2) 3) ∧ n ≤ id ∧ LentP M id l):=Ctr.of H.mx H.Qbl (λ_=>0) λfz mu n k hfr s1 hk=>by
 obtain ⟨xl,xs,xk,xm⟩:=s1.len
 rw [i_Qbl,dc_at b_Qbl.eq_1]
 simp only [↓E1,E2,zA,zB,zC,zD,zE,zF,zG,zH,zI,zJ,zK,zL,zM,zN,reduceIte,zO,zP, *]
 refine (law0_CopyPoints H x l (by omega)).c1 hfr s1 ?_
 rintro v mu' n' g ⟨x',rfl,hx⟩
 simp only [↓E1,E2,zA,zB,zC,zD,zE,zF,zG,zH,zI,zJ,zK,zL,zM,zN,reduceIte,zO,zP, *]
 have hle:=g.le
 have g2:=g.cons hle ([mkP,mkP].map ptC).flatten
 refine Qqs (fs:=[mkP,mkP].map ptC) hfr g2 (hx.mono ?_) (Qef (by simp; omega) (by decide) (by decide)) (by simp) pt_ok (λmu3 g3 hn=>?_)
 ·intro id B h
  obtain ⟨h5,h6⟩:=From.el h
  exact From.at h5 (by rw [Qed,if_neg (by have:=g.free.lt h6; omega)]; exact h6)
 ·simp only [↓E1,E2,zA,zB,zC,zD,zE,zF,zG,zH,zI,zJ,zK,zL,zM,zN,reduceIte,zO,zP,Option.map, *]
  rw [Qgc (by simp)]
  simp only [↓E1,E2,zA,zB,zC,zD,zE,zF,zG,zH,zI,zJ,zK,zL,zM,zN,reduceIte,zO,zP, *]
  refine hk _ _ _ g3 ⟨n' + 1,by simp,by omega,?_⟩
  show _ = _
  rw [Qdl hn,List.map_append]
theorem law0_SamePoints (x y : SV) (l : List Pt) (hl : l.length ≤ 4611686018427387904) : BoolC P n_Qbs [.one x,.one y] (λM=>PtsR M x l ∧ PtsR M y l) true:=boolC H.mx H.Qbs (l.length + 1) λfz mu n k hfr g0 hx h=>by
 obtain ⟨hx,hy⟩:=hx
 obtain ⟨xl,xs,xk,xm⟩:=hx.len
 obtain ⟨yl,ys,yk,ym⟩:=hy.len
 rw [i_Qbs,dc_at b_Qbs.eq_1]
 simp only [↓E1,E2,zA,zB,zC,zD,zE,zF,zG,zH,zI,zJ,zK,zL,zM,zN,reduceIte,zO,zP,xl,xs,yl,ys]
 refine scan (x:=0) (L:=l.length) (q:=0) (r:=5) (p:=λi=>true) (λe mu n=>Free fz mu n ∧ PtsR (with' mu fz) x l ∧ PtsR (with' mu fz) y l ∧ e 0 0 = .one x ∧ e 0 1 = .one y) (λe=>True) (λ_ _ _ h=>h.1) ?_ ?_ l.length 0 (l.length + 1) _ mu n _ _ (by omega) (by omega) (by omega) ⟨hfr,hx,hy,?_,?_⟩ ?_ ?_ ?_
 ·rintro i e mu n K hi ⟨hf,hx,hy,h0,h1⟩ hc hY hn
  have hx':=hx
  have hy':=hy
  obtain ⟨id,off,cap,B,rfl,hB,hmk,hbd,hsub⟩:=hx.elem hi
  obtain ⟨id2,off2,cap2,B2,rfl,hB2,hmk2,hbd2,hsub2⟩:=hy.elem hi
  rw [dc_at l_Qbs_0.eq_1]
  have hw:=Qdt hi hl
  simp only [↓E1,E2,zA,zB,zC,zD,zE,zF,zG,zH,zI,zJ,zK,zL,zM,zN,reduceIte,zO,zP,h0,h1,hc,hi,hB,hmk,hbd,hsub,hB2,hmk2,hbd2,hsub2,hw,eq_pt]
  exact hY rfl _ _ _ (Gr.refl hf) ⟨hf,hx',hy',by simp [updN,updE,h0],by simp [updN,updE,h1]⟩ (by simp [updN,updE])
 ·rintro e mu n K ⟨hf,hx,hy,h0,h1⟩ hc hY
  rw [dc_at l_Qbs_0.eq_1]
  have hlt : (l.length < l.length) = False:=by simp
  simp only [↓E1,E2,zA,zB,zC,zD,zE,zF,zG,zH,zI,zJ,zK,zL,zM,zN,reduceIte,zO,zP,h0,h1,hc,hlt,xl,xs]
  exact hY _ _ _ (Gr.refl hf) ⟨hf,hx,hy,by simp [updN,updE,h0],by simp [updN,updE,h1]⟩
 ·simp [updN,updE,envI]
 ·simp [updN,updE,envI]
 ·simp [updN,updE]
 ·intro ha e' mu' n' g hI
  simp only [↓E1,E2,zA,zB,zC,zD,zE,zF,zG,zH,zI,zJ,zK,zL,zM,zN,reduceIte,zO,zP]
  exact h _ _ g
 ·rintro ⟨j,j1,j2,j3⟩
  cases j3
theorem law0_KeptPoints (id : Nat) (y : SV) (l : List Pt) (hl : l.length ≤ 4611686018427387000) : BoolC P n_Qbm [.one (.osl id 0 l.length (l.length + 2) 3),.one y] (λM=>LentP M id l ∧ PtsR M y l) true:=boolC H.mx H.Qbm 0 λfz mu n k hfr g0 hx h=>by
 obtain ⟨hx,hy⟩:=hx
 obtain ⟨yl,ys,yk,ym⟩:=hy.len
 have hs:=hx.sl
 rw [i_Qbm,dc_at b_Qbm.eq_1]
 have hw : IntKind.i64.wrap ((l.length : Int) + 2) = ((l.length + 2 : Nat) : Int):=by
  rw [wrap64 (by omega) (by omega)]; omega
 have hw1 : IntKind.i64.wrap ((l.length : Int) + 1) = ((l.length + 1 : Nat) : Int):=by
  rw [wrap64 (by omega) (by omega)]; omega
 simp only [↓E1,E2,zA,zB,zC,zD,zE,zF,zG,zH,zI,zJ,zK,zL,zM,zN,reduceIte,zO,zP,Option.map, *]
 rw [Qgc (Nat.le_refl _)]
 simp only [↓E1,E2,zA,zB,zC,zD,zE,zF,zG,zH,zI,zJ,zK,zL,zM,zN,reduceIte,zO,zP, *]
 refine (law0_SamePoints H _ y l (by omega)).c1 hfr ⟨hs,hy⟩ ?_
 rintro v mu2 n2 g rfl
 have hB : with' mu2 fz id = some ((l ++ [mkP,mkP]).map ptC).flatten:=g.old hfr hx
 have hm:=mkd_P l
 have l1 : ((l ++ [mkP,mkP]).map ptC).flatten.length = (l.length + 2) * 3:=by rw [Qi0]; simp
 have d1 : List.take 3 (List.drop (l.length * 3) ((l ++ [mkP,mkP]).map ptC).flatten) = [.str 0 0,I 77777,I 0]:=by
  rw [List.map_append,List.flatten_append,List.drop_left' (Qi0 l)]; rfl
 have d2 : List.take 3 (List.drop ((l.length + 1) * 3) ((l ++ [mkP,mkP]).map ptC).flatten) = [.str 0 0,I 77777,I 0]:=by
  rw [show l ++ [mkP,mkP] = (l ++ [mkP]) ++ [mkP] by simp,List.map_append,List.flatten_append,List.drop_left' (by rw [Qi0]; simp)]; rfl
 have n1 : l.length < l.length + 2:=by omega
 have n2 : l.length + 1 < l.length + 2:=by omega
 have n3 : l.length * 3 + 3 ≤ (l.length + 2) * 3:=by omega
 have n4 : (l.length + 1) * 3 + 3 ≤ (l.length + 2) * 3:=by omega
 have hq:=eq_mk
 simp only [↓E1,E2,zA,zB,zC,zD,zE,zF,zG,zH,zI,zJ,zK,zL,zM,zN,reduceIte,zO,zP, *]
 done
end Go.Proofs.YtnnjlnkoomeadaaGreat.Pv
namespace Go.Proofs.YtnnjlnkoomeadaaGreat.Pv
open Go.Ev Go.Ev.Rp
set_option maxRecDepth 100000
set_option maxHeartbeats 4000000
def EntL (M : Fz) (c : List SV) : Option Ent → Prop
 | some e=>∃ id,c = entC e (.osl id 0 e.batch.length (e.batch.length + 2) 3) ∧ LentP M id e.batch
 | none=>c = [I 77777,I 0,I 0,I 0,.nsl]
theorem EntL.mono {M M' : Fz} {c : List SV} {e : Option Ent} (hs : Sub M M') (h : EntL M c e) : EntL M' c e:=by
 cases e with
 | none=>exact h
 | some e=>obtain ⟨id,h1,h2⟩:=h; exact ⟨id,h1,hs _ _ h2⟩
def LentE (lo : Nat) (M : Fz) (id : Nat) (l : List Ent) : Prop:=Grow lo M 5 EntL (.osl id 0 (l.length + 1) (l.length + 1) 5) (l.map some ++ [none])
variable {P : Program} (H : Fs P)
include H
theorem law0_LendEntries (x : SV) (l : List Ent) (hL : l.length ≤ 2513169434910) (hb : ∀ e ∈ l,e.batch.length ≤ 4398046511102) : Ctr P n_Qa9 [.one x] (λM=>EntsR M x l) (λn _ M v=>∃ id,v = .one (.osl id 0 l.length (l.length + 1) 5) ∧ LentE n M id l):=Ctr.of H.mx H.Qa9 (λ_=>l.length + 1) λfz mu n k hfr s1 hk=>by
 obtain ⟨xl,xs,xk,xm⟩:=s1.len
 have hw1 : IntKind.i64.wrap ((l.length : Int) + 1) = ((l.length + 1 : Nat) : Int):=by
  rw [wrap64 (by omega) (by omega)]; omega
 have hf : fits (l.length + 1) 56 = true:=Qef (by omega) (by decide) (by decide)
 rw [i_Qa9,dc_at b_Qa9.eq_1]
 simp only [↓E1,E2,zA,zB,zC,zD,zE,zF,zG,zH,zI,zJ,zK,zL,zM,zN,reduceIte,zO,zP, *]
 refine loopI (x:=0) (L:=l.length) (p:=λ_=>true) (λi e mu' n'=>∃ xe,Gr n fz mu mu' n n' ∧ Grow n (with' mu' fz) 5 EntL xe ((l.take i).map some) ∧ e 0 3 = .one xe ∧ e 0 0 = .one x ∧ e 0 4 = .one (.int .i64 i)) (λ_ _ _=>False) ?_ ?_ _ _ _ _ _ (by omega) ?_ ?_ ?_
 ·rintro i e mu1 n1 K hi ⟨xe,g1,G,h3,h0,h4⟩ hy hn
  have hw:=Qdt hi (by omega)
  obtain ⟨id,off,cap,B,b,rfl,hB,hmk,hbd,hsub,s2⟩:=(EntsR.mono (λ_ _ hh=>g1.old hfr hh) s1).elem hi
  obtain ⟨yl,ys,yk,ym⟩:=s2.len
  obtain ⟨-,-,zk,zm⟩:=G.len
  have hno : ∀ c,with' ((n1,c) :: mu1) fz id = some B:=λc=>by rw [Qed,if_neg (by have:=g1.free.lt hB; omega)]; exact hB
  unfold entC at hsub
  rw [dc_at l_Qa9_0.eq_1]
  simp only [↓E1,E2,zA,zB,zC,zD,zE,zF,zG,zH,zI,zJ,zK,zL,zM,zN,reduceIte,zO,zP, *]
  have gA : Gr n1 fz mu1 ((n1,[I l[i].view,I l[i].client,I l[i].session,I l[i].number,b]) :: mu1) n1 (n1 + 1):=(Gr.refl g1.free).cons (Nat.le_refl _) _
  refine (law0_LendPoints H b l[i].batch (hb _ (List.getElem_mem hi))).c1 gA.free (s2.mono (λ_ _ hh=>gA.old g1.free hh)) ?_
  rintro v mu2 n2 g2 ⟨idp,rfl,hidp,hlp⟩
  have b5 : Ev.look mu2 n1 = some [I l[i].view,I l[i].client,I l[i].session,I l[i].number,b]:=(g2.own n1 (by omega)).trans Qiu
  have b6:=Qdl (fz:=fz) b5
  have hle:=g2.le
  have b7 : ∀ c,with' (putS mu2 n1 c) fz n1 = some c:=λc=>by rw [Qds b5,if_pos rfl]
  simp only [↓E1,E2,zA,zB,zC,zD,zE,zF,zG,zH,zI,zJ,zK,zL,zM,zN,reduceIte,zO,zP, *]
  have hli : (l.take i).length = i:=by rw [List.length_take]; omega
  have gC:=((gA.trans (g2.weaken (by omega))).put (id:=n1) (Nat.le_refl _) b5 (c:=[I l[i].view,I l[i].client,I l[i].session,I l[i].number,.osl idp 0 l[i].batch.length (l[i].batch.length + 2) 3]))
  have hlt:=g2.free.lt hlp
  refine Grow.more (R:=EntL) EntL.mono (a:=some l[i]) G g1.free g1.le (λj hj=>hfr.fz j hj) (gC.cons (by omega) _) ⟨idp,rfl,From.at (by omega) ?_⟩ ⟨rfl,rfl⟩ (by rw [List.length_map,hli]; exact Qef (by omega) (by decide) (by decide)) (λmu3 g3 G3=>?_)
  ·rw [Qed,if_neg (by omega),Qds b5,if_neg (by omega)]; exact hlp
  ·rw [List.length_map,hli] at G3 ⊢
   simp only [↓E1,E2,zA,zB,zC,zD,zE,zF,zG,zH,zI,zJ,zK,zL,zM,zN,reduceIte,zO,zP, *]
   refine hy rfl _ _ _ ⟨.osl (n2 + 1) 0 (i + 1) (i + 1) 5,g1.trans (g3.weaken (by omega)),?_,by simp [updN,updE],by simp [updN,updE, *],by simp [updN,updE, *]⟩
   rw [List.take_add_one,List.getElem?_eq_getElem hi,List.map_append]
   exact G3
 ·rintro e mu1 n1 K ⟨xe,g1,G,h3,h0,h4⟩ hx
  rw [dc_at l_Qa9_0.eq_1]
  have hlt : (l.length < l.length) = False:=by simp
  simp only [↓E1,E2,zA,zB,zC,zD,zE,zF,zG,zH,zI,zJ,zK,zL,zM,zN,reduceIte,zO,zP, *]
  exact hx _ _ _ ⟨xe,g1,G,by simp [updN,updE,h3],by simp [updN,updE,h0],by simp [updN,updE,h4]⟩
 ·refine ⟨.osl n 0 0 0 5,(Gr.refl hfr).cons (Nat.le_refl _) _,⟨[],.inr ⟨n,rfl,From.at (Nat.le_refl _) (by rw [Qed,if_pos rfl]; rfl),rfl,λe he=>by cases he⟩,trivial⟩,by simp [updN,updE],by simp [updN,updE,envI],by simp [updN,updE]⟩
 ·rintro - e1 mu1 n1 ⟨xe,g1,G,h3,h0,h4⟩
  rw [List.take_length] at G
  obtain ⟨-,-,zk,zm⟩:=G.len
  simp only [↓E1,E2,zA,zB,zC,zD,zE,zF,zG,zH,zI,zJ,zK,zL,zM,zN,reduceIte,zO,zP, *]
  refine Grow.more (R:=EntL) EntL.mono (a:=none) G g1.free g1.le (λj hj=>hfr.fz j hj) ((Gr.refl g1.free).cons (Nat.le_refl _) _) rfl ⟨rfl,rfl⟩ (by rw [List.length_map]; exact hf) (λmu3 g3 G3=>?_)
  simp only [↓E1,E2,zA,zB,zC,zD,zE,zF,zG,zH,zI,zJ,zK,zL,zM,zN,reduceIte,zO,zP,Option.map,List.length_map, *]
  rw [Qgc (by omega)]
  simp only [↓E1,E2,zA,zB,zC,zD,zE,zF,zG,zH,zI,zJ,zK,zL,zM,zN,reduceIte,zO,zP, *]
  refine hk _ _ _ (g1.trans (g3.weaken (by omega))) ⟨n1 + 1,rfl,?_⟩
  rw [List.length_map] at G3
  exact G3
 ·rintro ⟨_,_,_,h⟩; cases h
theorem law0_LendLog (l : Lg) (x : SV) (hL : l.ents.length ≤ 2513169434910) (hb : ∀ e ∈ l.ents,e.batch.length ≤ 4398046511102) : Ctr P n_Qcn [.ag (lgC l x)] (λM=>EntsR M x l.ents) (λn _ M v=>∃ id,v = .ag (lgC l (.osl id 0 l.ents.length (l.ents.length + 1) 5)) ∧ LentE n M id l.ents):=Ctr.of H.mx H.Qcn (λ_=>0) λfz mu n k hfr s1 hk=>by
 obtain ⟨xl,xs,xk,xm⟩:=s1.len
 rw [i_Qcn,dc_at b_Qcn.eq_1]
 unfold lgC
 have gA : Gr n fz mu ((n + 1,[I 0,.str 0 0,.nsl]) :: (n,[I l.base,l.snap.sv,x]) :: mu) n (n + 1 + 1):=((Gr.refl hfr).cons (Nat.le_refl _) _).cons (by omega) _
 simp only [↓E1,E2,zA,zB,zC,zD,zE,zF,zG,zH,zI,zJ,zK,zL,zM,zN,reduceIte,zO,zP, *]
 refine (law0_LendEntries H x l.ents hL hb).c1 gA.free (EntsR.mono (λ_ _ hh=>gA.old hfr hh) s1) ?_
 rintro v mu2 n2 g2 ⟨id,rfl,hid⟩
 have b5 : Ev.look mu2 n = some [I l.base,l.snap.sv,x]:=(g2.own n (by omega)).trans (by simp [Qdw])
 have b8 : Ev.look mu2 (n + 1) = some [I 0,.str 0 0,.nsl]:=(g2.own (n + 1) (by omega)).trans (by simp [Qdw])
 have b7 : ∀ c,with' (putS mu2 n c) fz n = some c:=λc=>by rw [Qds b5,if_pos rfl]
 have b9 : ∀ c,Ev.look (putS mu2 n c) (n + 1) = some [I 0,.str 0 0,.nsl]:=λc=>by rw [Qdm,if_neg (by omega)]; exact b8
 have b10 : ∀ c,with' (putS mu2 n c) fz (n + 1) = some [I 0,.str 0 0,.nsl]:=λc=>Qdl (b9 c)
 have b11 : ∀ c d,with' (putS (putS mu2 n c) (n + 1) d) fz (n + 1) = some d:=λc d=>by rw [Qds (b9 c),if_pos rfl]
 simp only [↓E1,E2,zA,zB,zC,zD,zE,zF,zG,zH,zI,zJ,zK,zL,zM,zN,reduceIte,zO,zP, *]
 have h1:=Grow.mono (R:=EntL) EntL.mono hid (From.put (d':=[I l.base,l.snap.sv,.osl id 0 l.ents.length (l.ents.length + 1) 5]) (by omega) b5)
 have h2:=Grow.mono (R:=EntL) EntL.mono h1 (From.put (d':=[I l.base,l.snap.sv,.osl id 0 l.ents.length (l.ents.length + 1) 5]) (by omega) (b9 _))
 exact hk _ _ _ (((gA.trans (g2.weaken (by omega))).put (Nat.le_refl _) b5).put (by omega) (b9 _)) ⟨id,rfl,Grow.weaken (R:=EntL) EntL.mono (by omega) h2⟩
end Go.Proofs.YtnnjlnkoomeadaaGreat.Pv
namespace Go.Proofs.YtnnjlnkoomeadaaGreat.Pv
open Go.Ev Go.Ev.Rp
set_option maxRecDepth 100000
set_option maxHeartbeats 4000000
theorem Gr.two {fz : Fz} {mu mu' : St} {n n' lo : Nat} (h : Gr lo fz mu mu' n n') (hl : lo ≤ n') (a b : List SV) : Gr lo fz mu ((n',a) :: (n' + 1,b) :: mu') n (n' + 1 + 1) :=
 ((h.cons hl a).cons (Nat.le_succ_of_le hl) b).congr fun id => by
   simp only [Qd1]
   by_cases e : n' = id
   ·subst e; simp
   ·simp [e]
theorem LentE.raw {lo : Nat} {M : Fz} {id : Nat} {l : List Ent} (h : LentE lo M id l) {i : Nat} (hi : i < l.length + 1) : ∃ B c,M id = some B ∧ mkd B = false ∧ i * 5 + 5 ≤ B.length ∧ (B.drop (i * 5)).take 5 = c ∧ EntL M c ((l.map some ++ [none])[i]'(by simpa using hi)):=by
 obtain ⟨cs,h1,h2⟩:=h
 have hl : cs.length = (l.map some ++ [none]).length:=h2.length
 have hl' : cs.length = l.length + 1:=by simpa using hl
 obtain ⟨id',off,cap,B,g1,g2,g3,g4,g5⟩:=h1.to.elem (i:=i) (by omega)
 injection g1 with a b c d e
 subst a b
 have h3:=h2.at (i:=i) (by omega) (by simpa using hi)
 exact ⟨B,_,From.sub _ _ g2,g3,by omega,by rw [Nat.zero_add] at g5; exact g5,h3.mono (Ex.sub.trans From.sub)⟩
theorem LentE.elem {lo : Nat} {M : Fz} {id : Nat} {l : List Ent} (h : LentE lo M id l) {i : Nat} (hi : i < l.length) : ∃ B idp,M id = some B ∧ mkd B = false ∧ i * 5 + 5 ≤ B.length ∧ (B.drop (i * 5)).take 5 = entC l[i] (.osl idp 0 l[i].batch.length (l[i].batch.length + 2) 3) ∧ LentP M idp l[i].batch:=by
 obtain ⟨B,c,g1,g2,g3,g4,g5⟩:=h.raw (i:=i) (by omega)
 have e : ((l.map some ++ [none])[i]'(by simp; omega)) = some l[i]:=by
  rw [List.getElem_append_left (by simpa using hi),List.getElem_map]
 rw [e] at g5
 obtain ⟨idp,h1,h2⟩:=g5
 exact ⟨B,idp,g1,g2,g3,g4.trans h1,h2⟩
theorem LentE.last {lo : Nat} {M : Fz} {id : Nat} {l : List Ent} (h : LentE lo M id l) : ∃ B,M id = some B ∧ mkd B = false ∧ l.length * 5 + 5 ≤ B.length ∧ (B.drop (l.length * 5)).take 5 = [I 77777,I 0,I 0,I 0,.nsl]:=by
 obtain ⟨B,c,g1,g2,g3,g4,g5⟩:=h.raw (i:=l.length) (by omega)
 have e : ((l.map some ++ [none])[l.length]'(by simp)) = none:=by
  rw [List.getElem_append_right (by simp)]; simp
 rw [e] at g5
 exact ⟨B,g1,g2,g3,g4.trans g5⟩
variable {P : Program} (H : Fs P)
include H
theorem law0_KeptEntries (id lo : Nat) (y : SV) (l : List Ent) (hl : l.length ≤ 4611686018427387000) (hb : ∀ e ∈ l,e.batch.length ≤ 4611686018427387000) : BoolC P n_Qbb [.one (.osl id 0 l.length (l.length + 1) 5),.one y] (λM=>LentE lo M id l ∧ EntsR M y l) true:=boolC H.mx H.Qbb (l.length + 1) λfz mu n k hfr g0 hx h=>by
 obtain ⟨hx,hy⟩:=hx
 obtain ⟨yl,ys,yk,ym⟩:=hy.len
 obtain ⟨B,hB,hmk,hbd,hsub⟩:=hx.last
 have hw : IntKind.i64.wrap ((l.length : Int) + 1) = ((l.length + 1 : Nat) : Int):=by
  rw [wrap64 (by omega) (by omega)]; omega
 have n1 : l.length < l.length + 1:=by omega
 have hsub1 : List.take 1 (List.drop (l.length * 5) B) = [I 77777]:=by
  have : List.take 1 (List.take 5 (List.drop (l.length * 5) B)) = [I 77777]:=by rw [hsub]; rfl
  rwa [List.take_take] at this
 have hsub2 : List.take 1 (List.drop (l.length * 5 + 0) B) = [I 77777]:=hsub1
 have n2 : l.length * 5 + 1 ≤ B.length:=by omega
 have n3 : l.length * 5 < B.length:=by omega
 rw [i_Qbb,dc_at b_Qbb.eq_1]
 simp only [↓E1,E2,zA,zB,zC,zD,zE,zF,zG,zH,zI,zJ,zK,zL,zM,zN,reduceIte,zO,zP,Option.map, *]
 rw [Qgc (Nat.le_refl _)]
 simp only [↓E1,E2,zA,zB,zC,zD,zE,zF,zG,zH,zI,zJ,zK,zL,zM,zN,reduceIte,zO,zP, *]
 refine scan (x:=0) (L:=l.length) (q:=0) (r:=5) (p:=λi=>true) (λe mu n=>Free fz mu n ∧ LentE lo (with' mu fz) id l ∧ EntsR (with' mu fz) y l ∧ e 0 0 = .one (.osl id 0 l.length (l.length + 1) 5) ∧ e 0 1 = .one y) (λe=>True) (λ_ _ _ h=>h.1) ?_ ?_ l.length 0 (l.length + 1) _ mu n _ _ (by omega) (by omega) (by omega) ⟨hfr,hx,hy,?_,?_⟩ ?_ ?_ ?_
 ·rintro i e mu n K hi ⟨hf,hx,hy,h0,h1⟩ hc hY hn
  have hx':=hx
  have hy':=hy
  obtain ⟨B2,idp,p1,p2,p3,p4,p5⟩:=hx.elem hi
  obtain ⟨id2,off2,cap2,B3,b,rfl,q1,q2,q3,q4,q5⟩:=hy.elem hi
  unfold entC at p4 q4
  have hw2:=Qdt hi (by omega)
  have hi2 : i < l.length + 1:=by omega
  obtain ⟨zl,zs,zk,zm⟩:=q5.len
  rw [dc_at l_Qbb_0.eq_1]
  simp only [↓E1,E2,zA,zB,zC,zD,zE,zF,zG,zH,zI,zJ,zK,zL,zM,zN,reduceIte,zO,zP,h0,h1,hc,hi,hi2,p1,p2,p3,p4,q1,q2,q3,q4,hw2,zl,zs,zk,zm,yl,ys]
  have gA : Gr n fz mu ((n,[I l[i].view,I l[i].client,I l[i].session,I l[i].number,.osl idp 0 l[i].batch.length (l[i].batch.length + 2) 3]) :: (n + 1,[I l[i].view,I l[i].client,I l[i].session,I l[i].number,b]) :: mu) n (n + 1 + 1):=Gr.two (Gr.refl hf) (Nat.le_refl _) _ _
  refine (law0_KeptPoints H idp b l[i].batch (hb _ (List.getElem_mem hi))).c1 gA.free ⟨gA.sub hf (Nat.le_refl _) _ _ p5,q5.mono (λ_ _ hh=>gA.old hf hh)⟩ ?_
  rintro v mu2 n2 g2 rfl
  have gB:=gA.trans (g2.weaken (by omega))
  simp only [↓E1,E2,zA,zB,zC,zD,zE,zF,zG,zH,zI,zJ,zK,zL,zM,zN,reduceIte,zO,zP,h0,h1,hc,hi,hi2,hw2,zl,zs,zk,zm,yl,ys]
  refine hY rfl _ _ _ gB ⟨gB.free,?_,?_,by simp [updN,updE, *],by simp [updN,updE, *]⟩ (by simp [updN,updE, *])
  ·exact Grow.mono (R:=EntL) EntL.mono hx (From.mono (gB.sub hf (Nat.le_refl _)))
  ·exact EntsR.mono (λ_ _ hh=>gB.old hf hh) hy
 ·rintro e mu n K ⟨hf,hx,hy,h0,h1⟩ hc hY
  rw [dc_at l_Qbb_0.eq_1]
  have hlt : (l.length < l.length) = False:=by simp
  simp only [↓E1,E2,zA,zB,zC,zD,zE,zF,zG,zH,zI,zJ,zK,zL,zM,zN,reduceIte,zO,zP,h0,h1,hc,hlt,yl,ys]
  exact hY _ _ _ (Gr.refl hf) ⟨hf,hx,hy,by simp [updN,updE,h0],by simp [updN,updE,h1]⟩
 ·simp [updN,updE,envI]
 ·simp [updN,updE,envI]
 ·simp [updN,updE]
 ·intro ha e' mu' n' g hI
  simp only [↓E1,E2,zA,zB,zC,zD,zE,zF,zG,zH,zI,zJ,zK,zL,zM,zN,reduceIte,zO,zP]
  exact h _ _ g
 ·rintro ⟨j,j1,j2,j3⟩
  cases j3
end Go.Proofs.YtnnjlnkoomeadaaGreat.Pv
namespace Go.Proofs.YtnnjlnkoomeadaaGreat.Pv
open Go.Ev Go.Ev.Rp
set_option maxRecDepth 100000
set_option maxHeartbeats 4000000
structure LndLg (l : Lg) : Prop where
 ents : l.ents.length ≤ 2513169434910
 bat : ∀ e ∈ l.ents,e.batch.length ≤ 4398046511102
structure LndSz (r : Rep) : Prop where
 log : LndLg r.log
 acks : r.acks.length ≤ 17592186044413
 starts : r.starts.length ≤ 17592186044413
 dos : r.dos.length ≤ 1954687338267
 dlog : ∀ d ∈ r.dos,LndLg d.log
theorem LentE.up {lo : Nat} {M M' : Fz} {id : Nat} {l : List Ent} (h : LentE lo M id l) (hs : ∀ j B,lo ≤ j → M j = some B → M' j = some B) : LentE lo M' id l :=
 Grow.mono (R:=EntL) EntL.mono h λj B g=>From.at (From.lt g) (hs j B (From.lt g) (From.sub _ _ g))
theorem LentE.mono {lo : Nat} {M M' : Fz} {id : Nat} {l : List Ent} (hs : Sub M M') (h : LentE lo M id l) : LentE lo M' id l:=h.up λj B _ g=>hs j B g
def DvL (M : Fz) (c : List SV) (d : Dv) : Prop:=∃ id lo,c = dvC d (.osl id 0 d.log.ents.length (d.log.ents.length + 1) 5) ∧ LentE lo M id d.log.ents
theorem DvL.mono {M M' : Fz} {c : List SV} {d : Dv} (hs : Sub M M') (h : DvL M c d) : DvL M' c d:=by
 obtain ⟨id,lo,h1,h2⟩:=h; exact ⟨id,lo,h1,h2.mono hs⟩
structure LentR (M : Fz) (r : Rep) (ide ida ids : Nat) (xd : SV) : Prop where
 ents : ∃ lo,LentE lo M ide r.log.ents
 acks : LentI M ida r.acks
 starts : LentI M ids r.starts
 dos : ∃ lo,Grow lo M 6 DvL xd r.dos
theorem LentR.mono {M M' : Fz} {r : Rep} {ide ida ids : Nat} {xd : SV} (hs : Sub M M') (h : LentR M r ide ida ids xd) : LentR M' r ide ida ids xd:=by
 obtain ⟨⟨lo,h1⟩,h2,h3,lo',h4⟩:=h
 exact ⟨⟨lo,h1.mono hs⟩,hs _ _ h2,hs _ _ h3,lo',Grow.mono (R:=DvL) DvL.mono h4 (From.mono hs)⟩
variable {P : Program} (H : Fs P)
include H
theorem law0_LendReplica (r : Rep) (xe xa xs xd : SV) (hz : LndSz r) : Ctr P n_Qa8 [.ag (repC r xe xa xs xd)] (fun M => RepS M r xe xa xs xd) (fun n _ M v => ∃ ide ida ids xd', v = .ag (repC r (.osl ide 0 r.log.ents.length (r.log.ents.length + 1) 5) (.osl ida 0 r.acks.length (r.acks.length + 2) 1) (.osl ids 0 r.starts.length (r.starts.length + 2) 1) xd') ∧ LentR M r ide ida ids xd') := Ctr.of H.mx H.Qa8 (fun _ => r.dos.length + 1) fun fz mu n k hfr s hk => by
 obtain ⟨s1,s2,s3,s4⟩:=s
 obtain ⟨xel,xes,xek,xem⟩:=s1.len
 obtain ⟨xal,xas,xak,xam⟩:=s2.len
 obtain ⟨xsl,xss,xsk,xsm⟩:=s3.len
 obtain ⟨xdl,xds,xdk,xdm⟩:=s4.len
 have hE:=law0_LendLog H r.log xe hz.log.ents hz.log.bat
 unfold lgC at hE
 rw [i_Qa8,dc_at b_Qa8.eq_1]
 unfold repC
 simp only [↓E1,E2,zA,zB,zC,zD,zE,zF,zG,zH,zI,zJ,zK,zL,zM,zN,reduceIte,zO,zP, *]
 refine hE.c1 (gr2 hfr).free (EntsR.mono (sub2 hfr) s1) ?_
 rintro v mu1 n1 g1 ⟨ide,rfl,hG⟩
 have ga:=(gr2 hfr).trans (g1.weaken (by omega))
 have b1:=(g1.own n (by omega)).trans (by rw [Qdw,if_neg (by omega),Qdw,if_pos rfl])
 have b2:=(g1.own (n + 1) (by omega)).trans (by rw [Qdw,if_pos rfl])
 have l1:=g1.le
 obtain ⟨muA,hA⟩ : ∃ m,m = putS mu1 n [I r.me,I r.nodes,I r.view,I r.normal,I r.status,I r.commit,.bool r.sent,I r.log.base,r.log.snap.sv,.osl ide 0 r.log.ents.length (r.log.ents.length + 1) 5,xa,xs,xd]:=⟨_,rfl⟩
 have gb : Gr n fz mu muA n n1:=by rw [hA]; exact ga.put (Nat.le_refl _) b1
 have c1 : Ev.look muA n = some [I r.me,I r.nodes,I r.view,I r.normal,I r.status,I r.commit,.bool r.sent,I r.log.base,r.log.snap.sv,.osl ide 0 r.log.ents.length (r.log.ents.length + 1) 5,xa,xs,xd]:=by rw [hA,Qdm,if_pos rfl,b1]; rfl
 have c2 : Ev.look muA (n + 1) = some [I 0,I 0,I 0,I 0,I 0,I 0,.bool false,I 0,.str 0 0,.nsl,.nsl,.nsl,.nsl]:=by rw [hA,Qdm,if_neg (by omega),b2]
 have hGA : LentE (n + 1 + 1) (with' muA fz) ide r.log.ents:=hG.up λj B hj g=>by rw [hA,Qds b1,if_neg (by omega)]; exact g
 simp only [↓E1,E2,zA,zB,zC,zD,zE,zF,zG,zH,zI,zJ,zK,zL,zM,zN,reduceIte,zO,zP, *,Qel,Qdm,Option.isSome_some,Option.map_some,List.append_assoc]
 rw [← hA]
 refine (law0_LendInts H xa r.acks hz.acks).c1 gb.free (IntsR.mono (gb.sub hfr (Nat.le_refl _)) s2) ?_
 rintro v mu2 n2 g2 ⟨ida,rfl,hida,hGa⟩
 have l2:=g2.le
 have b3:=(g2.own n (by omega)).trans c1
 have b4:=(g2.own (n + 1) (by omega)).trans c2
 have gc:=gb.trans (g2.weaken (by omega))
 obtain ⟨muB,hB⟩ : ∃ m,m = putS mu2 n [I r.me,I r.nodes,I r.view,I r.normal,I r.status,I r.commit,.bool r.sent,I r.log.base,r.log.snap.sv,.osl ide 0 r.log.ents.length (r.log.ents.length + 1) 5,.osl ida 0 r.acks.length (r.acks.length + 2) 1,xs,xd]:=⟨_,rfl⟩
 have gd : Gr n fz mu muB n n2:=by rw [hB]; exact gc.put (Nat.le_refl _) b3
 have c3 : Ev.look muB n = some [I r.me,I r.nodes,I r.view,I r.normal,I r.status,I r.commit,.bool r.sent,I r.log.base,r.log.snap.sv,.osl ide 0 r.log.ents.length (r.log.ents.length + 1) 5,.osl ida 0 r.acks.length (r.acks.length + 2) 1,xs,xd]:=by rw [hB,Qdm,if_pos rfl,b3]; rfl
 have c4 : Ev.look muB (n + 1) = some [I 0,I 0,I 0,I 0,I 0,I 0,.bool false,I 0,.str 0 0,.nsl,.nsl,.nsl,.nsl]:=by rw [hB,Qdm,if_neg (by omega),b4]
 have hGB : LentE (n + 1 + 1) (with' muB fz) ide r.log.ents:=hGA.up λj B hj g=>by rw [hB,Qds b3,if_neg (by omega)]; exact g2.old gb.free g
 have hGa2 : LentI (with' muB fz) ida r.acks:=by unfold LentI; rw [hB,Qds b3,if_neg (by omega)]; exact hGa
 simp only [↓E1,E2,zA,zB,zC,zD,zE,zF,zG,zH,zI,zJ,zK,zL,zM,zN,reduceIte,zO,zP, *,Qel,Qdm,Option.isSome_some,Option.map_some,List.append_assoc]
 rw [← hB]
 refine (law0_LendInts H xs r.starts hz.starts).c1 gd.free (IntsR.mono (gd.sub hfr (Nat.le_refl _)) s3) ?_
 rintro v mu3 n3 g3 ⟨ids,rfl,hids,hGs⟩
 have l3:=g3.le
 have b5:=(g3.own n (by omega)).trans c3
 have b6:=(g3.own (n + 1) (by omega)).trans c4
 have ge:=gd.trans (g3.weaken (by omega))
 obtain ⟨muC,hC⟩ : ∃ m,m = putS mu3 n [I r.me,I r.nodes,I r.view,I r.normal,I r.status,I r.commit,.bool r.sent,I r.log.base,r.log.snap.sv,.osl ide 0 r.log.ents.length (r.log.ents.length + 1) 5,.osl ida 0 r.acks.length (r.acks.length + 2) 1,.osl ids 0 r.starts.length (r.starts.length + 2) 1,xd]:=⟨_,rfl⟩
 have gf : Gr n fz mu muC n n3:=by rw [hC]; exact ge.put (Nat.le_refl _) b5
 have c5 : Ev.look muC n = some [I r.me,I r.nodes,I r.view,I r.normal,I r.status,I r.commit,.bool r.sent,I r.log.base,r.log.snap.sv,.osl ide 0 r.log.ents.length (r.log.ents.length + 1) 5,.osl ida 0 r.acks.length (r.acks.length + 2) 1,.osl ids 0 r.starts.length (r.starts.length + 2) 1,xd]:=by rw [hC,Qdm,if_pos rfl,b5]; rfl
 have c6 : Ev.look muC (n + 1) = some [I 0,I 0,I 0,I 0,I 0,I 0,.bool false,I 0,.str 0 0,.nsl,.nsl,.nsl,.nsl]:=by rw [hC,Qdm,if_neg (by omega),b6]
 have hGC : LentE (n + 1 + 1) (with' muC fz) ide r.log.ents:=hGB.up λj B hj g=>by rw [hC,Qds b5,if_neg (by omega)]; exact g3.old gd.free g
 have hGa3 : LentI (with' muC fz) ida r.acks:=by unfold LentI; rw [hC,Qds b5,if_neg (by omega)]; exact g3.old gd.free hGa2
 have hGs3 : LentI (with' muC fz) ids r.starts:=by unfold LentI; rw [hC,Qds b5,if_neg (by omega)]; exact hGs
 simp only [↓E1,E2,zA,zB,zC,zD,zE,zF,zG,zH,zI,zJ,zK,zL,zM,zN,reduceIte,zO,zP, *,Qel,Qdm,Option.isSome_some,Option.map_some,List.append_assoc]
 rw [← hC]
 obtain ⟨muD,hD⟩ : ∃ m,m = putS muC n [I r.me,I r.nodes,I r.view,I r.normal,I r.status,I r.commit,.bool r.sent,I r.log.base,r.log.snap.sv,.osl ide 0 r.log.ents.length (r.log.ents.length + 1) 5,.osl ida 0 r.acks.length (r.acks.length + 2) 1,.osl ids 0 r.starts.length (r.starts.length + 2) 1,.nsl]:=⟨_,rfl⟩
 have gg : Gr n fz mu muD n n3:=by rw [hD]; exact gf.put (Nat.le_refl _) c5
 have c7 : Ev.look muD n = some [I r.me,I r.nodes,I r.view,I r.normal,I r.status,I r.commit,.bool r.sent,I r.log.base,r.log.snap.sv,.osl ide 0 r.log.ents.length (r.log.ents.length + 1) 5,.osl ida 0 r.acks.length (r.acks.length + 2) 1,.osl ids 0 r.starts.length (r.starts.length + 2) 1,.nsl]:=by rw [hD,Qdm,if_pos rfl,c5]; rfl
 have c8 : Ev.look muD (n + 1) = some [I 0,I 0,I 0,I 0,I 0,I 0,.bool false,I 0,.str 0 0,.nsl,.nsl,.nsl,.nsl]:=by rw [hD,Qdm,if_neg (by omega),c6]
 have hGD : LentE (n + 1 + 1) (with' muD fz) ide r.log.ents:=hGC.up λj B hj g=>by rw [hD,Qds c5,if_neg (by omega)]; exact g
 have hGa4 : LentI (with' muD fz) ida r.acks:=by unfold LentI; rw [hD,Qds c5,if_neg (by omega)]; exact hGa3
 have hGs4 : LentI (with' muD fz) ids r.starts:=by unfold LentI; rw [hD,Qds c5,if_neg (by omega)]; exact hGs3
 rw [← hD]
 clear hGC hGa3 hGs3 hGB hGa2 hGA hGs hGa hG ga gb gc gd ge gf c1 c2 c3 c4 c5 c6 b1 b2 b3 b4 b5 b6 g1 g2 g3 hE hA hB hC hD
 refine loopI (x:=0) (L:=r.dos.length) (p:=λ_=>true) (λi e mu' n'=>∃ xq,Gr n fz mu mu' n n' ∧ n3 ≤ n' ∧ Ev.look mu' n = some [I r.me,I r.nodes,I r.view,I r.normal,I r.status,I r.commit,.bool r.sent,I r.log.base,r.log.snap.sv,.osl ide 0 r.log.ents.length (r.log.ents.length + 1) 5,.osl ida 0 r.acks.length (r.acks.length + 2) 1,.osl ids 0 r.starts.length (r.starts.length + 2) 1,xq] ∧ Ev.look mu' (n + 1) = some [I 0,I 0,I 0,I 0,I 0,I 0,.bool false,I 0,.str 0 0,.nsl,.nsl,.nsl,.nsl] ∧ (∀ j,j < n3 → j ≠ n → with' mu' fz j = with' muD fz j) ∧ Grow n3 (with' mu' fz) 6 DvL xq (r.dos.take i) ∧ e 0 1 = .one (.optr n 0) ∧ e 0 2 = .one (.optr (n + 1) 0) ∧ e 0 3 = .one xd ∧ e 0 4 = .one (.int .i64 i)) (λ_ _ _=>False) ?_ ?_ _ _ _ _ _ (by omega) ?_ ?_ ?_
 ·rintro i e mu1 n1 K hi ⟨xq,g1,a0,a1,a2,a3,G,h1,h2,h3,h4⟩ hy hn
  have hw:=Qdt hi (by have:=hz.dos; omega)
  obtain ⟨id,off,cap,B,x,rfl,hB,hmk,hbd,hsub,s5⟩:=(DvsR.mono (λ_ _ hh=>g1.old hfr hh) s4).elem hi
  obtain ⟨yl,ys,yk,ym⟩:=s5.len
  obtain ⟨-,-,zk,zm⟩:=G.len
  have hno : ∀ c,with' ((n1,c) :: mu1) fz id = some B:=λc=>by rw [Qed,if_neg (by have:=g1.free.lt hB; omega)]; exact hB
  unfold dvC at hsub
  have hL:=law0_LendLog H r.dos[i].log x (hz.dlog _ (List.getElem_mem hi)).ents (hz.dlog _ (List.getElem_mem hi)).bat
  unfold lgC at hL
  have b1:=Qdl (fz:=fz) a1
  have b2:=Qdl (fz:=fz) a2
  rw [dc_at l_Qa8_0.eq_1]
  simp only [↓E1,E2,zA,zB,zC,zD,zE,zF,zG,zH,zI,zJ,zK,zL,zM,zN,reduceIte,zO,zP, *]
  have gA : Gr n1 fz mu1 ((n1,[I r.dos[i].frm,I r.dos[i].normal,I r.dos[i].commit,I r.dos[i].log.base,r.dos[i].log.snap.sv,x]) :: mu1) n1 (n1 + 1):=(Gr.refl g1.free).cons (Nat.le_refl _) _
  refine hL.c1 gA.free (EntsR.mono (λ_ _ hh=>gA.old g1.free hh) s5) ?_
  rintro v mu2 n2 g2 ⟨idl,rfl,hl⟩
  have hle:=g2.le
  have d1 : Ev.look mu2 n1 = some [I r.dos[i].frm,I r.dos[i].normal,I r.dos[i].commit,I r.dos[i].log.base,r.dos[i].log.snap.sv,x]:=(g2.own n1 (by omega)).trans Qiu
  have d2 : Ev.look mu2 n = some [I r.me,I r.nodes,I r.view,I r.normal,I r.status,I r.commit,.bool r.sent,I r.log.base,r.log.snap.sv,.osl ide 0 r.log.ents.length (r.log.ents.length + 1) 5,.osl ida 0 r.acks.length (r.acks.length + 2) 1,.osl ids 0 r.starts.length (r.starts.length + 2) 1,xq]:=(g2.own n (by omega)).trans (by rw [Qdw,if_neg (by omega)]; exact a1)
  obtain ⟨muE,hE⟩ : ∃ m,putS mu2 n1 [I r.dos[i].frm,I r.dos[i].normal,I r.dos[i].commit,I r.dos[i].log.base,r.dos[i].log.snap.sv,.osl idl 0 r.dos[i].log.ents.length (r.dos[i].log.ents.length + 1) 5] = m:=⟨_,rfl⟩
  have gC : Gr n1 fz mu1 muE n1 n2:=by rw [← hE]; exact (gA.trans (g2.weaken (by omega))).put (Nat.le_refl _) d1
  have e1 : Ev.look muE n1 = some [I r.dos[i].frm,I r.dos[i].normal,I r.dos[i].commit,I r.dos[i].log.base,r.dos[i].log.snap.sv,.osl idl 0 r.dos[i].log.ents.length (r.dos[i].log.ents.length + 1) 5]:=by rw [← hE,Qdm,if_pos rfl,d1]; rfl
  have e2 : Ev.look muE n = some [I r.me,I r.nodes,I r.view,I r.normal,I r.status,I r.commit,.bool r.sent,I r.log.base,r.log.snap.sv,.osl ide 0 r.log.ents.length (r.log.ents.length + 1) 5,.osl ida 0 r.acks.length (r.acks.length + 2) 1,.osl ids 0 r.starts.length (r.starts.length + 2) 1,xq]:=by rw [← hE,Qdm,if_neg (by omega)]; exact d2
  have e3:=Qdl (fz:=fz) e1
  have e4:=Qdl (fz:=fz) e2
  have hl2 : LentE (n1 + 1) (with' muE fz) idl r.dos[i].log.ents:=hl.up λj B hj g=>by rw [← hE,Qds d1,if_neg (by omega)]; exact g
  simp only [↓E1,E2,zA,zB,zC,zD,zE,zF,zG,zH,zI,zJ,zK,zL,zM,zN,reduceIte,zO,zP, *,Option.isSome_some,Option.map_some,List.append_assoc]
  have hli : (r.dos.take i).length = i:=by rw [List.length_take]; omega
  refine Grow.more (R:=DvL) DvL.mono (a:=r.dos[i]) G g1.free a0 (λj hj=>hfr.fz j (by omega)) (gC.cons (by omega) _) ⟨idl,n1 + 1,rfl,?_⟩ ⟨rfl,rfl⟩ (by rw [hli]; have h9:=hz.dos; exact Qef (by omega) (by decide) (by decide)) (λmu3 g3 G3=>?_)
  ·exact hl2.up λj B hj g=>From.at (by omega) (by rw [Qed,if_neg (by have:=gC.free.lt g; omega)]; exact g)
  ·rw [hli] at G3 ⊢
   have f1:=(g3.own n (by omega)).trans a1
   have f2:=(g3.own (n + 1) (by omega)).trans a2
   have f3:=Qdl (fz:=fz) f1
   simp only [↓E1,E2,zA,zB,zC,zD,zE,zF,zG,zH,zI,zJ,zK,zL,zM,zN,reduceIte,zO,zP, *,Qel,Qdm,Option.isSome_some,Option.map_some,List.append_assoc]
   refine hy rfl _ _ _ ⟨.osl (n2 + 1) 0 (i + 1) (i + 1) 6,(g1.trans (g3.weaken (by omega))).put (Nat.le_refl _) f1,by omega,by rw [Qdm,if_pos rfl,f1]; rfl,by rw [Qdm,if_neg (by omega),f2],λj hj hn=>?_,?_,by simp [updN,updE, *],by simp [updN,updE, *],by simp [updN,updE, *],by simp [updN,updE, *]⟩
   ·rw [Qds f1,if_neg (λh=>hn h.symm),g3.ext j hj]; exact a3 j hj hn
   ·rw [List.take_add_one,List.getElem?_eq_getElem hi]
    exact Grow.mono (R:=DvL) DvL.mono G3 (From.put (by omega) f1)
 ·rintro e mu1 n1 K ⟨xq,g1,a0,a1,a2,a3,G,h1,h2,h3,h4⟩ hx
  rw [dc_at l_Qa8_0.eq_1]
  have hlt : (r.dos.length < r.dos.length) = False:=by simp
  simp only [↓E1,E2,zA,zB,zC,zD,zE,zF,zG,zH,zI,zJ,zK,zL,zM,zN,reduceIte,zO,zP, *]
  exact hx _ _ _ ⟨xq,g1,a0,a1,a2,a3,G,by simp [updN,updE,h1],by simp [updN,updE,h2],by simp [updN,updE,h3],by simp [updN,updE,h4]⟩
 ·refine ⟨.nsl,gg,Nat.le_refl _,c7,c8,λ_ _ _=>rfl,Grow.nil,by simp [updN,updE],by simp [updN,updE],by simp [updN,updE],by simp [updN,updE]⟩
 ·rintro - e1 mu1 n1 ⟨xq,g1,a0,a1,a2,a3,G,h1,h2,h3,h4⟩
  rw [List.take_length] at G
  obtain ⟨-,-,zk,zm⟩:=G.len
  have b1:=Qdl (fz:=fz) a1
  have b2:=Qdl (fz:=fz) a2
  simp only [↓E1,E2,zA,zB,zC,zD,zE,zF,zG,zH,zI,zJ,zK,zL,zM,zN,reduceIte,zO,zP, *,Qel,Qdm,Option.isSome_some,Option.map_some,List.append_assoc]
  refine hk _ _ _ (g1.put (id:=n + 1) (by omega) a2) ⟨ide,ida,ids,xq,rfl,⟨⟨n + 1 + 1,hGD.up λj B hj g=>?_⟩,?_,?_,n3,Grow.mono (R:=DvL) DvL.mono G (From.put (by omega) a2)⟩⟩
  ·rw [Qds a2,if_neg (by omega),a3 j (gg.free.lt g) (by omega)]; exact g
  ·unfold LentI; rw [Qds a2,if_neg (by omega),a3 ida (gg.free.lt hGa4) (by omega)]; exact hGa4
  ·unfold LentI; rw [Qds a2,if_neg (by omega),a3 ids (gg.free.lt hGs4) (by omega)]; exact hGs4
 ·rintro ⟨_,_,_,h⟩; cases h
end Go.Proofs.YtnnjlnkoomeadaaGreat.Pv
namespace Go.Proofs.YtnnjlnkoomeadaaGreat.Pv
open Go.Ev Go.Ev.Rp
set_option maxRecDepth 100000
set_option maxHeartbeats 4000000
theorem Qq1 {B c : List SV} {a s j m : Nat} (h : (B.drop a).take s = c) (hm : j + m ≤ s) : (B.drop (a + j)).take m = (c.drop j).take m:=by
 subst h
 rw [← List.drop_drop,List.drop_take,List.take_take,Nat.min_eq_left (by omega)]
theorem LentD.elem {lo : Nat} {M : Fz} {x : SV} {l : List Dv} (h : Grow lo M 6 DvL x l) {i : Nat} (hi : i < l.length) : ∃ id off cap B idl lo',x = .osl id off l.length cap 6 ∧ M id = some B ∧ mkd B = false ∧ off + i * 6 + 6 ≤ B.length ∧ (B.drop (off + i * 6)).take 6 = dvC l[i] (.osl idl 0 l[i].log.ents.length (l[i].log.ents.length + 1) 5) ∧ LentE lo' M idl l[i].log.ents:=by
 obtain ⟨cs,h1,h2⟩:=h
 have hl : cs.length = l.length:=h2.length
 obtain ⟨id',off,cap,B,g1,g2,g3,g4,g5⟩:=h1.to.elem (i:=i) (by omega)
 obtain ⟨idl,lo',e1,e2⟩:=h2.at (i:=i) (by omega) hi
 rw [hl] at g1
 exact ⟨id',off,cap,B,idl,lo',g1,From.sub _ _ g2,g3,g4,g5.trans e1,e2.mono (Ex.sub.trans From.sub)⟩
variable {P : Program} (H : Fs P)
include H
theorem law0_KeptLog (l : Lg) (id lo : Nat) (y : SV) (hz : LndLg l) : BoolC P n_Qcp [.ag (lgC l (.osl id 0 l.ents.length (l.ents.length + 1) 5)),.ag (lgC l y)] (λM=>LentE lo M id l.ents ∧ EntsR M y l.ents) true:=boolC H.mx H.Qcp 0 λfz mu n k hfr g0 hx h=>by
 obtain ⟨hx,hy⟩:=hx
 obtain ⟨yl,ys,yk,ym⟩:=hy.len
 obtain ⟨s1,s2⟩:=hz
 have hse : strEq l.snap.l l.snap.n l.snap.l l.snap.n = true:=(Qgh ..).2 ⟨rfl,rfl⟩
 have gA : Gr n fz mu ((n + 1,lgC l y) :: (n,lgC l (.osl id 0 l.ents.length (l.ents.length + 1) 5)) :: mu) n (n + 1 + 1):=gr2 hfr
 rw [i_Qcp,dc_at b_Qcp.eq_1]
 unfold lgC at *
 simp only [↓E1,E2,zA,zB,zC,zD,zE,zF,zG,zH,zI,zJ,zK,zL,zM,zN,reduceIte,zO,zP, *]
 refine (law0_KeptEntries H id lo y l.ents (by omega) (λe he=>by have:=s2 e he; omega)).c1 gA.free ⟨hx.mono (gA.sub hfr (Nat.le_refl _)),EntsR.mono (λ_ _ hh=>gA.old hfr hh) hy⟩ ?_
 rintro v mu2 n2 g2 rfl
 simp only [↓E1,E2,zA,zB,zC,zD,zE,zF,zG,zH,zI,zJ,zK,zL,zM,zN,reduceIte,zO,zP, *]
 exact h _ _ (gA.trans (g2.weaken (by omega)))
theorem law0_KeptReplica (r : Rep) (ide ida ids : Nat) (xd' xe xa xs xd : SV) (hz : LndSz r) : BoolC P n_Qba [.ag (repC r (.osl ide 0 r.log.ents.length (r.log.ents.length + 1) 5) (.osl ida 0 r.acks.length (r.acks.length + 2) 1) (.osl ids 0 r.starts.length (r.starts.length + 2) 1) xd'),.ag (repC r xe xa xs xd)] (λM=>LentR M r ide ida ids xd' ∧ RepS M r xe xa xs xd) true:=boolC H.mx H.Qba (r.dos.length + 1) λfz mu n k hfr g0 hx h=>by
 obtain ⟨⟨⟨lo,t1⟩,t2,t3,lo',t4⟩,s1,s2,s3,s4⟩:=hx
 obtain ⟨xel,xes,xek,xem⟩:=s1.len
 obtain ⟨xal,xas,xak,xam⟩:=s2.len
 obtain ⟨xsl,xss,xsk,xsm⟩:=s3.len
 obtain ⟨xdl,xds,xdk,xdm⟩:=s4.len
 obtain ⟨zdl,zds,zdk,zdm⟩:=t4.len
 obtain ⟨z1,z2,z3,z4,z5⟩:=hz
 have hE:=law0_KeptLog H r.log ide lo xe z1
 unfold lgC at hE
 rw [i_Qba,dc_at b_Qba.eq_1]
 have gA : Gr n fz mu ((n + 1,repC r xe xa xs xd) :: (n,repC r (.osl ide 0 r.log.ents.length (r.log.ents.length + 1) 5) (.osl ida 0 r.acks.length (r.acks.length + 2) 1) (.osl ids 0 r.starts.length (r.starts.length + 2) 1) xd') :: mu) n (n + 1 + 1):=gr2 hfr
 have u:=gA.sub hfr (Nat.le_refl _)
 unfold repC at *
 simp only [↓E1,E2,zA,zB,zC,zD,zE,zF,zG,zH,zI,zJ,zK,zL,zM,zN,reduceIte,zO,zP, *]
 refine hE.c1 gA.free ⟨t1.mono u,EntsR.mono u s1⟩ ?_
 rintro v mu1 n1 g1 rfl
 have b1:=(g1.own n (by omega)).trans (by rw [Qdw,if_neg (by omega),Qdw,if_pos rfl])
 have b2:=(g1.own (n + 1) (by omega)).trans (by rw [Qdw,if_pos rfl])
 have w1:=Qdl (fz:=fz) b1
 have w2:=Qdl (fz:=fz) b2
 have gB:=gA.trans (g1.weaken (by omega))
 have u:=gB.sub hfr (Nat.le_refl _)
 simp only [↓E1,E2,zA,zB,zC,zD,zE,zF,zG,zH,zI,zJ,zK,zL,zM,zN,reduceIte,zO,zP, *]
 refine (law0_KeptInts H ida xa r.acks (by omega)).c1 gB.free ⟨u _ _ t2,IntsR.mono u s2⟩ ?_
 rintro v mu2 n2 g2 rfl
 have l1:=g1.le
 replace b1:=(g2.own n (by omega)).trans b1
 replace b2:=(g2.own (n + 1) (by omega)).trans b2
 replace w1:=Qdl (fz:=fz) b1
 replace w2:=Qdl (fz:=fz) b2
 replace gB:=gB.trans (g2.weaken (by omega))
 replace u:=gB.sub hfr (Nat.le_refl _)
 simp only [↓E1,E2,zA,zB,zC,zD,zE,zF,zG,zH,zI,zJ,zK,zL,zM,zN,reduceIte,zO,zP, *]
 refine (law0_KeptInts H ids xs r.starts (by omega)).c1 gB.free ⟨u _ _ t3,IntsR.mono u s3⟩ ?_
 rintro v mu3 n3 g3 rfl
 have l2:=g2.le
 replace b1:=(g3.own n (by omega)).trans b1
 replace b2:=(g3.own (n + 1) (by omega)).trans b2
 replace w1:=Qdl (fz:=fz) b1
 replace w2:=Qdl (fz:=fz) b2
 replace gB:=gB.trans (g3.weaken (by omega))
 have l3:=g3.le
 simp only [↓E1,E2,zA,zB,zC,zD,zE,zF,zG,zH,zI,zJ,zK,zL,zM,zN,reduceIte,zO,zP, *]
 refine scan (x:=0) (L:=r.dos.length) (q:=0) (r:=5) (p:=λ_=>true) (λe mu' n'=>Gr n fz mu mu' n n' ∧ n + 1 + 1 ≤ n' ∧ Ev.look mu' n = some [I r.me,I r.nodes,I r.view,I r.normal,I r.status,I r.commit,.bool r.sent,I r.log.base,r.log.snap.sv,.osl ide 0 r.log.ents.length (r.log.ents.length + 1) 5,.osl ida 0 r.acks.length (r.acks.length + 2) 1,.osl ids 0 r.starts.length (r.starts.length + 2) 1,xd'] ∧ Ev.look mu' (n + 1) = some [I r.me,I r.nodes,I r.view,I r.normal,I r.status,I r.commit,.bool r.sent,I r.log.base,r.log.snap.sv,xe,xa,xs,xd] ∧ e 0 2 = .one (.optr n 0) ∧ e 0 3 = .one (.optr (n + 1) 0)) (λe=>True) (λ_ _ _ h=>h.1.free) ?_ ?_ r.dos.length 0 (r.dos.length + 1) _ _ _ _ _ (by omega) (by omega) (by omega) ⟨gB,by omega,b1,b2,?_,?_⟩ ?_ ?_ ?_
 ·rintro i e mu4 n4 K hi ⟨g4,a0,a1,a2,e2,e3⟩ hc hY hn
  have u4:=g4.sub hfr (Nat.le_refl _)
  have hw:=Qdt hi (by omega)
  obtain ⟨id,off,cap,B,idl,lo2,rfl,p1,p2,p3,p4,p5⟩:=LentD.elem (Grow.mono (R:=DvL) DvL.mono t4 (From.mono u4)) hi
  obtain ⟨id2,off2,cap2,B3,b,rfl,q1,q2,q3,q4,q5⟩:=(DvsR.mono u4 s4).elem hi
  obtain ⟨yl,ys,yk,ym⟩:=q5.len
  have w1:=Qdl (fz:=fz) a1
  have w2:=Qdl (fz:=fz) a2
  have hL:=law0_KeptLog H r.dos[i].log idl lo2 b (z5 _ (List.getElem_mem hi))
  unfold lgC at hL
  unfold dvC at p4 q4
  have p6 : off + i * 6 + 0 + 1 ≤ B.length:=by omega
  have q6 : off2 + i * 6 + 0 + 1 ≤ B3.length:=by omega
  have p7 : off + i * 6 + 3 + 3 ≤ B.length:=by omega
  have q7 : off2 + i * 6 + 3 + 3 ≤ B3.length:=by omega
  have p8:=Qq1 (j:=0) (m:=1) p4 (by omega)
  have q8:=Qq1 (j:=0) (m:=1) q4 (by omega)
  have p9:=Qq1 (j:=3) (m:=3) p4 (by omega)
  have q9:=Qq1 (j:=3) (m:=3) q4 (by omega)
  simp only [List.drop_zero,List.drop_succ_cons,List.take_succ_cons,List.take_zero] at p8 q8 p9 q9
  rw [dc_at l_Qba_0.eq_1]
  simp only [↓E1,E2,zA,zB,zC,zD,zE,zF,zG,zH,zI,zJ,zK,zL,zM,zN,reduceIte,zO,zP, *]
  refine hL.d2 g4.free ⟨p5,q5⟩ ?_
  rintro v new n5 g5 rfl
  have b1:=(g5.own n (by omega)).trans a1
  have b2:=(g5.own (n + 1) (by omega)).trans a2
  have l5:=g5.le
  simp only [↓E1,E2,zA,zB,zC,zD,zE,zF,zG,zH,zI,zJ,zK,zL,zM,zN,reduceIte,zO,zP, *]
  exact hY rfl _ _ _ g5 ⟨g4.trans (g5.weaken (by omega)),by omega,b1,b2,by simp [updN,updE, *],by simp [updN,updE, *]⟩ (by simp [updN,updE, *])
 ·rintro e mu4 n4 K ⟨g4,a0,a1,a2,e2,e3⟩ hc hY
  rw [dc_at l_Qba_0.eq_1]
  have hlt : (r.dos.length < r.dos.length) = False:=by simp
  have w1:=Qdl (fz:=fz) a1
  have w2:=Qdl (fz:=fz) a2
  simp only [↓E1,E2,zA,zB,zC,zD,zE,zF,zG,zH,zI,zJ,zK,zL,zM,zN,reduceIte,zO,zP, *]
  exact hY _ _ _ (Gr.refl g4.free) ⟨g4,a0,a1,a2,by simp [updN,updE,e2],by simp [updN,updE,e3]⟩
 ·simp [updN,updE,envI]
 ·simp [updN,updE,envI]
 ·simp [updN,updE]
 ·rintro ha e' mu' n' g ⟨g4,a0,a1,a2,e2,e3⟩
  have w1:=Qdl (fz:=fz) a1
  have w2:=Qdl (fz:=fz) a2
  simp only [↓E1,E2,zA,zB,zC,zD,zE,zF,zG,zH,zI,zJ,zK,zL,zM,zN,reduceIte,zO,zP, *]
  try exact h _ _ g4
 ·rintro ⟨j,j1,j2,j3⟩
  cases j3
end Go.Proofs.YtnnjlnkoomeadaaGreat.Pv
namespace Go.Proofs.YtnnjlnkoomeadaaGreat.Pv
open Go.Ev Go.Ev.Rp
set_option maxRecDepth 100000
set_option maxHeartbeats 4000000
variable {P : Program} (H : Fs P)
include H
theorem ref1_SamePoints (x y : SV) (l : List Pt) (hl : l.length ≤ 4611686018427387904) : BoolC P n_Qbr [.one x,.one y] (λM=>PtsR M x l ∧ PtsR M y l) true:=boolC H.mx H.Qbr (l.length + 1) λfz mu n k hfr g0 hx h=>by
 obtain ⟨hx,hy⟩:=hx
 obtain ⟨xl,xs,xk,xm⟩:=hx.len
 obtain ⟨yl,ys,yk,ym⟩:=hy.len
 rw [i_Qbr,dc_at b_Qbr.eq_1]
 simp only [↓E1,E2,zA,zB,zC,zD,zE,zF,zG,zH,zI,zJ,zK,zL,zM,zN,reduceIte,zO,zP,xl,xs,yl,ys]
 refine scan (x:=0) (L:=l.length) (q:=0) (r:=5) (p:=λi=>true) (λe mu n=>Free fz mu n ∧ PtsR (with' mu fz) x l ∧ PtsR (with' mu fz) y l ∧ e 0 0 = .one x ∧ e 0 1 = .one y) (λe=>True) (λ_ _ _ h=>h.1) ?_ ?_ l.length 0 (l.length + 1) _ mu n _ _ (by omega) (by omega) (by omega) ⟨hfr,hx,hy,?_,?_⟩ ?_ ?_ ?_
 ·rintro i e mu n K hi ⟨hf,hx,hy,h0,h1⟩ hc hY hn
  have hx':=hx
  have hy':=hy
  obtain ⟨id,off,cap,B,rfl,hB,hmk,hbd,hsub⟩:=hx.elem hi
  obtain ⟨id2,off2,cap2,B2,rfl,hB2,hmk2,hbd2,hsub2⟩:=hy.elem hi
  rw [dc_at l_Qbr_0.eq_1]
  have hw:=Qdt hi hl
  simp only [↓E1,E2,zA,zB,zC,zD,zE,zF,zG,zH,zI,zJ,zK,zL,zM,zN,reduceIte,zO,zP,h0,h1,hc,hi,hB,hmk,hbd,hsub,hB2,hmk2,hbd2,hsub2,hw,eq_pt]
  exact hY rfl _ _ _ (Gr.refl hf) ⟨hf,hx',hy',by simp [updN,updE,h0],by simp [updN,updE,h1]⟩ (by simp [updN,updE])
 ·rintro e mu n K ⟨hf,hx,hy,h0,h1⟩ hc hY
  rw [dc_at l_Qbr_0.eq_1]
  have hlt : (l.length < l.length) = False:=by simp
  simp only [↓E1,E2,zA,zB,zC,zD,zE,zF,zG,zH,zI,zJ,zK,zL,zM,zN,reduceIte,zO,zP,h0,h1,hc,hlt,xl,xs]
  exact hY _ _ _ (Gr.refl hf) ⟨hf,hx,hy,by simp [updN,updE,h0],by simp [updN,updE,h1]⟩
 ·simp [updN,updE,envI]
 ·simp [updN,updE,envI]
 ·simp [updN,updE]
 ·intro ha e' mu' n' g hI
  simp only [↓E1,E2,zA,zB,zC,zD,zE,zF,zG,zH,zI,zJ,zK,zL,zM,zN,reduceIte,zO,zP]
  exact h _ _ g
 ·rintro ⟨j,j1,j2,j3⟩
  cases j3
theorem ref4_SameEntry (e : Ent) (x y : SV) (hb : e.batch.length ≤ 4398046511104) : BoolC P n_Qb1 [.ag (entC e x),.ag (entC e y)] (λM=>PtsR M x e.batch ∧ PtsR M y e.batch) true:=boolC H.mx H.Qb1 0 λfz mu n k hfr g0 hx h=>by
 obtain ⟨hx,hy⟩:=hx
 obtain ⟨xl,xs,xk,xm⟩:=hx.len
 obtain ⟨yl,ys,yk,ym⟩:=hy.len
 have gA : Gr n fz mu ((n + 1,entC e y) :: (n,entC e x) :: mu) n (n + 1 + 1):=gr2 hfr
 have u:=gA.sub hfr (Nat.le_refl _)
 rw [i_Qb1,dc_at b_Qb1.eq_1]
 unfold entC at *
 simp only [↓E1,E2,zA,zB,zC,zD,zE,zF,zG,zH,zI,zJ,zK,zL,zM,zN,reduceIte,zO,zP, *]
 refine (ref1_SamePoints H x y e.batch (by omega)).c1 gA.free ⟨PtsR.mono u hx,PtsR.mono u hy⟩ ?_
 rintro v mu2 n2 g2 rfl
 simp only [↓E1,E2,zA,zB,zC,zD,zE,zF,zG,zH,zI,zJ,zK,zL,zM,zN,reduceIte,zO,zP, *]
 exact h _ _ (gA.trans (g2.weaken (by omega)))
theorem ref4_SameLog (l : Lg) (x y : SV) (hz : LgSz l) : BoolC P n_Qco [.ag (lgC l x),.ag (lgC l y)] (λM=>EntsR M x l.ents ∧ EntsR M y l.ents) true:=boolC H.mx H.Qco (l.ents.length + 1) λfz mu n k hfr g0 hx h=>by
 obtain ⟨s1,s2⟩:=hx
 obtain ⟨z1,z2⟩:=hz
 obtain ⟨xl,xs,xk,xm⟩:=s1.len
 obtain ⟨yl,ys,yk,ym⟩:=s2.len
 have hse : strEq l.snap.l l.snap.n l.snap.l l.snap.n = true:=(Qgh ..).2 ⟨rfl,rfl⟩
 have gB : Gr n fz mu ((n + 1,lgC l y) :: (n,lgC l x) :: mu) n (n + 1 + 1):=gr2 hfr
 have b1 : Ev.look ((n + 1,lgC l y) :: (n,lgC l x) :: mu) n = some (lgC l x):=by rw [Qdw,if_neg (by omega),Qdw,if_pos rfl]
 have b2 : Ev.look ((n + 1,lgC l y) :: (n,lgC l x) :: mu) (n + 1) = some (lgC l y):=by rw [Qdw,if_pos rfl]
 rw [i_Qco,dc_at b_Qco.eq_1]
 unfold lgC at *
 simp only [↓E1,E2,zA,zB,zC,zD,zE,zF,zG,zH,zI,zJ,zK,zL,zM,zN,reduceIte,zO,zP, *]
 refine scan (x:=0) (L:=l.ents.length) (q:=0) (r:=5) (p:=λ_=>true) (λe mu' n'=>Gr n fz mu mu' n n' ∧ n + 1 + 1 ≤ n' ∧ Ev.look mu' n = some [I l.base,l.snap.sv,x] ∧ Ev.look mu' (n + 1) = some [I l.base,l.snap.sv,y] ∧ e 0 2 = .one (.optr n 0) ∧ e 0 3 = .one (.optr (n + 1) 0)) (λe=>True) (λ_ _ _ h=>h.1.free) ?_ ?_ l.ents.length 0 (l.ents.length + 1) _ _ _ _ _ (by omega) (by omega) (by omega) ⟨gB,by omega,b1,b2,?_,?_⟩ ?_ ?_ ?_
 ·rintro i e mu4 n4 K hi ⟨g4,a0,a1,a2,e2,e3⟩ hc hY hn
  have u4:=g4.sub hfr (Nat.le_refl _)
  have hw:=Qdt hi (by omega)
  obtain ⟨id,off,cap,B,a,rfl,p1,p2,p3,p4,p5⟩:=(EntsR.mono u4 s1).elem hi
  obtain ⟨id2,off2,cap2,B3,b,rfl,q1,q2,q3,q4,q5⟩:=(EntsR.mono u4 s2).elem hi
  have w1:=Qdl (fz:=fz) a1
  have w2:=Qdl (fz:=fz) a2
  have hL:=ref4_SameEntry H l.ents[i] a b (z2 _ (List.getElem_mem hi))
  unfold entC at p4 q4 hL
  rw [dc_at l_Qco_0.eq_1]
  simp only [↓E1,E2,zA,zB,zC,zD,zE,zF,zG,zH,zI,zJ,zK,zL,zM,zN,reduceIte,zO,zP, *]
  refine hL.d2 g4.free ⟨p5,q5⟩ ?_
  rintro v new n5 g5 rfl
  have b1:=(g5.own n (by omega)).trans a1
  have b2:=(g5.own (n + 1) (by omega)).trans a2
  have l5:=g5.le
  simp only [↓E1,E2,zA,zB,zC,zD,zE,zF,zG,zH,zI,zJ,zK,zL,zM,zN,reduceIte,zO,zP, *]
  exact hY rfl _ _ _ g5 ⟨g4.trans (g5.weaken (by omega)),by omega,b1,b2,by simp [updN,updE, *],by simp [updN,updE, *]⟩ (by simp [updN,updE, *])
 ·rintro e mu4 n4 K ⟨g4,a0,a1,a2,e2,e3⟩ hc hY
  rw [dc_at l_Qco_0.eq_1]
  have hlt : (l.ents.length < l.ents.length) = False:=by simp
  have w1:=Qdl (fz:=fz) a1
  have w2:=Qdl (fz:=fz) a2
  simp only [↓E1,E2,zA,zB,zC,zD,zE,zF,zG,zH,zI,zJ,zK,zL,zM,zN,reduceIte,zO,zP, *]
  exact hY _ _ _ (Gr.refl g4.free) ⟨g4,a0,a1,a2,by simp [updN,updE,e2],by simp [updN,updE,e3]⟩
 ·simp [updN,updE,envI]
 ·simp [updN,updE,envI]
 ·simp [updN,updE]
 ·rintro ha e' mu' n' g ⟨g4,a0,a1,a2,e2,e3⟩
  simp only [↓E1,E2,zA,zB,zC,zD,zE,zF,zG,zH,zI,zJ,zK,zL,zM,zN,reduceIte,zO,zP, *]
  try exact h _ _ g4
 ·rintro ⟨j,j1,j2,j3⟩
  cases j3
theorem ref4_Same (m : Msg) (xb xe yb ye : SV) (hb : m.batch.length ≤ 4398046511104) (hz : LgSz m.log) : BoolC P n_Qdg [.ag (msgC m xb xe),.ag (msgC m yb ye)] (λM=>PtsR M xb m.batch ∧ EntsR M xe m.log.ents ∧ PtsR M yb m.batch ∧ EntsR M ye m.log.ents) true:=boolC H.mx H.Qdg 0 λfz mu n k hfr g0 hx h=>by
 obtain ⟨t1,t2,t3,t4⟩:=hx
 obtain ⟨xl,xs,xk,xm⟩:=t1.len
 obtain ⟨yl,ys,yk,ym⟩:=t2.len
 obtain ⟨zl,zs,zk,zm⟩:=t3.len
 obtain ⟨vl,vs,vk,vm⟩:=t4.len
 have hse : ∀ t : Tx,strEq t.l t.n t.l t.n = true:=λt=>(Qgh ..).2 ⟨rfl,rfl⟩
 have gA : Gr n fz mu ((n + 1,msgC m yb ye) :: (n,msgC m xb xe) :: mu) n (n + 1 + 1):=gr2 hfr
 have u:=gA.sub hfr (Nat.le_refl _)
 have hL:=ref4_SameLog H m.log xe ye hz
 rw [i_Qdg,dc_at b_Qdg.eq_1]
 unfold msgC at *
 unfold lgC at hL
 simp only [↓E1,E2,zA,zB,zC,zD,zE,zF,zG,zH,zI,zJ,zK,zL,zM,zN,reduceIte,zO,zP, *]
 refine (ref1_SamePoints H xb yb m.batch (by omega)).c1 gA.free ⟨PtsR.mono u t1,PtsR.mono u t3⟩ ?_
 rintro v mu2 n2 g2 rfl
 have b1:=(g2.own n (by omega)).trans (by rw [Qdw,if_neg (by omega),Qdw,if_pos rfl])
 have b2:=(g2.own (n + 1) (by omega)).trans (by rw [Qdw,if_pos rfl])
 have w1:=Qdl (fz:=fz) b1
 have w2:=Qdl (fz:=fz) b2
 have gB:=gA.trans (g2.weaken (by omega))
 have u:=gB.sub hfr (Nat.le_refl _)
 simp only [↓E1,E2,zA,zB,zC,zD,zE,zF,zG,zH,zI,zJ,zK,zL,zM,zN,reduceIte,zO,zP, *]
 refine hL.c1 gB.free ⟨EntsR.mono u t2,EntsR.mono u t4⟩ ?_
 rintro v mu3 n3 g3 rfl
 have l2:=g2.le
 replace b1:=(g3.own n (by omega)).trans b1
 replace b2:=(g3.own (n + 1) (by omega)).trans b2
 replace w1:=Qdl (fz:=fz) b1
 replace w2:=Qdl (fz:=fz) b2
 replace gB:=gB.trans (g3.weaken (by omega))
 simp only [↓E1,E2,zA,zB,zC,zD,zE,zF,zG,zH,zI,zJ,zK,zL,zM,zN,reduceIte,zO,zP, *]
 try exact h _ _ gB
end Go.Proofs.YtnnjlnkoomeadaaGreat.Pv
namespace Go.Proofs.YtnnjlnkoomeadaaGreat.Pv
open Go.Ev Go.Ev.Rp
set_option maxRecDepth 100000
set_option maxHeartbeats 4000000
theorem LentE.rs {lo : Nat} {M : Fz} {id : Nat} {l : List Ent} (h : LentE lo M id l) : EntsR M (.osl id 0 l.length (l.length + 1) 5) l:=by
 obtain ⟨cs,h1,h2⟩:=h
 have hl : cs.length = l.length + 1:=by simpa using h2.length
 rcases h1 with ⟨h | h,_⟩ | ⟨id',e,h3,h4,h5⟩
 ·cases h
 ·cases h
 ·injection e with e1 e2 e3 e4 e5
  subst e1
  have htl : (cs.take l.length).length = l.length:=by simp; omega
  have hu : ∀ e ∈ cs.take l.length,e.length = 5 ∧ Qdo e = true:=λe he=>h5 e (List.mem_of_mem_take he)
  have hfl:=Qen (s:=5) (es:=cs.take l.length) λe he=>(hu e he).1
  have hsplit : cs.flatten = (cs.take l.length).flatten ++ (cs.drop l.length).flatten:=by rw [← List.flatten_append,List.take_append_drop]
  rw [htl] at hfl
  have hs : Sl M 5 (.osl id 0 (cs.take l.length).length (l.length + 1) 5) (cs.take l.length):=by
   refine .inr ⟨id,0,l.length + 1,cs.flatten,rfl,by omega,From.sub _ _ h3,h4,?_,?_,hu⟩
   ·rw [Qen λe he=>(h5 e he).1,htl,hl]; omega
   ·rw [List.drop_zero,hsplit,htl,List.take_left' hfl]
  rw [htl] at hs
  refine ⟨cs.take l.length,hs,All2.Qjc (by omega) λi a b ha hb=>?_⟩
  obtain ⟨hi,rfl⟩:=List.getElem?_eq_some_iff.1 ha
  obtain ⟨hi2,rfl⟩:=List.getElem?_eq_some_iff.1 hb
  have h3:=h2.at (i:=i) (by omega) (by simp; omega)
  rw [List.getElem_append_left (by simpa using hi2),List.getElem_map] at h3
  obtain ⟨idp,h6,h7⟩:=h3
  rw [List.getElem_take]
  exact ⟨_,h6,PtsR.mono (Ex.sub.trans From.sub) (LentP.sl h7)⟩
theorem LentR.rs {M : Fz} {r : Rep} {ide ida ids : Nat} {xd : SV} (h : LentR M r ide ida ids xd) : RepS M r (.osl ide 0 r.log.ents.length (r.log.ents.length + 1) 5) (.osl ida 0 r.acks.length (r.acks.length + 2) 1) (.osl ids 0 r.starts.length (r.starts.length + 2) 1) xd:=by
 obtain ⟨⟨lo,h1⟩,h2,h3,lo',cs,h4,h5⟩:=h
 refine ⟨h1.rs,h2.sl,h3.sl,cs,Sl.mono h4.to From.sub,h5.imp λc d g=>?_⟩
 obtain ⟨id,lo2,e1,e2⟩:=g
 exact ⟨_,e1,EntsR.mono (Ex.sub.trans From.sub) e2.rs⟩
variable {P : Program} (H : Fs P)
include H
end Go.Proofs.YtnnjlnkoomeadaaGreat.Pv
namespace Go.Proofs.YtnnjlnkoomeadaaGreat.Pv
open Go.Ev Go.Ev.Rp
set_option maxRecDepth 100000
set_option maxHeartbeats 4000000
def txA : Tx:=⟨1,97,by decide⟩
def mA : Msg:=⟨2,100,0,0,0,0,0,0,0,0,0,0,0,0,txA,[],⟨0,tx0,[]⟩,tx0⟩
theorem nilE (M : Fz) : EntsR M .nsl []:=⟨[],.inl ⟨.inl rfl,rfl⟩,trivial⟩
theorem nilP (M : Fz) : PtsR M .nsl []:=.inl ⟨.inl rfl,rfl⟩
variable {P : Program} (H : Fs P)
include H
end Go.Proofs.YtnnjlnkoomeadaaGreat.Pv
namespace Go.Ev
theorem CallS.forget {P : Program} {f : Nat} {args : List AV} {fz : Fz} {mu : St} {n : Nat} {v : AV} {mu' : St} {n' : Nat} (h : CallS P f args fz mu n v mu' n') {mu2 : St} (hs : ∀ id c,look mu2 id = some c → look mu' id = some c) : CallS P f args fz mu n v mu2 n':=by
 obtain ⟨h1,h2,h3⟩:=h
 have hi : ∀ id,(look mu2 id).isSome = true → (look mu' id).isSome = true:=λid hid=>by
  obtain ⟨c,hc⟩:=Option.isSome_iff_exists.1 hid
  rw [hs id c hc]; rfl
 refine ⟨h1,h2,λρ w xs hr hx hf=>(h3 ρ w xs hr hx hf).mono λe w' ⟨x,he,ρ',p1,p2,p3,p4,p5,p6⟩=>⟨x,he,ρ',p1,⟨p2.rf,λid cs h=>p2.rm id cs (hs id cs h),λid cs h=>p2.dm id cs (hs id cs h),λid id' p p' a b=>p2.dj id id' p p' (hi id a) (b.imp (hi id') λz=>z)⟩,p3,p4,λid p hl hp=>p5 id p (hi id hl) hp,λid hid=>p6 id (hi id hid)⟩⟩
section
variable {P : Program} {f : Nat} {args : List AV} {pre : Fz → Prop} {Q : AV → Prop} {fz : Fz} {mu : St} {n : Nat} {k : KT Prop}
theorem Ctr.q1 (h : Ctr P f args pre λ_ _ _ v=>Q v) {w : WK k} (hf : Free fz mu n) (hp : pre (with' mu fz)) (hk : ∀ v n',n ≤ n' → Q v → k v [] n') : CPr P f args (with' mu fz) [] n k w:=by
 obtain ⟨v,new,n',hQ,hc⟩:=h (with' mu fz) [] n (λv _ _=>Q v) (λj=>hf j) hp (λv _ _ _ hq=>hq)
 exact ⟨v,[],n',hk v n' hc.2.1 hQ,hc.forget λid c h=>by cases h⟩
theorem Ctr.q0 (h : Ctr P f args pre λ_ _ _ v=>Q v) {w : WK k} (hf : Free fz mu n) (hp : pre (with' mu fz)) (hk : ∀ v n',n ≤ n' → Q v → k v mu n') : CPr P f args fz mu n k w:=by
 obtain ⟨v,new,n',hQ,hc⟩:=h (with' mu fz) [] n (λv _ _=>Q v) (λj=>hf j) hp (λv _ _ _ hq=>hq)
 exact ⟨v,[],n',hk v n' hc.2.1 hQ,hc.forget λid c h=>by cases h⟩
end
theorem Free.le {fz : Fz} {mu : St} {n n' : Nat} (h : Free fz mu n) (hn : n ≤ n') : Free fz mu n':=λj=>by
 have:=h.none (show n ≤ n' + j by omega)
 exact this
theorem Gr.le2 {lo : Nat} {fz : Fz} {mu mu' : St} {n n' n2 : Nat} (h : Gr lo fz mu mu' n n') (hn : n' ≤ n2) : Gr lo fz mu mu' n n2:=⟨Nat.le_trans h.le hn,h.ext,h.own,h.free.le hn⟩
end Go.Ev
namespace Go.Proofs.YtnnjlnkoomeadaaGreat.Pv
open Go.Ev Go.Ev.Rp
set_option maxRecDepth 100000
set_option maxHeartbeats 4000000
def MsgX (M : Fz) (c : List SV) (m : Msg) : Prop:=∃ xb xe,c = msgC m xb xe ∧ PtsX M xb m.batch ∧ EntsX M xe m.log.ents
theorem MsgX.mono {M M' : Fz} {c : List SV} {m : Msg} (hm : Sub M M') (h : MsgX M c m) : MsgX M' c m:=let ⟨xb,xe,h1,h2,h3⟩:=h; ⟨xb,xe,h1,PtsX.mono hm h2,EntsX.mono hm h3⟩
def Tag28 (o : Nat → Nat) (M : Fz) : Fz:=λj=>if o j = 2 ∨ o j = 8 then M j else none
theorem Tag28.el {o : Nat → Nat} {j : Nat} {M : Fz} {B : List SV} (h : Tag28 o M j = some B) : (o j = 2 ∨ o j = 8) ∧ M j = some B:=by
 unfold Tag28 at h
 split at h
 ·rename_i e; exact ⟨e,h⟩
 ·cases h
theorem Tag28.at {o : Nat → Nat} {j : Nat} {M : Fz} {B : List SV} (h : o j = 2 ∨ o j = 8) (g : M j = some B) : Tag28 o M j = some B:=by unfold Tag28; rw [if_pos h]; exact g
theorem Tag28.keep {o o' : Nat → Nat} {M M' : Fz} (h2 : Sub (Tag o 2 M) (Tag o' 2 M')) (h8 : Sub (Tag o 8 M) (Tag o' 8 M')) : Sub (Tag28 o M) (Tag28 o' M'):=λj B h=>by
 obtain ⟨h3 | h3,h4⟩:=Tag28.el h
 ·obtain ⟨h5,h6⟩:=Tag.el (h2 j B (Tag.at h3 h4)); exact Tag28.at (.inl h5) h6
 ·obtain ⟨h5,h6⟩:=Tag.el (h8 j B (Tag.at h3 h4)); exact Tag28.at (.inr h5) h6
def OutT (o : Nat → Nat) (M : Fz) (xo : SV) (out : List Msg) : Prop:=∃ cs,SlX (Tag o 7 M) 20 xo cs ∧ All2 (MsgX (Tag28 o M)) cs out
theorem RepT.keep {o o' : Nat → Nat} {M M' : Fz} {r : Rep} {xe xa xs xd : SV} (h : ∀ t,1 ≤ t → t ≤ 6 → Sub (Tag o t M) (Tag o' t M')) (g : RepT o M r xe xa xs xd) : RepT o' M' r xe xa xs xd:=by
 obtain ⟨⟨cs,h1,h2⟩,h3,h4,ds,h5,h6⟩:=g
 exact ⟨⟨cs,h1.mono (h 1 (by omega) (by omega)),h2.imp λc a g=>EntX.mono (h 2 (by omega) (by omega)) g⟩,IntsX.mono (h 3 (by omega) (by omega)) h3,IntsX.mono (h 4 (by omega) (by omega)) h4,⟨ds,h5.mono (h 5 (by omega) (by omega)),h6.imp λc a g=>DvX.mono (h 6 (by omega) (by omega)) g⟩⟩
theorem OutT.keep {o o' : Nat → Nat} {M M' : Fz} {xo : SV} {out : List Msg} (h2 : Sub (Tag o 2 M) (Tag o' 2 M')) (h7 : Sub (Tag o 7 M) (Tag o' 7 M')) (h8 : Sub (Tag o 8 M) (Tag o' 8 M')) (g : OutT o M xo out) : OutT o' M' xo out:=by
 obtain ⟨cs,h1,h3⟩:=g
 exact ⟨cs,h1.mono h7,h3.imp λc a g=>MsgX.mono (Tag28.keep h2 h8) g⟩
structure SW (lo : Nat) (fz : Fz) (s : Nat) (o : Nat → Nat) (mu : St) (n : Nat) (r : Rep) (out : List Msg) (vd : Bool) (xe xa xs xd xo : SV) : Prop where
 cells : Ev.look mu s = some (stepC r xe xa xs xd xo vd)
 rt : RepT o (with' mu fz) r xe xa xs xd
 ot : OutT o (with' mu fz) xo out
 free : Free fz mu n
 los : lo ≤ s
 os : o s = 9
 zero : ∀ j,j < lo → o j = 0
 fzl : ∀ j,lo ≤ j → fz j = none
section
variable {lo : Nat} {fz : Fz} {s : Nat} {o : Nat → Nat} {mu : St} {n : Nat} {r : Rep} {out : List Msg} {vd : Bool} {xe xa xs xd xo : SV}
theorem SW.slt (h : SW lo fz s o mu n r out vd xe xa xs xd xo) : s < n:=h.free.lt (Qdl h.cells)
theorem SW.lon (h : SW lo fz s o mu n r out vd xe xa xs xd xo) : lo ≤ n:=Nat.le_of_lt (Nat.lt_of_le_of_lt h.los h.slt)
theorem SW.ge (h : SW lo fz s o mu n r out vd xe xa xs xd xo) {j : Nat} (hj : o j ≠ 0) : lo ≤ j:=by
 rcases Nat.lt_or_ge j lo with h1 | h1
 ·exact (hj (h.zero j h1)).elim
 ·exact h1
theorem SW.ks (h : SW lo fz s o mu n r out vd xe xa xs xd xo) : (xe.known = true ∧ xe.isMk = false) ∧ (xa.known = true ∧ xa.isMk = false) ∧ (xs.known = true ∧ xs.isMk = false) ∧ (xd.known = true ∧ xd.isMk = false) ∧ (xo.known = true ∧ xo.isMk = false):=by
 obtain ⟨⟨cs,h1,h2⟩,h3,h4,ds,h5,h6⟩:=h.rt
 obtain ⟨es,h7,h8⟩:=h.ot
 exact ⟨(SlX.len h1).2.2,(SlX.len h3).2.2,(SlX.len h4).2.2,(SlX.len h5).2.2,(SlX.len h7).2.2⟩
theorem SW.rs (h : SW lo fz s o mu n r out vd xe xa xs xd xo) : RepS (with' mu fz) r xe xa xs xd:=by
 obtain ⟨⟨cs,h1,h2⟩,h3,h4,ds,h5,h6⟩:=h.rt
 exact ⟨⟨cs,(h1.mono Tag.sub).to,h2.imp λc a g=>(EntX.mono Tag.sub g).to⟩,IntsX.to (IntsX.mono Tag.sub h3),IntsX.to (IntsX.mono Tag.sub h4),⟨ds,(h5.mono Tag.sub).to,h6.imp λc a g=>(DvX.mono Tag.sub g).to⟩⟩
theorem SW.gr (h : SW lo fz s o mu n r out vd xe xa xs xd xo) {mu' : St} {n' : Nat} (g : Gr n fz mu mu' n n') : SW lo fz s o mu' n' r out vd xe xa xs xd xo:=by
 have u : ∀ t,Sub (Tag o t (with' mu fz)) (Tag o t (with' mu' fz)):=λt=>Tag.mono (g.sub h.free (Nat.le_refl _))
 exact ⟨(g.own s h.slt).trans h.cells,h.rt.keep λt _ _=>u t,h.ot.keep (u 2) (u 7) (u 8),g.free,h.los,h.os,h.zero,h.fzl⟩
theorem SW.le (h : SW lo fz s o mu n r out vd xe xa xs xd xo) {n' : Nat} (g : n ≤ n') : SW lo fz s o mu n' r out vd xe xa xs xd xo:=⟨h.cells,h.rt,h.ot,h.free.le g,h.los,h.os,h.zero,h.fzl⟩
theorem SW.put (h : SW lo fz s o mu n r out vd xe xa xs xd xo) {r' : Rep} {vd' : Bool} (he : r'.log.ents = r.log.ents) (ha : r'.acks = r.acks) (hs : r'.starts = r.starts) (hd : r'.dos = r.dos) : SW lo fz s o (putS mu s (stepC r' xe xa xs xd xo vd')) n r' out vd' xe xa xs xd xo:=by
 have u : ∀ t,t ≠ 9 → Sub (Tag o t (with' mu fz)) (Tag o t (with' (putS mu s (stepC r' xe xa xs xd xo vd')) fz)):=λt ht=>Tag.put (lookI h.cells) (by rw [h.os]; omega)
 have g:=(Gr.refl (lo:=lo) h.free).put h.los h.cells (c:=stepC r' xe xa xs xd xo vd')
 refine ⟨by rw [Qdm,if_pos rfl,h.cells]; rfl,?_,h.ot.keep (u 2 (by omega)) (u 7 (by omega)) (u 8 (by omega)),g.free,h.los,h.os,h.zero,h.fzl⟩
 obtain ⟨h1,h2,h3,h4⟩:=h.rt.keep (λt _ _=>u t (by omega))
 exact ⟨by rw [he]; exact h1,by rw [ha]; exact h2,by rw [hs]; exact h3,by rw [hd]; exact h4⟩
end
end Go.Proofs.YtnnjlnkoomeadaaGreat.Pv
namespace Go.Proofs.YtnnjlnkoomeadaaGreat.Pv
open Go.Ev Go.Ev.Rp
set_option maxRecDepth 100000
set_option maxHeartbeats 4000000
variable {P : Program} (H : Fs P)
include H
theorem replica_step_last (id : Nat) (r : Rep) (xe xa xs xd xo : SV) (vd : Bool) : Ctr P n_Qa1 [.one (.optr id 0)] (λM=>M id = some (stepC r xe xa xs xd xo vd) ∧ EntsR M xe r.log.ents) (λ_ _ _ v=>v = .one (I (last r.log))):=Ctr.of H.mx H.Qa1 (λ_=>0) λfz mu n k hfr s hk=>by
 obtain ⟨b1,s1⟩:=s
 have hE:=choose_Last H r.log xe
 unfold lgC at hE
 unfold stepC repC at b1
 rw [i_Qa1,dc_at b_Qa1.eq_1]
 simp only [↓E1,E2,zA,zB,zC,zD,zE,zF,zG,zH,zI,zJ,zK,zL,zM,zN,reduceIte,zO,zP, *]
 refine hE.q0 hfr s1 ?_
 rintro v n' hl rfl
 simp only [↓E1,E2,zA,zB,zC,zD,zE,zF,zG,zH,zI,zJ,zK,zL,zM,zN,reduceIte,zO,zP, *]
 exact hk _ _ _ ((Gr.refl hfr).le2 hl) rfl
end Go.Proofs.YtnnjlnkoomeadaaGreat.Pv
namespace Go.Proofs.YtnnjlnkoomeadaaGreat.Pv
open Go.Ev Go.Ev.Rp
set_option maxRecDepth 100000
set_option maxHeartbeats 4000000
structure BegP (n : Nat) (M : Fz) (v : AV) (r : Rep) (s : Nat) (o : Nat → Nat) (xe xa xs xd : SV) : Prop where
 val : v = .one (.optr s 0)
 le : n ≤ s
 os : o s = 9
 zero : ∀ j,j < n → o j = 0
 cells : M s = some (stepC r xe xa xs xd .nsl false)
 rt : RepT o M r xe xa xs xd
theorem BegP.sw {n : Nat} {fz : Fz} {mu mu' : St} {n' : Nat} {v : AV} {r : Rep} {s : Nat} {o : Nat → Nat} {xe xa xs xd : SV} (h : BegP n (with' mu' fz) v r s o xe xa xs xd) (hf : Free fz mu n) (g : Gr n fz mu mu' n n') : SW n fz s o mu' n' r [] false xe xa xs xd .nsl :=
 ⟨Qld hf h.le h.cells,h.rt,⟨[],.inl ⟨.inl rfl,rfl⟩,trivial⟩,g.free,h.le,h.os,h.zero,λj hj=>by
  have h0:=hf.none hj
  rw [Qd6] at h0
  cases e : Ev.look mu j with
  | none=>rw [e] at h0; exact h0
  | some c=>rw [e] at h0; cases h0⟩
variable {P : Program} (H : Fs P)
include H
theorem replica_begin (r : Rep) (xe xa xs xd : SV) (hz : RepSz r) : Ctr P n_Qb5 [.ag (repC r xe xa xs xd)] (λM=>RepS M r xe xa xs xd) (λn _ M v=>∃ s o xe' xa' xs' xd',BegP n M v r s o xe' xa' xs' xd'):=Ctr.of H.mx H.Qb5 (λ_=>0) λfz mu n k hfr s1 hk=>by
 obtain ⟨-,-,xek,xem⟩:=s1.1.len
 obtain ⟨-,-,xak,xam⟩:=s1.2.1.len
 obtain ⟨-,-,xsk,xsm⟩:=s1.2.2.1.len
 obtain ⟨-,-,xdk,xdm⟩:=s1.2.2.2.len
 have hC:=replica_Clone H r xe xa xs xd hz
 rw [i_Qb5,dc_at b_Qb5.eq_1]
 unfold repC at hC ⊢
 simp only [↓E1,E2,zA,zB,zC,zD,zE,zF,zG,zH,zI,zJ,zK,zL,zM,zN,reduceIte,zO,zP, *]
 refine CPr.abs1 hfr λm1 n1 g1 l1 b1=>?_
 refine hC.c1 g1.free (RepS.mono (g1.sub hfr (Nat.le_refl _)) s1) ?_
 rintro v m2 n2 g2 ⟨xe',xa',xs',xd',o,rfl,ho,hT⟩
 have l2:=g2.le
 have gg:=g1.trans (g2.weaken (by omega))
 obtain ⟨⟨es,q1,q2⟩,q3,q4,ds,q5,q6⟩:=hT
 have hT : RepT o (with' m2 fz) r xe' xa' xs' xd':=⟨⟨es,q1,q2⟩,q3,q4,ds,q5,q6⟩
 obtain ⟨-,-,yek,yem⟩:=q1.len
 obtain ⟨-,-,yak,yam⟩:=SlX.len q3
 obtain ⟨-,-,ysk,ysm⟩:=SlX.len q4
 obtain ⟨-,-,ydk,ydm⟩:=SlX.len q5
 simp only [↓E1,E2,zA,zB,zC,zD,zE,zF,zG,zH,zI,zJ,zK,zL,zM,zN,reduceIte,zO,zP, *]
 have gB:=gg.cons (by omega) (stepC r xe' xa' xs' xd' .nsl false)
 refine hk _ _ _ gB ⟨n2,λj=>if j = n2 then 9 else o j,xe',xa',xs',xd',rfl,by omega,by simp,λj hj=>by rw [if_neg (by omega)]; exact ho j (by omega),by rw [Qed,if_pos rfl]; rfl,?_⟩
 refine hT.keep λt _ _ j B hj=>?_
 obtain ⟨h1,h2⟩:=Tag.el hj
 have h3:=gg.free.lt h2
 refine Tag.at (by rw [if_neg (by omega)]; exact h1) ?_
 rw [Qed,if_neg (by omega)]; exact h2
theorem replica_step_end (s : Nat) (r r0 : Rep) (xe xa xs xd xo ye ya ys yd : SV) (hk1 : xe.known = true ∧ xa.known = true ∧ xs.known = true ∧ xd.known = true ∧ xo.known = true) : Ctr P n_Qbf [.one (.optr s 0),.ag (repC r0 ye ya ys yd)] (λM=>M s = some (stepC r xe xa xs xd xo false) ∧ RepS M r0 ye ya ys yd) (λ_ _ _ v=>v = .tp [.ag (repC r xe xa xs xd),.one xo]):=Ctr.of H.mx H.Qbf (λ_=>0) λfz mu n k hfr h hk=>by
 obtain ⟨b1,s1⟩:=h
 obtain ⟨xek,xak,xsk,xdk,xok⟩:=hk1
 have xem:=Qgx xek
 have xam:=Qgx xak
 have xsm:=Qgx xsk
 have xdm:=Qgx xdk
 have xom:=Qgx xok
 obtain ⟨-,-,yek,yem⟩:=s1.1.len
 obtain ⟨-,-,yak,yam⟩:=s1.2.1.len
 obtain ⟨-,-,ysk,ysm⟩:=s1.2.2.1.len
 obtain ⟨-,-,ydk,ydm⟩:=s1.2.2.2.len
 have hs : s < n:=hfr.lt b1
 have hne : (n = s) = False:=by simp; omega
 have hne2 : (n + 1 = s) = False:=by simp; omega
 have hne3 : (n + 1 = n) = False:=by simp
 unfold stepC repC at b1
 rw [i_Qbf,dc_at b_Qbf.eq_1]
 unfold repC
 simp only [↓E1,E2,zA,zB,zC,zD,zE,zF,zG,zH,zI,zJ,zK,zL,zM,zN,reduceIte,zO,zP, *]
 rw [Qej (show Ev.look ((n + 1,_) :: _) (n + 1) = some _ by rw [Qdw,if_pos rfl]) rfl]
 have hw:=(Qdq (fz:=fz) (show Ev.look (killS mu (n + 1)) s = Ev.look mu s by rw [Qdz,if_neg (by omega)])).trans b1
 simp only [↓E1,E2,zA,zB,zC,zD,zE,zF,zG,zH,zI,zJ,zK,zL,zM,zN,reduceIte,zO,zP, *]
 have hno : Ev.look mu (n + 1) = none:=by
  have h0:=hfr.none (show n ≤ n + 1 by omega)
  rw [Qd6] at h0
  cases e : Ev.look mu (n + 1) with
  | none=>rfl
  | some c=>rw [e] at h0; cases h0
 exact hk _ _ _ ((((Gr.refl hfr).congr (λid=>by
  rw [Qdz]
  by_cases e : n + 1 = id
  ·rw [if_pos e,← e,hno]
  ·rw [if_neg e])).cons (Nat.le_refl _) _).cons (by omega) _) rfl
end Go.Proofs.YtnnjlnkoomeadaaGreat.Pv
namespace Go.Proofs.YtnnjlnkoomeadaaGreat.Pv
open Go.Ev Go.Ev.Rp
set_option maxRecDepth 100000
set_option maxHeartbeats 4000000
structure MsgSz (m : Msg) : Prop where
 bat : m.batch.length ≤ 4398046511104
 log : LgSz m.log
structure Kp (T : Nat → Prop) (s : Nat) (o o' : Nat → Nat) (mu : St) (n : Nat) (mu' : St) (n' : Nat) : Prop where
 le : n ≤ n'
 tags : ∀ j,j < n → o' j = o j
 keep : ∀ j,j < n → j ≠ s → ¬ T (o j) → Ev.look mu' j = Ev.look mu j
theorem Kp.trans {T : Nat → Prop} {s : Nat} {o o1 o2 : Nat → Nat} {mu mu1 mu2 : St} {n n1 n2 : Nat} (h : Kp T s o o1 mu n mu1 n1) (k : Kp T s o1 o2 mu1 n1 mu2 n2) : Kp T s o o2 mu n mu2 n2 :=
 ⟨Nat.le_trans h.le k.le,λj hj=>by rw [k.tags j (Nat.lt_of_lt_of_le hj h.le)]; exact h.tags j hj,λj hj hs ht=>by
  rw [k.keep j (Nat.lt_of_lt_of_le hj h.le) hs (by rw [h.tags j hj]; exact ht)]; exact h.keep j hj hs ht⟩
theorem Kp.weaken {T T' : Nat → Prop} {s : Nat} {o o' : Nat → Nat} {mu mu' : St} {n n' : Nat} (h : Kp T s o o' mu n mu' n') (ht : ∀ t,T t → T' t) : Kp T' s o o' mu n mu' n' :=
 ⟨h.le,h.tags,λj h1 h2 h3=>h.keep j h1 h2 λh4=>h3 (ht _ h4)⟩
theorem Kp.refl {T : Nat → Prop} {s : Nat} {o : Nat → Nat} {mu : St} {n : Nat} : Kp T s o o mu n mu n:=⟨Nat.le_refl _,λ_ _=>rfl,λ_ _ _ _=>rfl⟩
theorem Kp.gr {T : Nat → Prop} {s lo : Nat} {o o' : Nat → Nat} {fz : Fz} {mu mu' : St} {n n' : Nat} (h : Kp T s o o' mu n mu' n') (hf : Free fz mu' n') (hl : lo ≤ s) (hln : lo ≤ n) (hz : ∀ j,j < lo → o j = 0) (h0 : ¬ T 0) : Gr lo fz mu mu' n n' :=
 have hk : ∀ j,j < lo → Ev.look mu' j = Ev.look mu j:=λj hj=>h.keep j (by omega) (by omega) (by rw [hz j hj]; exact h0)
 ⟨h.le,λj hj=>Qdq (hk j hj),hk,hf⟩
def FT (o : Nat → Nat) (n : Nat) (M : Fz) : Fz:=λj=>if n ≤ j ∨ o j = 2 ∨ o j = 8 then M j else none
theorem FT.el {o : Nat → Nat} {n j : Nat} {M : Fz} {B : List SV} (h : FT o n M j = some B) : (n ≤ j ∨ o j = 2 ∨ o j = 8) ∧ M j = some B:=by
 unfold FT at h
 split at h
 ·rename_i e; exact ⟨e,h⟩
 ·cases h
theorem FT.from {o : Nat → Nat} {n : Nat} {M : Fz} : Sub (From n M) (FT o n M):=λj B h=>by
 obtain ⟨h1,h2⟩:=From.el h
 unfold FT; rw [if_pos (.inl h1)]; exact h2
theorem FT.tag {o : Nat → Nat} {n : Nat} {M : Fz} : Sub (Tag28 o M) (FT o n M):=λj B h=>by
 obtain ⟨h1,h2⟩:=Tag28.el h
 unfold FT; rw [if_pos (.inr h1)]; exact h2
theorem SW.app {lo : Nat} {fz : Fz} {s : Nat} {o : Nat → Nat} {mu : St} {n : Nat} {r : Rep} {out : List Msg} {vd : Bool} {xe xa xs xd xo : SV} (S : SW lo fz s o mu n r out vd xe xa xs xd xo) {mu2 : St} {n2 : Nat} (g : Gr n fz mu mu2 n n2) {m : Msg} {xb xm : SV}
 (hb : PtsX (FT o n (with' mu2 fz)) xb m.batch) (hm : EntsX (FT o n (with' mu2 fz)) xm m.log.ents) (hl : out.length ≤ 1000) {K : KT Prop}
 (hk : ∀ m3 o' xo',xo'.known = true → Ev.look m3 s = some (stepC r xe xa xs xd xo vd) → SW lo fz s o' (putS m3 s (stepC r xe xa xs xd xo' vd)) (n2 + 1) r (out ++ [m]) vd xe xa xs xd xo' → Kp (· = 7) s o o' mu n (putS m3 s (stepC r xe xa xs xd xo' vd)) (n2 + 1) → K (.one xo') m3 (n2 + 1)) :
 onApp mu2 n2 20 216 xo (msgC m xb xm) 1 K:=by
 obtain ⟨cs,h1,h2⟩:=S.ot
 have hcl:=h2.length
 have hfz : ∀ j,o j ≠ 0 → fz j = none:=λj hj=>S.fzl j (S.ge hj)
 have hG : ∀ id B,Tag o 7 (with' mu fz) id = some B → Ev.look mu2 id = some B:=λid B h=>by
  obtain ⟨p1,p2⟩:=Tag.el h
  have p3:=S.free.lt p2
  rw [Qe1 (hfz id (by omega))] at p2
  exact (g.own id p3).trans p2
 obtain ⟨-,-,zbk,-⟩:=SlX.len hb
 obtain ⟨-,-,zmk,-⟩:=hm.choose_spec.1.len
 have hkn : Qdo (msgC m xb xm) = true:=by unfold msgC; simp only [↓E1,E2,zA,zB,zC,zD,zE,zF,zG,zH,zI,zJ,zK,zL,zM,zN,reduceIte,zO,zP, *]
 have hfl : onApp mu2 n2 20 216 xo ([msgC m xb xm] : List (List SV)).flatten ([msgC m xb xm] : List (List SV)).length K:=by
  refine Qg8 (G:=Tag o 7 (with' mu fz)) h1 hG (by rw [hcl]; exact Qef (by simp; omega) (by decide) (by decide)) (by simp) (λe he=>by rw [List.mem_singleton.1 he]; exact ⟨rfl,hkn⟩) λm3 ho hn=>?_
  have hsame : ∀ j,j ≠ n2 → (j < n → o j ≠ 7) → Ev.look m3 j = Ev.look mu2 j:=λj hj h7=>by
   rcases ho j hj with h | ⟨B,p1,-⟩
   ·exact h
   ·obtain ⟨p2,p3⟩:=Tag.el p1
    exact (h7 (S.free.lt p3) p2).elim
  have hs2 : s < n:=S.slt
  have hln:=g.le
  have hs3 : Ev.look m3 s = some (stepC r xe xa xs xd xo vd):=(hsame s (by omega) (λ_=>by rw [S.os]; omega)).trans ((g.own s hs2).trans S.cells)
  have hlon:=S.lon
  -- the tags
  let o' : Nat → Nat:=tagN o n λj=>if j = n2 then 7 else 8
  have ho1 : ∀ j,j < n → o' j = o j:=λj hj=>Qea hj
  have ho2 : o' n2 = 7:=by show tagN o n _ n2 = 7; rw [Qga hln]; simp
  have ho3 : ∀ j,n ≤ j → j ≠ n2 → o' j = 8:=λj hj hne=>by show tagN o n _ j = 8; rw [Qga hj,if_neg hne]
  have hput : ∀ (xo' : SV) j,j ≠ s → with' (putS m3 s (stepC r xe xa xs xd xo' vd)) fz j = with' m3 fz j:=λxo' j hj=>by rw [Qds hs3,if_neg (by omega)]
  have u : ∀ (xo' : SV) t,t ≠ 7 → t ≠ 9 → t ≠ 0 → Sub (Tag o t (with' mu fz)) (Tag o' t (with' (putS m3 s (stepC r xe xa xs xd xo' vd)) fz)):=λxo' t ht ht9 ht0 j B hj=>by
   obtain ⟨p1,p2⟩:=Tag.el hj
   have p3:=S.free.lt p2
   refine Tag.at (by rw [ho1 j p3]; exact p1) ?_
   rw [hput xo' j (λe=>by rw [e,S.os] at p1; omega),Qdq (hsame j (by omega) (λ_=>by omega)),g.ext j p3]; exact p2
  have uN : ∀ (xo' : SV),Sub (FT o n (with' mu2 fz)) (Tag28 o' (with' (putS m3 s (stepC r xe xa xs xd xo' vd)) fz)):=λxo' j B hj=>by
   obtain ⟨p1,p2⟩:=FT.el hj
   have p3:=g.free.lt p2
   rcases Nat.lt_or_ge j n with hjn | hjn
   ·have p4 : o j = 2 ∨ o j = 8:=p1.resolve_left (by omega)
    refine Tag28.at (by rw [ho1 j hjn]; exact p4) ?_
    rw [hput xo' j (λe=>by rw [e,S.os] at p4; omega),Qdq (hsame j (by omega) (λ_=>by omega))]; exact p2
   ·refine Tag28.at (.inr (ho3 j hjn (by omega))) ?_
    rw [hput xo' j (by omega),Qdq (hsame j (by omega) (λ_=>by omega))]; exact p2
  have hfz2 : ∀ j,lo ≤ j → fz j = none:=S.fzl
  have hn7 : ∀ (xo' : SV),with' (putS m3 s (stepC r xe xa xs xd xo' vd)) fz n2 = some (cs ++ [msgC m xb xm]).flatten:=λxo'=>by rw [hput xo' n2 (by omega)]; exact Qdl hn
  have hfree : ∀ (xo' : SV),Free fz (putS m3 s (stepC r xe xa xs xd xo' vd)) (n2 + 1):=λxo' j=>by
   rw [hput xo' _ (by omega),Qdq (hsame (n2 + 1 + j) (by omega) (λ_=>by omega))]
   exact g.free.none (by omega)
  refine hk m3 o' _ rfl hs3 ⟨by rw [Qdm,if_pos rfl,hs3]; rfl,S.rt.keep λt t1 t2=>u _ t (by omega) (by omega) (by omega),⟨cs ++ [msgC m xb xm],.inr ⟨n2,rfl,Tag.at ho2 (hn7 _),?_,?_⟩,?_⟩,hfree _,S.los,by rw [ho1 s hs2]; exact S.os,λj hj=>by rw [ho1 j (by omega)]; exact S.zero j hj,S.fzl⟩ ⟨by omega,ho1,λj hj hjs h7=>?_⟩
  ·have hkf : ∀ e ∈ cs ++ [msgC m xb xm],e.length = 20 ∧ Qdo e = true:=λe he=>by
    rcases List.mem_append.1 he with he | he
    ·rcases h1 with ⟨_,rfl⟩ | ⟨id,_,_,_,h4⟩
     ·cases he
     ·exact h4 e he
    ·rw [List.mem_singleton.1 he]; exact ⟨rfl,hkn⟩
   exact Qeq (Qd5 hkf)
  ·intro e he
   rcases List.mem_append.1 he with he | he
   ·rcases h1 with ⟨_,rfl⟩ | ⟨id,_,_,_,h4⟩
    ·cases he
    ·exact h4 e he
   ·rw [List.mem_singleton.1 he]; exact ⟨rfl,hkn⟩
  ·exact All2.append (h2.imp λc a h=>MsgX.mono (Tag28.keep (u _ 2 (by omega) (by omega) (by omega)) (u _ 8 (by omega) (by omega) (by omega))) h) ⟨⟨xb,xm,rfl,PtsX.mono (uN _) hb,EntsX.mono (uN _) hm⟩,trivial⟩
  ·rw [Qdm,if_neg (by omega),hsame j (by omega) (λ_=>h7)]; exact g.own j hj
 simpa only [List.flatten_cons,List.flatten_nil,List.append_nil,List.length_cons,List.length_nil,Nat.zero_add] using hfl
variable {P : Program} (H : Fs P)
include H
theorem Qlb {lo : Nat} {fz : Fz} {s : Nat} {o : Nat → Nat} {mu : St} {n : Nat} {r : Rep} {out : List Msg} {vd : Bool} {xe xa xs xd xo : SV} (S : SW lo fz s o mu n r out vd xe xa xs xd xo) (to : Int) (m : Msg) (yb ye : SV)
 (hm : MsgS (with' mu fz) m yb ye) (hz : MsgSz m) (hl : out.length ≤ 1000) {k : KT Prop} {w : WK k}
 (hk : ∀ mu' n' o' xo',SW lo fz s o' mu' n' r (out ++ [{ m with frm:=r.me,to:=to }]) vd xe xa xs xd xo' → Kp (· = 7) s o o' mu n mu' n' → k noVal mu' n') : CPh P n_Qa4 [.one (.optr s 0),.one (I to),.ag (msgC m yb ye)] fz mu n k w:=by
 refine CP_of H.Qa4 H.mx 0 ?_
 obtain ⟨-,-,ybk,ybm⟩:=hm.1.len
 obtain ⟨-,-,yek,yem⟩:=hm.2.len
 have hC:=message_Clone H { m with frm:=r.me,to:=to } yb ye hz.bat hz.log.ents hz.log.bat
 have gA:=(Gr.refl (lo:=n) S.free).cons (Nat.le_refl _) (msgC { m with frm:=r.me,to:=to } yb ye)
 have hsn : s < n:=S.slt
 have S1:=S.gr gA
 have b1 : Ev.look ((n,msgC { m with frm:=r.me,to:=to } yb ye) :: mu) n = some (msgC { m with frm:=r.me,to:=to } yb ye):=by rw [Qdw,if_pos rfl]
 have ws0:=Qdl (fz:=fz) S.cells
 have hne : (n = s) = False:=by simp; omega
 obtain ⟨⟨xek,xem⟩,⟨xak,xam⟩,⟨xsk,xsm⟩,⟨xdk,xdm⟩,xok,xom⟩:=S1.ks
 obtain ⟨m1,hm1⟩ : ∃ mz : St,((n,msgC { m with frm:=r.me,to:=to } yb ye) :: mu) = mz:=⟨_,rfl⟩
 rw [hm1] at gA S1 b1
 have ws1:=Qdl (fz:=fz) S1.cells
 have wb1:=Qdl (fz:=fz) b1
 rw [i_Qa4,dc_at b_Qa4.eq_1]
 unfold msgC at hm1 hC wb1 ⊢
 unfold stepC repC at ws0 ws1
 simp only [↓E1,E2,zA,zB,zC,zD,zE,zF,zG,zH,zI,zJ,zK,zL,zM,zN,reduceIte,zO,zP, *,E3]
 refine hC.d2 S1.free ⟨PtsR.mono (gA.sub S.free (Nat.le_refl _)) hm.1,EntsR.mono (gA.sub S.free (Nat.le_refl _)) hm.2⟩ ?_
 rintro v new n2 g2 ⟨xb',xe',rfl,hxb,hxm⟩
 have l2:=g2.le
 obtain ⟨-,-,zbk,zbm⟩:=SlX.len hxb
 obtain ⟨-,-,zek,zem⟩:=hxm.choose_spec.1.len
 have S2:=S1.gr g2
 have ws2:=Qdl (fz:=fz) S2.cells
 unfold stepC repC at ws2
 simp only [↓E1,E2,zA,zB,zC,zD,zE,zF,zG,zH,zI,zJ,zK,zL,zM,zN,reduceIte,zO,zP, *,E3]
 have gB : Gr n fz mu ((n2,[I m.kind,I r.me,I to,I m.view,I m.normal,I m.at',I m.commit,I m.round,I m.client,I m.session,I m.number,I m.code,I m.agg,I m.until',m.series.sv,xb',I m.log.base,m.log.snap.sv,xe',m.text.sv]) :: (new ++ m1)) n (n2 + 1):=(gA.trans (g2.weaken (by omega))).cons (by omega) _
 have u2 : Sub (From (n + 1) (with' (new ++ m1) fz)) (From n (with' ((n2,[I m.kind,I r.me,I to,I m.view,I m.normal,I m.at',I m.commit,I m.round,I m.client,I m.session,I m.number,I m.code,I m.agg,I m.until',m.series.sv,xb',I m.log.base,m.log.snap.sv,xe',m.text.sv]) :: (new ++ m1)) fz)):=λj B hj=>by
  obtain ⟨p1,p2⟩:=From.el hj
  have:=g2.free.lt p2
  exact From.at (by omega) (by rw [Qed,if_neg (by omega)]; exact p2)
 refine SW.app S gB (m:={ m with frm:=r.me,to:=to }) (PtsX.mono (u2.trans FT.from) hxb) (EntsX.mono (u2.trans FT.from) hxm) hl λm3 o' xo' hko hs3 hS hKp=>?_
 have hkom:=Qgx hko
 unfold stepC repC at hs3
 have hk2:=hk _ _ _ _ hS hKp
 unfold stepC repC at hk2
 simp only [↓E1,E2,zA,zB,zC,zD,zE,zF,zG,zH,zI,zJ,zK,zL,zM,zN,reduceIte,zO,zP, *,E3]
 exact hk2
end Go.Proofs.YtnnjlnkoomeadaaGreat.Pv
namespace Go.Proofs.YtnnjlnkoomeadaaGreat.Pv
open Go.Ev Go.Ev.Rp
set_option maxRecDepth 100000
set_option maxHeartbeats 4000000
def Un (s : Nat) (o : Nat → Nat) (M : Fz) : Fz:=λj=>if o j = 7 ∨ j = s then none else M j
theorem Un.el {s j : Nat} {o : Nat → Nat} {M : Fz} {B : List SV} (h : Un s o M j = some B) : o j ≠ 7 ∧ j ≠ s ∧ M j = some B:=by
 unfold Un at h
 split at h
 ·cases h
 ·rename_i hn; exact ⟨λe=>hn (.inl e),λe=>hn (.inr e),h⟩
theorem Un.at {s j : Nat} {o : Nat → Nat} {M : Fz} {B : List SV} (h1 : o j ≠ 7) (h2 : j ≠ s) (h : M j = some B) : Un s o M j = some B:=by
 unfold Un; rw [if_neg (λe=>e.elim h1 h2)]; exact h
theorem Un.sub {s : Nat} {o : Nat → Nat} {M : Fz} : Sub (Un s o M) M:=λ_ _ h=>(Un.el h).2.2
theorem Kp.un {s : Nat} {o o' : Nat → Nat} {fz : Fz} {mu mu' : St} {n n' : Nat} (h : Kp (· = 7) s o o' mu n mu' n') (hf : Free fz mu n) : Sub (Un s o (with' mu fz)) (Un s o' (with' mu' fz)):=λj B hj=>by
 obtain ⟨h1,h2,h3⟩:=Un.el hj
 have h4:=hf.lt h3
 exact Un.at (by rw [h.tags j h4]; exact h1) h2 (by rw [Qdq (h.keep j h4 h2 h1)]; exact h3)
def trim (o : Nat → Nat) (n : Nat) : Nat → Nat:=λj=>if j < n then o j else 0
theorem Qfz {o : Nat → Nat} {n j : Nat} (h : j < n) : trim o n j = o j:=by unfold trim; rw [if_pos h]
theorem Qmy {o : Nat → Nat} {n j : Nat} (h : n ≤ j) : trim o n j = 0:=by unfold trim; rw [if_neg (by omega)]
theorem Kp.trim {T : Nat → Prop} {s : Nat} {o o' : Nat → Nat} {mu mu' : St} {n n' : Nat} (h : Kp T s (trim o n) o' mu n mu' n') : Kp T s o o' mu n mu' n' :=
 ⟨h.le,λj hj=>by rw [h.tags j hj,Qfz hj],λj hj hs ht=>h.keep j hj hs (by rw [Qfz hj]; exact ht)⟩
theorem SW.trim {lo : Nat} {fz : Fz} {s : Nat} {o : Nat → Nat} {mu : St} {n : Nat} {r : Rep} {out : List Msg} {vd : Bool} {xe xa xs xd xo : SV} (S : SW lo fz s o mu n r out vd xe xa xs xd xo) : SW lo fz s (trim o n) mu n r out vd xe xa xs xd xo:=by
 have u : ∀ t,Sub (Tag o t (with' mu fz)) (Tag (Pv.trim o n) t (with' mu fz)):=λt j B hj=>by
  obtain ⟨p1,p2⟩:=Tag.el hj
  exact Tag.at (by rw [Qfz (S.free.lt p2)]; exact p1) p2
 exact ⟨S.cells,S.rt.keep λt _ _=>u t,S.ot.keep (u 2) (u 7) (u 8),S.free,S.los,by rw [Qfz S.slt]; exact S.os,λj hj=>by rw [Qfz (Nat.lt_of_lt_of_le hj S.lon)]; exact S.zero j hj,S.fzl⟩
theorem Gr.kp {T : Nat → Prop} {s : Nat} {o : Nat → Nat} {fz : Fz} {mu mu' : St} {n n' : Nat} (g : Gr n fz mu mu' n n') : Kp T s o o mu n mu' n':=⟨g.le,λ_ _=>rfl,λj hj _ _=>g.own j hj⟩
def allM (r : Rep) (m : Msg) (i : Nat) : List Msg:=((List.range i).filter λ(j : Nat)=>!decide ((j : Int) = r.me)).map λ(j : Nat)=>{ m with frm:=r.me,to:=(j : Int) }
theorem Qod (r : Rep) (m : Msg) (i : Nat) : allM r m (i + 1) = if (i : Int) = r.me then allM r m i else allM r m i ++ [{ m with frm:=r.me,to:=(i : Int) }]:=by
 unfold allM
 rw [List.range_succ,List.filter_append,List.map_append]
 by_cases h : (i : Int) = r.me <;> simp [h]
theorem Qee (r : Rep) (m : Msg) (i : Nat) : (allM r m i).length ≤ i:=by
 unfold allM
 rw [List.length_map]
 exact Nat.le_trans (List.length_filter_le _ _) (by simp)
variable {P : Program} (H : Fs P)
include H
theorem Qh7 {lo : Nat} {fz : Fz} {s : Nat} {o : Nat → Nat} {mu : St} {n : Nat} {r : Rep} {out : List Msg} {vd : Bool} {xe xa xs xd xo : SV} (S : SW lo fz s o mu n r out vd xe xa xs xd xo) (m : Msg) (yb ye : SV)
 (hm : MsgS (Un s o (with' mu fz)) m yb ye) (hz : MsgSz m) (hl : out.length ≤ 900) {N : Nat} (hN : r.nodes = (N : Int)) (hN7 : N ≤ 7) {k : KT Prop} {w : WK k}
 (hk : ∀ mu' n' o' xo',SW lo fz s o' mu' n' r (out ++ allM r m N) vd xe xa xs xd xo' → Kp (· = 7) s o o' mu n mu' n' → k noVal mu' n') : CPh P n_Qbd [.one (.optr s 0),.ag (msgC m yb ye)] fz mu n k w:=by
 refine CP_of H.Qbd H.mx 9 ?_
 obtain ⟨-,-,ybk,ybm⟩:=hm.1.len
 obtain ⟨-,-,yek,yem⟩:=hm.2.len
 have gA:=(Gr.refl (lo:=n) S.free).cons (Nat.le_refl _) (msgC m yb ye)
 have hsn : s < n:=S.slt
 have S1:=S.trim.gr gA
 have b1 : Ev.look ((n,msgC m yb ye) :: mu) n = some (msgC m yb ye):=by rw [Qdw,if_pos rfl]
 have hKA : Kp (· = 7) s (trim o n) (trim o n) mu n ((n,msgC m yb ye) :: mu) (n + 1):=Gr.kp gA
 have hm1 : MsgS (Un s (trim o n) (with' ((n,msgC m yb ye) :: mu) fz)) m yb ye:=by
  have u : Sub (Un s o (with' mu fz)) (Un s (trim o n) (with' mu fz)):=λj B hj=>by
   obtain ⟨h1,h2,h3⟩:=Un.el hj
   exact Un.at (by rw [Qfz (S.free.lt h3)]; exact h1) h2 h3
  exact MsgS.mono (u.trans (hKA.un S.free)) hm
 obtain ⟨⟨xek,xem⟩,⟨xak,xam⟩,⟨xsk,xsm⟩,⟨xdk,xdm⟩,xok,xom⟩:=S1.ks
 obtain ⟨m1,hm1e⟩ : ∃ mz : St,((n,msgC m yb ye) :: mu) = mz:=⟨_,rfl⟩
 rw [hm1e] at gA S1 b1 hKA hm1
 have ws1:=Qdl (fz:=fz) S1.cells
 have wb1:=Qdl (fz:=fz) b1
 rw [i_Qbd,dc_at b_Qbd.eq_1]
 unfold msgC at hm1e wb1 ⊢
 unfold stepC repC at ws1
 rw [hN] at ws1
 have hkH:=Hide.mk hk
 clear hk
 simp only [↓E1,E2,zA,zB,zC,zD,zE,zF,zG,zH,zI,zJ,zK,zL,zM,zN,reduceIte,zO,zP, *,E3]
 refine loopI (x:=0) (L:=N) (p:=λ_=>true) (λi e mu' n'=>∃ o' xo',SW lo fz s o' mu' n' r (out ++ allM r m i) vd xe xa xs xd xo' ∧ Kp (· = 7) s (trim o n) o' m1 (n + 1) mu' n' ∧ e 0 0 = .one (.optr s 0) ∧ e 0 3 = .one (.optr n 0) ∧ e 0 9 = .one (I (N : Nat)) ∧ e 0 10 = .one (.int .i64 i)) (λ_ _ _=>False) ?_ ?_ _ _ _ _ _ (by omega) ?_ ?_ (by rintro ⟨_,_,_,h⟩; cases h)
 ·rintro i e mu2 n2 K hi ⟨o2,xo2,S2,K2,e0,e3,e9,e10⟩ hY hn
  have hY':=Hide.mk hY
  clear hY hn
  have hw:=Qdt hi (by omega)
  have hsucc:=Qod r m i
  have hlen:=Qee r m i
  have hon : trim o n n = 0:=Qmy (Nat.le_refl _)
  have b2:=(K2.keep n (by omega) (by omega) (by rw [hon]; omega)).trans b1
  have ws2:=Qdl (fz:=fz) S2.cells
  have wb2:=Qdl (fz:=fz) b2
  have hiN : (i < N) = True:=by simp; exact hi
  obtain ⟨⟨xek,xem⟩,⟨xak,xam⟩,⟨xsk,xsm⟩,⟨xdk,xdm⟩,xok,xom⟩:=S2.ks
  unfold msgC at wb2
  unfold stepC repC at ws2
  clear ws1 wb1
  rw [dc_at l_Qbd_0.eq_1]
  simp only [↓E1,E2,zA,zB,zC,zD,zE,zF,zG,zH,zI,zJ,zK,zL,zM,zN,reduceIte,zO,zP, *,E3]
  refine Qdv (λhb=>?_) (λhb=>?_)
  ·have hb' : (i : Int) = r.me:=of_decide_eq_true hb
   rw [if_pos hb'] at hsucc
   clear hb'
   rw [← hsucc] at S2
   simp only [↓E1,E2,zA,zB,zC,zD,zE,zF,zG,zH,zI,zJ,zK,zL,zM,zN,reduceIte,zO,zP, *,E3]
   refine hY'.out rfl _ _ _ ⟨o2,xo2,S2,K2,?_,?_,?_,?_⟩
   all_goals simp [updN,updE, *]
  ·have hb' : ¬ (i : Int) = r.me:=of_decide_eq_false hb
   rw [if_neg hb'] at hsucc
   clear hb'
   have hSend:=λ(k : KT Prop) (w : WK k)=>Qlb H S2 (i : Nat) m yb ye (MsgS.mono (K2.un gA.free |>.trans Un.sub) hm1) hz (by rw [List.length_append]; omega) (k:=k) (w:=w)
   unfold msgC at hSend
   simp only [↓E1,E2,zA,zB,zC,zD,zE,zF,zG,zH,zI,zJ,zK,zL,zM,zN,reduceIte,zO,zP, *,E3]
   refine hSend _ _ λm5 n5 o5 xo5 S5 K5=>?_
   rw [List.append_assoc,← hsucc] at S5
   simp only [↓E1,E2,zA,zB,zC,zD,zE,zF,zG,zH,zI,zJ,zK,zL,zM,zN,reduceIte,zO,zP, *,E3]
   refine hY'.out rfl _ _ _ ⟨o5,xo5,S5,K2.trans K5,?_,?_,?_,?_⟩
   all_goals simp [updN,updE, *]
 ·rintro e mu2 n2 K ⟨o2,xo2,S2,K2,e0,e3,e9,e10⟩ hx
  have hx':=Hide.mk hx
  clear hx
  have hlt : ((N : Int) < N) = False:=by simp
  have hlt2 : (N < N) = False:=by simp
  rw [dc_at l_Qbd_0.eq_1]
  simp only [↓E1,E2,zA,zB,zC,zD,zE,zF,zG,zH,zI,zJ,zK,zL,zM,zN,reduceIte,zO,zP, *]
  refine hx'.out _ _ _ ⟨o2,xo2,S2,K2,?_,?_,?_,?_⟩
  all_goals simp [updN,updE, *]
 ·refine ⟨trim o n,xo,by simpa [allM] using S1,Kp.refl,?_,?_,?_,?_⟩
  all_goals simp [updN,updE,envI]
 ·rintro - e mu2 n2 ⟨o2,xo2,S2,K2,e0,e3,e9,e10⟩
  simp only [↓E1,E2,zA,zB,zC,zD,zE,zF,zG,zH,zI,zJ,zK,zL,zM,zN,reduceIte,zO,zP]
  exact hkH.out _ _ _ _ S2 (hKA.trans K2).trim
end Go.Proofs.YtnnjlnkoomeadaaGreat.Pv
namespace Go.Proofs.YtnnjlnkoomeadaaGreat.Pv
open Go.Ev Go.Ev.Rp
set_option maxRecDepth 100000
set_option maxHeartbeats 4000000
section
variable {lo : Nat} {fz : Fz} {s : Nat} {o : Nat → Nat} {mu : St} {n : Nat} {r : Rep} {out : List Msg} {vd : Bool} {xe xa xs xd xo : SV}
theorem SW.putT (h : SW lo fz s o mu n r out vd xe xa xs xd xo) {r' : Rep} {xe' xa' xs' xd' : SV} {vd' : Bool} (hT : RepT o (with' mu fz) r' xe' xa' xs' xd') : SW lo fz s o (putS mu s (stepC r' xe' xa' xs' xd' xo vd')) n r' out vd' xe' xa' xs' xd' xo:=by
 have u : ∀ t,t ≠ 9 → Sub (Tag o t (with' mu fz)) (Tag o t (with' (putS mu s (stepC r' xe' xa' xs' xd' xo vd')) fz)):=λt ht=>Tag.put (lookI h.cells) (by rw [h.os]; omega)
 have g:=(Gr.refl (lo:=lo) h.free).put h.los h.cells (c:=stepC r' xe' xa' xs' xd' xo vd')
 exact ⟨by rw [Qdm,if_pos rfl,h.cells]; rfl,hT.keep (λt _ _=>u t (by omega)),h.ot.keep (u 2 (by omega)) (u 7 (by omega)) (u 8 (by omega)),g.free,h.los,h.os,h.zero,h.fzl⟩
theorem SW.kput {T : Nat → Prop} (h : SW lo fz s o mu n r out vd xe xa xs xd xo) {c : List SV} : Kp T s o o mu n (putS mu s c) n:=⟨Nat.le_refl _,λ_ _=>rfl,λj _ hj _=>by rw [Qdm,if_neg (by omega)]⟩
theorem SW.grT (h : SW lo fz s o mu n r out vd xe xa xs xd xo) {mu' : St} {n' : Nat} (τ : Nat → Nat) (g : Gr n fz mu mu' n n') : SW lo fz s (tagN o n τ) mu' n' r out vd xe xa xs xd xo:=by
 have u : ∀ t,Sub (Tag o t (with' mu fz)) (Tag (tagN o n τ) t (with' mu' fz)):=λt=>Tag.old h.free (g.sub h.free (Nat.le_refl _))
 exact ⟨(g.own s h.slt).trans h.cells,h.rt.keep λt _ _=>u t,h.ot.keep (u 2) (u 7) (u 8),g.free,h.los,by rw [Qea h.slt]; exact h.os,λj hj=>by rw [Qea (Nat.lt_of_lt_of_le hj h.lon)]; exact h.zero j hj,h.fzl⟩
theorem SW.kgrT {T : Nat → Prop} (h : SW lo fz s o mu n r out vd xe xa xs xd xo) {mu' : St} {n' : Nat} (τ : Nat → Nat) (g : Gr n fz mu mu' n n') : Kp T s o (tagN o n τ) mu n mu' n':=⟨g.le,λj hj=>Qea hj,λj hj _ _=>g.own j hj⟩
theorem RepT.nil2 {M : Fz} (h : RepT o M r xe xa xs xd) {r' : Rep} {xa' : SV} (he : r'.log.ents = r.log.ents) (ha : IntsX (Tag o 3 M) xa' r'.acks) (hs : r'.starts = []) (hd : r'.dos = []) : RepT o M r' xe xa' .nsl .nsl:=by
 obtain ⟨⟨cs,h1,h2⟩,h3,h4,ds,h5,h6⟩:=h
 exact ⟨⟨cs,h1,by rw [he]; exact h2⟩,ha,by rw [hs]; exact .inl ⟨.inl rfl,rfl⟩,[],.inl ⟨.inl rfl,rfl⟩,by rw [hd]; trivial⟩
end
def anewR (r : Rep) (N : Nat) : Rep:={ r with sent:=false,starts:=[],dos:=[],acks:=List.replicate N 0 }
def Qek (v : Int) : Msg:=⟨7,0,0,v,0,0,0,0,0,0,0,0,0,0,tx0,[],⟨0,tx0,[]⟩,tx0⟩
def Qf5 (r : Rep) (v : Int) (N : Nat) : Rep:=anewR { r with view:=v,status:=1 } N
theorem Qe9 (v : Int) : MsgSz (Qek v):=⟨by simp [Qek],⟨by simp [Qek],by simp [Qek]⟩⟩
variable {P : Program} (H : Fs P)
include H
theorem Qoj {lo : Nat} {fz : Fz} {s : Nat} {o : Nat → Nat} {mu : St} {n : Nat} {r : Rep} {out : List Msg} {vd : Bool} {xe xa xs xd xo : SV} (S : SW lo fz s o mu n r out vd xe xa xs xd xo)
 {N : Nat} (hN : r.nodes = (N : Int)) (hN7 : N ≤ 7) {k : KT Prop} {w : WK k}
 (hk : ∀ mu' n' o' xa',SW lo fz s o' mu' n' (anewR r N) out vd xe xa' .nsl .nsl xo → Kp (λ_=>False) s o o' mu n mu' n' → k noVal mu' n') : CPh P n_Qa6 [.one (.optr s 0)] fz mu n k w:=by
 refine CP_of H.Qa6 H.mx 0 ?_
 have hsn : s < n:=S.slt
 obtain ⟨⟨xek,xem⟩,⟨xak,xam⟩,⟨xsk,xsm⟩,⟨xdk,xdm⟩,xok,xom⟩:=S.ks
 have hc:=S.cells
 have ws:=Qdl (fz:=fz) hc
 -- the first stores
 obtain ⟨r1,hr1⟩ : ∃ r1,{ r with sent:=false,starts:=[],dos:=[] } = r1:=⟨_,rfl⟩
 have hT1 : RepT o (with' mu fz) r1 xe xa .nsl .nsl:=S.rt.nil2 (by rw [← hr1]) (by rw [← hr1]; exact S.rt.acks) (by rw [← hr1]) (by rw [← hr1])
 have S1:=S.putT (vd':=vd) hT1
 have K1 : Kp (λ_=>False) s o o mu n _ n:=S.kput (c:=stepC r1 xe xa .nsl .nsl xo vd)
 have hc1:=S1.cells
 have hput : stepC r1 xe xa .nsl .nsl xo vd = [I r.me,I r.nodes,I r.view,I r.normal,I r.status,I r.commit,.bool false,I r.log.base,r.log.snap.sv,xe,xa,.nsl,.nsl,xo,.bool vd]:=by rw [← hr1]; rfl
 rw [hput] at S1 K1 hc1
 -- the row of acks
 have g2 : Gr n fz (putS mu s [I r.me,I r.nodes,I r.view,I r.normal,I r.status,I r.commit,.bool false,I r.log.base,r.log.snap.sv,xe,xa,.nsl,.nsl,xo,.bool vd]) ((n,rep [I 0] N) :: putS mu s [I r.me,I r.nodes,I r.view,I r.normal,I r.status,I r.commit,.bool false,I r.log.base,r.log.snap.sv,xe,xa,.nsl,.nsl,xo,.bool vd]) n (n + 1):=(Gr.refl S1.free).cons (Nat.le_refl _) _
 have S2:=S1.grT (λ_=>3) g2
 have K2 : Kp (λ_=>False) s o _ _ n _ (n + 1):=S1.kgrT (λ_=>3) g2
 have hT3 : RepT (tagN o n λ_=>3) (with' ((n,rep [I 0] N) :: putS mu s [I r.me,I r.nodes,I r.view,I r.normal,I r.status,I r.commit,.bool false,I r.log.base,r.log.snap.sv,xe,xa,.nsl,.nsl,xo,.bool vd]) fz) (anewR r N) xe (.osl n 0 N N 1) .nsl .nsl:=by
  refine S2.rt.nil2 (by rw [← hr1]; rfl) ?_ rfl rfl
  refine .inr ⟨n,by simp [anewR],Tag.at (by rw [Qga (Nat.le_refl _)]) (by rw [Qed,if_pos rfl,Qkl]; rfl),?_,Qg0⟩
  exact Qeq (Qd5 Qg0)
 have S3:=S2.putT (vd':=vd) hT3
 have K3 : Kp (λ_=>False) s _ _ _ (n + 1) _ (n + 1):=S2.kput (c:=stepC (anewR r N) xe (.osl n 0 N N 1) .nsl .nsl xo vd)
 have hk3:=hk _ _ _ _ S3 ((K1.trans K2).trans K3)
 have hw1:=Qdl (fz:=fz) hc1
 have hne : (n = s) = False:=by simp; omega
 have hfits : fits N 8 = true:=Qef (by omega) (by decide) (by decide)
 have hNN : (N < N) = False:=by simp
 have hcell3 : stepC (anewR r N) xe (.osl n 0 N N 1) .nsl .nsl xo vd = [I r.me,I r.nodes,I r.view,I r.normal,I r.status,I r.commit,.bool false,I r.log.base,r.log.snap.sv,xe,.osl n 0 N N 1,.nsl,.nsl,xo,.bool vd]:=rfl
 rw [hcell3] at hk3
 clear hk S S1 S2 S3 K1 K2 K3 hT1 hT3 hcell3 hput g2
 rw [i_Qa6,dc_at b_Qa6.eq_1]
 unfold stepC repC at hc ws
 rw [hN] at *
 simp only [↓E1,E2,zA,zB,zC,zD,zE,zF,zG,zH,zI,zJ,zK,zL,zM,zN,reduceIte,zO,zP, *,E3]
 rw [Qj7,if_neg (by omega),Qiz] at hk3
 exact hk3
theorem Qh0 {s : Nat} {r : Rep} {xe xa xs xd xo : SV} {vd : Bool} : Ctr P n_Qax [.one (.optr s 0)] (λM=>M s = some (stepC r xe xa xs xd xo vd)) (λ_ _ _ v=>v = .ag (msgC ⟨7,0,0,r.view,0,0,0,0,0,0,0,0,0,0,tx0,[],⟨0,tx0,[]⟩,tx0⟩ .nsl .nsl)):=Ctr.of H.mx H.Qax (λ_=>0) λfz mu n k hfr b1 hk=>by
 have hs:=hfr.lt b1
 have hne : (n = s) = False:=by simp; omega
 have g1:=(Gr.refl (lo:=n) hfr).cons (Nat.le_refl _) (msgC ⟨7,0,0,r.view,0,0,0,0,0,0,0,0,0,0,tx0,[],⟨0,tx0,[]⟩,tx0⟩ .nsl .nsl)
 have hk1:=hk _ _ _ g1 rfl
 clear hk
 unfold stepC repC at b1
 rw [i_Qax,dc_at b_Qax.eq_1]
 simp only [↓E1,E2,zA,zB,zC,zD,zE,zF,zG,zH,zI,zJ,zK,zL,zM,zN,reduceIte,zO,zP, *,E3]
 exact hk1
theorem Qsd {lo : Nat} {fz : Fz} {s : Nat} {o : Nat → Nat} {mu : St} {n : Nat} {r : Rep} {out : List Msg} {vd : Bool} {xe xa xs xd xo : SV} (S : SW lo fz s o mu n r out vd xe xa xs xd xo) (v : Int)
 {N : Nat} (hN : r.nodes = (N : Int)) (hN7 : N ≤ 7) (hl : out.length ≤ 900) {k : KT Prop} {w : WK k}
 (hk : ∀ mu' n' o' xa' xo',SW lo fz s o' mu' n' (Qf5 r v N) (out ++ allM r (Qek v) N) vd xe xa' .nsl .nsl xo' → Kp (· = 7) s o o' mu n mu' n' → k noVal mu' n') : CPh P n_Qaw [.one (.optr s 0),.one (I v)] fz mu n k w:=by
 refine CP_of H.Qaw H.mx 0 ?_
 obtain ⟨⟨xek,xem⟩,⟨xak,xam⟩,⟨xsk,xsm⟩,⟨xdk,xdm⟩,xok,xom⟩:=S.ks
 have hc:=S.cells
 have ws:=Qdl (fz:=fz) hc
 have S1:=S.put (r':={ r with view:=v,status:=1 }) (vd':=vd) rfl rfl rfl rfl
 have K1 : Kp (λ_=>False) s o o mu n _ n:=S.kput (c:=stepC { r with view:=v,status:=1 } xe xa xs xd xo vd)
 have hkH:=Hide.mk hk
 have hN':=Hide.mk hN
 clear hk hN
 rw [i_Qaw,dc_at b_Qaw.eq_1]
 unfold stepC repC at hc ws S1 K1
 simp only [↓E1,E2,zA,zB,zC,zD,zE,zF,zG,zH,zI,zJ,zK,zL,zM,zN,reduceIte,zO,zP, *,E3]
 refine Qoj H S1 hN'.out hN7 λm2 n2 o2 xa2 S2 K2=>?_
 simp only [↓E1,E2,zA,zB,zC,zD,zE,zF,zG,zH,zI,zJ,zK,zL,zM,zN,reduceIte,zO,zP, *,E3]
 refine (Qh0 H (s:=s)).q0 S2.free (Qdl S2.cells) ?_
 rintro _ n3 l3 rfl
 simp only [↓E1,E2,zA,zB,zC,zD,zE,zF,zG,zH,zI,zJ,zK,zL,zM,zN,reduceIte,zO,zP, *,E3]
 have hAll:=λ(k : KT Prop) (w : WK k)=>Qh7 H (S2.le l3) (Qek v) .nsl .nsl ⟨nilP _,nilE _⟩ (Qe9 v) hl (N:=N) hN'.out hN7 (k:=k) (w:=w)
 refine hAll _ _ λm4 n4 o4 xo4 S4 K4=>?_
 simp only [↓E1,E2,zA,zB,zC,zD,zE,zF,zG,zH,zI,zJ,zK,zL,zM,zN,reduceIte,zO,zP, *,E3]
 have K24 : Kp (· = 7) s o2 o4 m2 n2 m4 n4:=⟨Nat.le_trans l3 K4.le,λj hj=>K4.tags j (by omega),λj hj h1 h2=>K4.keep j (by omega) h1 h2⟩
 exact hkH.out _ _ _ _ _ S4 (((K1.trans K2).weaken (λt h=>h.elim)).trans K24)
end Go.Proofs.YtnnjlnkoomeadaaGreat.Pv
namespace Go.Proofs.YtnnjlnkoomeadaaGreat.Pv
open Go.Ev Go.Ev.Rp
set_option maxRecDepth 100000
set_option maxHeartbeats 4000000
variable {P : Program} (H : Fs P)
include H
theorem Qe6 (l : Lg) (x : SV) (hL : l.ents.length ≤ 2513169434916) (hb : ∀ e ∈ l.ents,e.batch.length ≤ 4398046511104) : Ctr P n_Qcq [.ag (lgC l x)] (λM=>EntsR M x l.ents) (λn _ M v=>∃ x',v = .ag (lgC l x') ∧ Grow n M 5 EntX x' l.ents):=Ctr.of H.mx H.Qcq (λ_=>l.ents.length + 1) λfz mu n k hfr s1 hk=>by
 obtain ⟨xl,xs,xk,xm⟩:=s1.len
 rw [i_Qcq,dc_at b_Qcq.eq_1]
 unfold lgC
 simp only [↓E1,E2,zA,zB,zC,zD,zE,zF,zG,zH,zI,zJ,zK,zL,zM,zN,reduceIte,zO,zP, *,E3]
 refine loopI (x:=0) (L:=l.ents.length) (p:=λ_=>true) (λi e mu' n'=>∃ xe,Gr n fz mu mu' n n' ∧ n + 3 ≤ n' ∧ Ev.look mu' n = some [I l.base,l.snap.sv,x] ∧ Ev.look mu' (n + 1) = some [I 0,.str 0 0,.nsl] ∧ Ev.look mu' (n + 1 + 1) = some [I l.base,l.snap.sv,xe] ∧ Grow (n + 3) (with' mu' fz) 5 EntX xe (l.ents.take i) ∧ e 0 1 = .one (.optr n 0) ∧ e 0 2 = .one (.optr (n + 1) 0) ∧ e 0 3 = .one (.optr (n + 1 + 1) 0) ∧ e 0 4 = .one (.int .i64 i)) (λ_ _ _=>False) ?_ ?_ _ _ _ _ _ (by omega) ?_ ?_ ?_
 ·rintro i e mu1 n1 K hi ⟨xe,g1,h3,c0,c1,c2,G,e1,e2,e3,e4⟩ hy hn
  have hY:=Hide.mk hy
  clear hy hn
  have hw:=Qdt hi (by omega)
  have u1:=g1.sub hfr (Nat.le_refl _)
  obtain ⟨id,off,cap,B,b,rfl,p1,p2,p3,p4,p5⟩:=(EntsR.mono u1 s1).elem hi
  obtain ⟨bl,bs,bk,bm⟩:=p5.len
  unfold entC at p4
  have w0:=Qdl (fz:=fz) c0
  have w2:=Qdl (fz:=fz) c2
  have hne : (n1 = n) = False:=by simp; omega
  have hne2 : (n1 = n + 1 + 1) = False:=by simp; omega
  have hne3 : (n1 + 1 = n1) = False:=by simp
  have hmem : l.ents[i] ∈ l.ents:=List.getElem_mem hi
  rw [dc_at l_Qcq_0.eq_1]
  simp only [↓E1,E2,zA,zB,zC,zD,zE,zF,zG,zH,zI,zJ,zK,zL,zM,zN,reduceIte,zO,zP, *,E3]
  have gE:=(Gr.refl (lo:=n1) g1.free).cons (Nat.le_refl _) [I l.ents[i].view,I l.ents[i].client,I l.ents[i].session,I l.ents[i].number,b]
  have uE:=gE.sub g1.free (Nat.le_refl _)
  have q5:=PtsR.mono uE p5
  obtain ⟨h1,h2⟩:=Qf4 (Sl.mono q5 (sub1 gE.free (c:=[])))
  rw [h1]; clear h1
  refine ⟨h2,Qf9 gE.free (Qef (by rw [List.length_map]; have:=hb _ hmem; omega) (by decide) (by decide)) pt_ok (λx' mu2 n2 g2 hx=>?_)⟩
  obtain ⟨xl2,xs2,xk2,xm2⟩:=SlX.len hx
  have l2:=g2.le
  have gF:=gE.trans (g2.weaken (by omega))
  have d1 : Ev.look mu2 n1 = some [I l.ents[i].view,I l.ents[i].client,I l.ents[i].session,I l.ents[i].number,b]:=(g2.own n1 (by omega)).trans (by rw [Qdw,if_pos rfl])
  have d2:=(gF.own (n + 1 + 1) (by omega)).trans c2
  have d0:=(gF.own n (by omega)).trans c0
  have wd1:=Qdl (fz:=fz) d1
  have wd2:=Qdl (fz:=fz) d2
  obtain ⟨-,-,xek,xem⟩:=G.len
  clear w0 w2
  simp only [↓E1,E2,zA,zB,zC,zD,zE,zF,zG,zH,zI,zJ,zK,zL,zM,zN,reduceIte,zO,zP, *,E3]
  have gP:=gF.put (id:=n1) (Nat.le_refl _) d1 (c:=[I l.ents[i].view,I l.ents[i].client,I l.ents[i].session,I l.ents[i].number,x'])
  have gG:=gP.cons (by omega) [I l.ents[i].view,I l.ents[i].client,I l.ents[i].session,I l.ents[i].number,x']
  have uG : Sub (From (n1 + 1) (with' mu2 fz)) (From n1 (with' ((n2,[I l.ents[i].view,I l.ents[i].client,I l.ents[i].session,I l.ents[i].number,x']) :: putS mu2 n1 [I l.ents[i].view,I l.ents[i].client,I l.ents[i].session,I l.ents[i].number,x']) fz)):=λj B hj=>by
   obtain ⟨h4,h5⟩:=From.el hj
   have h6:=g2.free.lt h5
   exact From.at (by omega) (by rw [Qed,if_neg (by omega),Qds d1,if_neg (by omega)]; exact h5)
  refine Grow.more (R:=EntX) (λh g=>EntX.mono h g) (a:=l.ents[i]) G g1.free h3 (λj hj=>hfr.fz j (by omega)) gG ⟨x',rfl,PtsX.mono uG hx⟩ ⟨rfl,by simp only [↓E1,E2,zA,zB,zC,zD,zE,zF,zG,zH,zI,zJ,zK,zL,zM,zN,reduceIte,zO,zP, *]⟩ (Qef (by rw [List.length_take]; omega) (by decide) (by decide)) (λmu3 g3 G3=>?_)
  have f2:=(g3.own (n + 1 + 1) (by omega)).trans c2
  have f1:=(g3.own (n + 1) (by omega)).trans c1
  have f0:=(g3.own n (by omega)).trans c0
  clear wd1 wd2 hx q5 p1
  simp only [↓E1,E2,zA,zB,zC,zD,zE,zF,zG,zH,zI,zJ,zK,zL,zM,zN,reduceIte,zO,zP, *,E3]
  refine hY.out rfl _ _ _ ⟨_,(g1.trans (g3.weaken (by omega))).put (by omega) f2,by omega,by rw [Qdm,if_neg (by omega)]; exact f0,by rw [Qdm,if_neg (by omega)]; exact f1,by rw [Qdm,if_pos rfl,f2]; rfl,Grow.mono (R:=EntX) (λh g=>EntX.mono h g) ?_ (From.put (by omega) f2),?_,?_,?_,?_⟩
  ·rw [List.take_succ_eq_append_getElem hi]; exact G3
  all_goals simp [updN,updE, *]
 ·rintro e mu1 n1 K ⟨xe,g1,h3,c0,c1,c2,G,e1,e2,e3,e4⟩ hx
  have hX:=Hide.mk hx
  clear hx
  have w0:=Qdl (fz:=fz) c0
  have hlt : ((l.ents.length : Int) < l.ents.length) = False:=by simp
  have hlt2 : (l.ents.length < l.ents.length) = False:=by simp
  rw [dc_at l_Qcq_0.eq_1]
  simp only [↓E1,E2,zA,zB,zC,zD,zE,zF,zG,zH,zI,zJ,zK,zL,zM,zN,reduceIte,zO,zP, *]
  exact hX.out _ _ _ ⟨xe,g1,h3,c0,c1,c2,G,by simp [updN,updE,e1],by simp [updN,updE,e2],by simp [updN,updE,e3],by simp [updN,updE,e4]⟩
 ·exact ⟨.nsl,gr3 hfr,by omega,by rw [Qdw,if_neg (by omega),Qdw,if_neg (by omega),Qdw,if_pos rfl],by simp [Qdw],by simp [Qdw],Grow.nil,by simp [updN,updE],by simp [updN,updE],by simp [updN,updE],by simp [updN,updE]⟩
 ·rintro - e1 mu1 n1 ⟨xe,g1,h3,c0,c1,c2,G,e1,e2,e3,e4⟩
  have b2:=Qdl (fz:=fz) c2
  obtain ⟨-,-,zk,zm⟩:=G.len
  rw [List.take_length] at G
  have g2:=g1.put (id:=n + 1) (by omega) c1 (c:=[I l.base,l.snap.sv,xe])
  have hk2:=hk _ _ _ g2 ⟨xe,rfl,Grow.weaken (R:=EntX) (lo:=n + 3) (lo':=n) (λh g=>EntX.mono h g) (by omega) (Grow.mono (R:=EntX) (λh g=>EntX.mono h g) G (From.put (by omega) c1))⟩
  unfold lgC at hk2
  clear hk
  have hne : (n + 1 = n + 1 + 1) = False:=by simp
  simp only [↓E1,E2,zA,zB,zC,zD,zE,zF,zG,zH,zI,zJ,zK,zL,zM,zN,reduceIte,zO,zP, *,E3]
 ·rintro ⟨_,_,_,h⟩; cases h
theorem ref4_CopyLog (l : Lg) (x : SV) (hL : l.ents.length ≤ 2513169434916) (hb : ∀ e ∈ l.ents,e.batch.length ≤ 4398046511104) : Ctr P n_Qcq [.ag (lgC l x)] (λM=>EntsR M x l.ents) (λn _ M v=>∃ x',v = .ag (lgC l x') ∧ EntsX (From n M) x' l.ents) :=
 (Qe6 H l x hL hb).mono λ_ _ _ _ ⟨x',h1,h2⟩=>⟨x',h1,Qke h2⟩
end Go.Proofs.YtnnjlnkoomeadaaGreat.Pv
namespace Go.Proofs.YtnnjlnkoomeadaaGreat.Pv
open Go.Ev Go.Ev.Rp
set_option maxRecDepth 100000
set_option maxHeartbeats 4000000
def tx00 : Tx:=⟨0,0,by decide⟩
def dv0 : Dv:=⟨0,0,0,⟨0,tx00,[]⟩⟩
def Qgf (a b : Dv) : Bool:=if a.normal = b.normal then (if last a.log = last b.log then decide (a.frm < b.frm) else decide (last b.log < last a.log)) else decide (b.normal < a.normal)
def Qe2 (l : List Dv) : Nat → Nat
 | 0=>0
 | i + 1=>if Qgf (l.getD i dv0) (l.getD (Qe2 l i) dv0) then i else Qe2 l i
theorem Qrx (l : List Dv) : Qe2 l 1 = 0:=by simp [Qe2]
theorem Qjb {l : List Dv} (h : 0 < l.length) : ∀ {i : Nat},i ≤ l.length → Qe2 l i < l.length
 | 0,_=>h
 | i + 1,hi=>by
  unfold Qe2
  split
  ·omega
  ·exact Qjb h (by omega)
variable {P : Program} (H : Fs P)
include H
theorem choose_Better (a b : Dv) (x y : SV) : BoolC P n_Qch [.ag (dvC a x),.ag (dvC b y)] (λM=>EntsR M x a.log.ents ∧ EntsR M y b.log.ents) (Qgf a b):=boolC H.mx H.Qch 0 λfz mu n k hfr gg s h=>by
 obtain ⟨s1,s2⟩:=s
 obtain ⟨-,-,xk,xm⟩:=s1.len
 obtain ⟨-,-,yk,ym⟩:=s2.len
 have hL1:=choose_Last H a.log x
 have hL2:=choose_Last H b.log y
 obtain ⟨bb,hbb⟩ : ∃ bb,Qgf a b = bb:=⟨_,rfl⟩
 rw [hbb] at h
 unfold Qgf at hbb
 unfold lgC at hL1 hL2
 rw [i_Qch,dc_at b_Qch.eq_1]
 unfold dvC
 have hH:=Hide.mk h
 clear h
 have g1:=((Gr.refl (lo:=n) hfr).cons (Nat.le_refl _) [I a.frm,I a.normal,I a.commit,I a.log.base,a.log.snap.sv,x]).cons (by omega) [I b.frm,I b.normal,I b.commit,I b.log.base,b.log.snap.sv,y]
 have u1:=g1.sub hfr (Nat.le_refl _)
 have hbH:=Hide.mk hbb
 clear hbb
 simp only [↓E1,E2,zA,zB,zC,zD,zE,zF,zG,zH,zI,zJ,zK,zL,zM,zN,reduceIte,zO,zP, *]
 refine hL1.q1 g1.free (EntsR.mono u1 s1) ?_
 rintro v n2 l2 rfl
 simp only [↓E1,E2,zA,zB,zC,zD,zE,zF,zG,zH,zI,zJ,zK,zL,zM,zN,reduceIte,zO,zP, *]
 refine hL2.q1 (g1.free.le l2) (EntsR.mono u1 s2) ?_
 rintro v n3 l3 rfl
 have g3:=(g1.le2 l2).le2 l3
 simp only [↓E1,E2,zA,zB,zC,zD,zE,zF,zG,zH,zI,zJ,zK,zL,zM,zN,reduceIte,zO,zP, *]
 refine Qdv (λhb=>?_) (λhb=>?_)
 ·have h1:=hbH.out
  rw [if_pos (by simpa using hb)] at h1
  have h1H:=Hide.mk h1
  clear h1
  clear hb
  simp only [↓E1,E2,zA,zB,zC,zD,zE,zF,zG,zH,zI,zJ,zK,zL,zM,zN,reduceIte,zO,zP, *]
  refine Qdv (λhb=>?_) (λhb=>?_)
  ·have h2:=h1H.out
   rw [if_pos (by simpa using hb)] at h2
   simp only [↓E1,E2,zA,zB,zC,zD,zE,zF,zG,zH,zI,zJ,zK,zL,zM,zN,reduceIte,zO,zP, *]
   exact leafB hH.out g3 (by first | exact h2 | rfl)
  ·have h2:=h1H.out
   rw [if_neg (by simpa using hb)] at h2
   simp only [↓E1,E2,zA,zB,zC,zD,zE,zF,zG,zH,zI,zJ,zK,zL,zM,zN,reduceIte,zO,zP, *]
   exact leafB hH.out g3 (by first | exact h2 | rfl)
 ·have h2:=hbH.out
  rw [if_neg (by simpa using hb)] at h2
  simp only [↓E1,E2,zA,zB,zC,zD,zE,zF,zG,zH,zI,zJ,zK,zL,zM,zN,reduceIte,zO,zP, *]
  exact leafB hH.out g3 (by first | exact h2 | rfl)
theorem ref16_Better (a b : Dv) (x y : SV) : BoolC P n_Qct [.ag (dvC a x),.ag (dvC b y)] (λM=>EntsR M x a.log.ents ∧ EntsR M y b.log.ents) (Qgf a b):=boolC H.mx H.Qct 0 λfz mu n k hfr gg s h=>by
 obtain ⟨s1,s2⟩:=s
 obtain ⟨-,-,xk,xm⟩:=s1.len
 obtain ⟨-,-,yk,ym⟩:=s2.len
 have hL1:=ref16_Last H a.log x
 have hL2:=ref16_Last H b.log y
 obtain ⟨bb,hbb⟩ : ∃ bb,Qgf a b = bb:=⟨_,rfl⟩
 rw [hbb] at h
 unfold Qgf at hbb
 unfold lgC at hL1 hL2
 rw [i_Qct,dc_at b_Qct.eq_1]
 unfold dvC
 have hH:=Hide.mk h
 have hbH:=Hide.mk hbb
 clear h hbb
 have g1:=((Gr.refl (lo:=n) hfr).cons (Nat.le_refl _) [I a.frm,I a.normal,I a.commit,I a.log.base,a.log.snap.sv,x]).cons (by omega) [I b.frm,I b.normal,I b.commit,I b.log.base,b.log.snap.sv,y]
 have u1:=g1.sub hfr (Nat.le_refl _)
 simp only [↓E1,E2,zA,zB,zC,zD,zE,zF,zG,zH,zI,zJ,zK,zL,zM,zN,reduceIte,zO,zP, *]
 refine Qdv (λhb=>?_) (λhb=>?_)
 ·have h1:=hbH.out
  rw [if_pos (by simpa using hb)] at h1
  have h1H:=Hide.mk h1
  clear h1
  simp only [↓E1,E2,zA,zB,zC,zD,zE,zF,zG,zH,zI,zJ,zK,zL,zM,zN,reduceIte,zO,zP,hb]
  refine hL1.q1 g1.free (EntsR.mono u1 s1) ?_
  rintro v n2 l2 rfl
  simp only [↓E1,E2,zA,zB,zC,zD,zE,zF,zG,zH,zI,zJ,zK,zL,zM,zN,reduceIte,zO,zP, *]
  refine hL2.q1 (g1.free.le l2) (EntsR.mono u1 s2) ?_
  rintro v n3 l3 rfl
  have g3:=(g1.le2 l2).le2 l3
  simp only [↓E1,E2,zA,zB,zC,zD,zE,zF,zG,zH,zI,zJ,zK,zL,zM,zN,reduceIte,zO,zP, *]
  clear hb
  refine Qdv (λhb=>?_) (λhb=>?_)
  ·have h2:=h1H.out
   rw [if_pos (by simpa using hb)] at h2
   simp only [↓E1,E2,zA,zB,zC,zD,zE,zF,zG,zH,zI,zJ,zK,zL,zM,zN,reduceIte,zO,zP, *]
   exact leafB hH.out g3 (by first | exact h2 | rfl)
  ·have h2:=h1H.out
   rw [if_neg (by simpa using hb)] at h2
   have h2H:=Hide.mk h2
   clear h2
   simp only [↓E1,E2,zA,zB,zC,zD,zE,zF,zG,zH,zI,zJ,zK,zL,zM,zN,reduceIte,zO,zP, *]
   refine hL1.q1 g3.free (EntsR.mono u1 s1) ?_
   rintro v n4 l4 rfl
   simp only [↓E1,E2,zA,zB,zC,zD,zE,zF,zG,zH,zI,zJ,zK,zL,zM,zN,reduceIte,zO,zP, *]
   refine hL2.q1 (g3.free.le l4) (EntsR.mono u1 s2) ?_
   rintro v n5 l5 rfl
   have g5:=(g3.le2 l4).le2 l5
   simp only [↓E1,E2,zA,zB,zC,zD,zE,zF,zG,zH,zI,zJ,zK,zL,zM,zN,reduceIte,zO,zP, *]
   exact leafB hH.out g5 (by first | exact h2H.out | rfl)
 ·have h2:=hbH.out
  rw [if_neg (by simpa using hb)] at h2
  simp only [↓E1,E2,zA,zB,zC,zD,zE,zF,zG,zH,zI,zJ,zK,zL,zM,zN,reduceIte,zO,zP, *]
  exact leafB hH.out g1 (by first | exact h2 | rfl)
theorem choose_Best (x : SV) (l : List Dv) (hl : l.length ≤ 4611686018427387904) (h0 : 0 < l.length) : Ctr P n_Qc2 [.one x] (λM=>DvsR M x l) (λ_ _ _ v=>v = .tp [.one (I (Qe2 l l.length : Nat)),.one (I 0)]):=Ctr.of H.mx H.Qc2 (λ_=>l.length + 1) λfz mu n k hfr s1 hk=>by
 obtain ⟨xl,xs,xk,xm⟩:=s1.len
 have hne : ((l.length : Int) = 0) = False:=by simp only [eq_iff_iff,iff_false]; omega
 rw [i_Qc2,dc_at b_Qc2.eq_1]
 have hkH:=Hide.mk hk
 clear hk
 simp only [↓E1,E2,zA,zB,zC,zD,zE,zF,zG,zH,zI,zJ,zK,zL,zM,zN,reduceIte,zO,zP, *]
 refine loopI (x:=0) (L:=l.length) (p:=λ_=>true) (λi e mu' n'=>mu' = mu ∧ n ≤ n' ∧ e 0 0 = .one x ∧ e 0 4 = .one (I (Qe2 l i : Nat)) ∧ e 0 10 = .one (I (l.length : Nat)) ∧ e 0 11 = .one (I (i : Nat))) (λ_ _ _=>False) ?_ ?_ _ _ _ _ _ (by omega) ?_ ?_ (by rintro ⟨_,_,_,h⟩; cases h)
 ·rintro i e mu1 n1 K hi ⟨rfl,l1,e0,e4,e10,e11⟩ hy hn
  have hY:=Hide.mk hy
  clear hy hn
  have hw:=Qdt hi hl
  obtain ⟨bi,hbi⟩ : ∃ bi,Qe2 l i = bi:=⟨_,rfl⟩
  have hbl : bi < l.length:=by rw [← hbi]; exact Qjb h0 (Nat.le_of_lt hi)
  have hsucc : Qe2 l (i + 1) = if Qgf l[i] l[bi] then i else bi:=by
   rw [Qe2,hbi,List.getD_eq_getElem?_getD,List.getElem?_eq_getElem hi,List.getD_eq_getElem?_getD,List.getElem?_eq_getElem hbl]; rfl
  rw [hbi] at e4
  clear hbi
  obtain ⟨id,off,cap,B,y,rfl,p1,p2,p3,p4,p5⟩:=s1.elem hi
  obtain ⟨id',off',cap',B',y',q0,q1,q2,q3,q4,q5⟩:=s1.elem hbl
  cases q0
  obtain rfl : B = B':=by rw [p1] at q1; cases q1; rfl
  clear q1 q2
  have hBt:=choose_Better H l[i] l[bi] y y'
  obtain ⟨-,-,yk,ym⟩:=p5.len
  obtain ⟨-,-,yk',ym'⟩:=q5.len
  unfold dvC at hBt p4 q4
  have hc1 : (bi : Int) < (l.length : Int):=by omega
  rw [dc_at l_Qc2_0.eq_1]
  simp only [↓E1,E2,zA,zB,zC,zD,zE,zF,zG,zH,zI,zJ,zK,zL,zM,zN,reduceIte,zO,zP, *]
  refine hBt.q1 (hfr.le l1) ⟨p5,q5⟩ ?_
  rintro v n2 l2 rfl
  simp only [↓E1,E2,zA,zB,zC,zD,zE,zF,zG,zH,zI,zJ,zK,zL,zM,zN,reduceIte,zO,zP, *]
  refine Qdv (λhb=>?_) (λhb=>?_)
  ·have hb' : Qgf l[i] l[bi] = true:=by simpa using hb
   simp only [↓E1,E2,zA,zB,zC,zD,zE,zF,zG,zH,zI,zJ,zK,zL,zM,zN,reduceIte,zO,zP, *]
   refine hY.out rfl _ _ _ ⟨rfl,by omega,?_,?_,?_,?_⟩
   all_goals simp [updN,updE, *]
  ·have hb' : Qgf l[i] l[bi] = false:=by simpa using hb
   simp only [↓E1,E2,zA,zB,zC,zD,zE,zF,zG,zH,zI,zJ,zK,zL,zM,zN,reduceIte,zO,zP, *]
   refine hY.out rfl _ _ _ ⟨rfl,by omega,?_,?_,?_,?_⟩
   all_goals simp [updN,updE, *]
 ·rintro e mu1 n1 K ⟨rfl,l1,e0,e4,e10,e11⟩ hx
  have hX:=Hide.mk hx
  clear hx
  have hlt : ((l.length : Int) < l.length) = False:=by simp
  have hlt2 : (l.length < l.length) = False:=by simp
  rw [dc_at l_Qc2_0.eq_1]
  simp only [↓E1,E2,zA,zB,zC,zD,zE,zF,zG,zH,zI,zJ,zK,zL,zM,zN,reduceIte,zO,zP, *]
  refine hX.out _ _ _ ⟨rfl,l1,?_,?_,?_,?_⟩
  all_goals simp [updN,updE, *]
 ·refine ⟨rfl,Nat.le_refl _,?_,?_,?_,?_⟩
  all_goals simp [updN,updE,envI,Qe2]
 ·rintro - e mu1 n1 ⟨rfl,l1,e0,e4,e10,e11⟩
  simp only [↓E1,E2,zA,zB,zC,zD,zE,zF,zG,zH,zI,zJ,zK,zL,zM,zN,reduceIte,zO,zP, *]
  exact hkH.out _ _ _ ((Gr.refl hfr).le2 l1) rfl
theorem ref16_Best (x : SV) (l : List Dv) (hl : l.length ≤ 4611686018427387904) (h0 : 0 < l.length) : Ctr P n_Qdc [.one x] (λM=>DvsR M x l) (λ_ _ _ v=>v = .tp [.one (I (Qe2 l l.length : Nat)),.one (I 0)]):=Ctr.of H.mx H.Qdc (λ_=>l.length + 1) λfz mu n k hfr s1 hk=>by
 obtain ⟨xl,xs,xk,xm⟩:=s1.len
 have hne : ((l.length : Int) = 0) = False:=by simp only [eq_iff_iff,iff_false]; omega
 rw [i_Qdc,dc_at b_Qdc.eq_1]
 have hkH:=Hide.mk hk
 clear hk
 simp only [↓E1,E2,zA,zB,zC,zD,zE,zF,zG,zH,zI,zJ,zK,zL,zM,zN,reduceIte,zO,zP, *]
 obtain ⟨L,hL⟩ : ∃ L,l.length = L + 1:=⟨l.length - 1,by omega⟩
 refine loopI (x:=0) (L:=L) (p:=λ_=>true) (λi e mu' n'=>mu' = mu ∧ n ≤ n' ∧ e 0 0 = .one x ∧ e 0 4 = .one (I (Qe2 l (i + 1) : Nat)) ∧ e 0 5 = .one (I ((i + 1 : Nat) : Int))) (λ_ _ _=>False) ?_ ?_ _ _ _ _ _ (by omega) ?_ ?_ (by rintro ⟨_,_,_,h⟩; cases h)
 ·rintro i e mu1 n1 K hi ⟨rfl,l1,e0,e4,e5⟩ hy hn
  have hY:=Hide.mk hy
  clear hy hn
  obtain ⟨j,hj⟩ : ∃ j,i + 1 = j:=⟨_,rfl⟩
  rw [hj] at e4 e5
  have hi1 : j < l.length:=by omega
  have hw:=Qdt hi1 hl
  obtain ⟨bi,hbi⟩ : ∃ bi,Qe2 l j = bi:=⟨_,rfl⟩
  have hbl : bi < l.length:=by rw [← hbi]; exact Qjb h0 (Nat.le_of_lt hi1)
  have hsucc : Qe2 l (j + 1) = if Qgf l[j] l[bi] then j else bi:=by
   rw [Qe2,hbi,List.getD_eq_getElem?_getD,List.getElem?_eq_getElem hi1,List.getD_eq_getElem?_getD,List.getElem?_eq_getElem hbl]; rfl
  rw [hbi] at e4
  clear hbi
  obtain ⟨id,off,cap,B,y,rfl,p1,p2,p3,p4,p5⟩:=s1.elem hi1
  obtain ⟨id',off',cap',B',y',q0,q1,q2,q3,q4,q5⟩:=s1.elem hbl
  cases q0
  obtain rfl : B = B':=by rw [p1] at q1; cases q1; rfl
  clear q1 q2
  have hBt:=ref16_Better H l[j] l[bi] y y'
  obtain ⟨-,-,yk,ym⟩:=p5.len
  obtain ⟨-,-,yk',ym'⟩:=q5.len
  unfold dvC at hBt p4 q4
  have hc0 : (j : Int) < (l.length : Int):=by omega
  have hc1 : (bi : Int) < (l.length : Int):=by omega
  have hjH:=Hide.mk hj
  clear hL hi hj
  rw [dc_at l_Qdc_0.eq_1]
  simp only [↓E1,E2,zA,zB,zC,zD,zE,zF,zG,zH,zI,zJ,zK,zL,zM,zN,reduceIte,zO,zP, *]
  refine hBt.q1 (hfr.le l1) ⟨p5,q5⟩ ?_
  rintro v n2 l2 rfl
  simp only [↓E1,E2,zA,zB,zC,zD,zE,zF,zG,zH,zI,zJ,zK,zL,zM,zN,reduceIte,zO,zP, *]
  refine Qdv (λhb=>?_) (λhb=>?_)
  ·simp only [↓E1,E2,zA,zB,zC,zD,zE,zF,zG,zH,zI,zJ,zK,zL,zM,zN,reduceIte,zO,zP, *]
   refine hY.out rfl _ _ _ ⟨rfl,by omega,?_,?_,?_⟩
   all_goals (try rw [hjH.out]); simp [updN,updE, *]
  ·simp only [↓E1,E2,zA,zB,zC,zD,zE,zF,zG,zH,zI,zJ,zK,zL,zM,zN,reduceIte,zO,zP, *]
   refine hY.out rfl _ _ _ ⟨rfl,by omega,?_,?_,?_⟩
   all_goals (try rw [hjH.out]); simp [updN,updE, *]
 ·rintro e mu1 n1 K ⟨rfl,l1,e0,e4,e5⟩ hx
  have hX:=Hide.mk hx
  clear hx
  rw [← hL] at e4 e5
  have hlt : ((l.length : Int) < l.length) = False:=by simp
  have hlt2 : (l.length < l.length) = False:=by simp
  rw [dc_at l_Qdc_0.eq_1]
  have hL':=Hide.mk hL
  clear hL
  simp only [↓E1,E2,zA,zB,zC,zD,zE,zF,zG,zH,zI,zJ,zK,zL,zM,zN,reduceIte,zO,zP, *]
  refine hX.out _ _ _ ⟨rfl,l1,?_,?_,?_⟩
  all_goals (try rw [← hL'.out]); simp [updN,updE, *]
 ·refine ⟨rfl,Nat.le_refl _,?_,?_,?_⟩
  all_goals simp [updN,updE,envI,Qrx]
 ·rintro - e mu1 n1 ⟨rfl,l1,e0,e4,e5⟩
  rw [← hL] at e4
  simp only [↓E1,E2,zA,zB,zC,zD,zE,zF,zG,zH,zI,zJ,zK,zL,zM,zN,reduceIte,zO,zP, *]
  rw [← hL]
  exact hkH.out _ _ _ ((Gr.refl hfr).le2 l1) rfl
end Go.Proofs.YtnnjlnkoomeadaaGreat.Pv
namespace Go.Proofs.YtnnjlnkoomeadaaGreat.Pv
open Go.Ev Go.Ev.Rp
set_option maxRecDepth 100000
set_option maxHeartbeats 4000000
theorem Qos {s : Nat} : ∀ {es : List (List SV)} {k : Nat},(∀ e ∈ es,e.length = s) → k ≤ es.length → (es.drop k).flatten = es.flatten.drop (k * s)
 | es,0,_,_=>by simp
 | [],k + 1,_,h=>by simp at h
 | a :: es,k + 1,he,h=>by
  have ha:=he a (by simp)
  have:=Qos (es:=es) (k:=k) (λe h=>he e (by simp [h])) (by simpa using h)
  rw [List.drop_succ_cons,this,List.flatten_cons,Nat.succ_mul,Nat.add_comm (k * s) s,← List.drop_drop,← ha,List.drop_left]
theorem Sl.from {M : Fz} {s : Nat} {x : SV} {es : List (List SV)} (h : Sl M s x es) {k : Nat} (hk : k ≤ es.length) (hp : 0 < k) : ∃ y, Qfb s x (some (.one (.int .i64 (k : Int)))) none none = some y ∧ Sl M s y (es.drop k) := by
 rcases h with ⟨h,rfl⟩ | ⟨id,off,cap,B,rfl,h2,h3,h4,h5,h6,h7⟩
 ·simp at hk; omega
 ·have hb : bound (some (AV.one (.int .i64 (k : Int)))) 0 = some k:=by
   have : ¬ (k : Int) < 0:=by omega
   simp [bound,this]
  have hb2 : bound none es.length = some es.length:=rfl
  have hle : es.length * s = k * s + (es.length - k) * s:=by rw [← Nat.add_mul]; congr 1; omega
  by_cases hc : k < cap
  ·refine ⟨.osl id (off + k * s) (es.length - k) (cap - k) s,?_,.inr ⟨id,off + k * s,cap - k,B,?_,?_,h3,h4,?_,?_,λe he=>h7 e (List.mem_of_mem_drop he)⟩⟩
   ·unfold Qfb
    have e1 : Nat.beq s s = true:=by simp
    have e2 : Nat.ble es.length cap = true:=Nat.ble_eq_true_of_le h2
    have e3 : Nat.ble k es.length = true:=Nat.ble_eq_true_of_le hk
    have e4 : Nat.blt k cap = true:=by rw [Nat.blt_eq]; exact hc
    simp only [e1,hb,hb2,e2,e3,e4,Bool.not_true,Bool.and_self,Bool.true_or,if_true,if_false,Bool.false_eq_true]
   ·rw [List.length_drop]
   ·rw [List.length_drop]; omega
   ·rw [List.length_drop]; omega
   ·rw [List.length_drop,Qos (λe he=>(h7 e he).1) hk,← h6,List.drop_take,List.drop_drop,hle]
    congr 1
    omega
  ·have hk2 : k = es.length:=by omega
   refine ⟨.zsl,?_,.inl ⟨.inr (.inr rfl),by rw [hk2]; exact List.drop_length⟩⟩
   unfold Qfb
   have e1 : Nat.beq s s = true:=by simp
   have e2 : Nat.ble es.length cap = true:=Nat.ble_eq_true_of_le h2
   have e3 : Nat.ble k es.length = true:=Nat.ble_eq_true_of_le hk
   have e4 : Nat.blt k cap = false:=by cases e : Nat.blt k cap with
    | false=>rfl
    | true=>rw [Nat.blt_eq] at e; omega
   have e5 : Nat.beq k 0 = false:=by cases e : Nat.beq k 0 with
    | false=>rfl
    | true=>have:=Nat.eq_of_beq_eq_true e; omega
   simp only [e1,hb,hb2,e2,e3,e4,e5,Bool.not_true,Bool.and_self,Bool.or_self,Bool.true_or,if_true,if_false,Bool.false_eq_true]
theorem All2.drop {α β : Type} {R : α → β → Prop} : ∀ {x : List α} {y : List β} {k : Nat},All2 R x y → All2 R (x.drop k) (y.drop k)
 | [],[],k,_=>by simp only [List.drop_nil]; exact trivial
 | a :: x,b :: y,0,h=>h
 | a :: x,b :: y,k + 1,h=>All2.drop (x:=x) (y:=y) (k:=k) h.2
 | [],_ :: _,_,h=>h.elim
 | _ :: _,[],_,h=>h.elim
theorem EntsR.from {M : Fz} {x : SV} {l : List Ent} (h : EntsR M x l) {k : Nat} (hk : k ≤ l.length) (hp : 0 < k) : ∃ y,Qfb 5 x (some (.one (.int .i64 (k : Int)))) none none = some y ∧ EntsR M y (l.drop k):=by
 obtain ⟨cs,h1,h2⟩:=h
 obtain ⟨y,h3,h4⟩:=Sl.from h1 (k:=k) (by rw [h2.length]; exact hk) hp
 exact ⟨y,h3,cs.drop k,h4,All2.drop h2⟩
def instL (own got : Lg) : Option Lg:=if lgB own && lgB got && !decide (last got < own.base) then some (if own.base ≤ got.base then got else { base:=own.base,snap:=own.snap,ents:=got.ents.drop (own.base - got.base).toNat }) else none
theorem Qjq {l : Lg} (h : lgB l = true) : 0 ≤ l.base ∧ l.base ≤ 2147483647 ∧ l.ents.length ≤ 4096:=by
 unfold lgB countB at h
 simp only [Bool.and_eq_true,decide_eq_true_eq] at h
 exact ⟨h.1.1.1.1.1,h.1.1.1.1.2,h.1.2⟩
theorem Qs7 {l : Lg} (h : lgB l = true) : last l = l.base + l.ents.length:=by
 obtain ⟨h1,h2,h3⟩:=Qjq h
 unfold last
 rw [wrap64 (by omega) (by omega)]
def InstP (own got : Lg) (n : Nat) (M : Fz) (v : AV) : Prop:=(∃ l x',instL own got = some l ∧ v = .tp [.ag (lgC l x'),.one (I 0)] ∧ Grow n M 5 EntX x' l.ents) ∨ (instL own got = none ∧ v = .tp [.ag [I 0,.str 0 0,.nsl],.one (I 1601)])
theorem inst_cases (own got : Lg) : (lgB own = false ∧ instL own got = none) ∨ (lgB own = true ∧ lgB got = false ∧ instL own got = none) ∨ (lgB own = true ∧ lgB got = true ∧ decide (last got < own.base) = true ∧ instL own got = none) ∨
 (lgB own = true ∧ lgB got = true ∧ decide (last got < own.base) = false ∧ decide (own.base ≤ got.base) = true ∧ instL own got = some got) ∨
 (lgB own = true ∧ lgB got = true ∧ decide (last got < own.base) = false ∧ decide (own.base ≤ got.base) = false ∧ ∃ k : Nat,own.base - got.base = (k : Int) ∧ IntKind.i64.wrap (own.base - got.base) = (k : Int) ∧ 0 < k ∧ k ≤ got.ents.length ∧ instL own got = some { base:=own.base,snap:=own.snap,ents:=got.ents.drop k }):=by
 unfold instL
 cases h1 : lgB own
 ·exact .inl ⟨rfl,by simp⟩
 cases h2 : lgB got
 ·exact .inr (.inl ⟨rfl,rfl,by simp⟩)
 cases h3 : decide (last got < own.base)
 ·cases h4 : decide (own.base ≤ got.base)
  ·refine .inr (.inr (.inr (.inr ⟨rfl,rfl,rfl,rfl,(own.base - got.base).toNat,?_⟩)))
   have h5:=of_decide_eq_false h4
   have h6:=of_decide_eq_false h3
   rw [Qs7 h2] at h6
   obtain ⟨a1,a2,a3⟩:=Qjq h1
   obtain ⟨b1,b2,b3⟩:=Qjq h2
   refine ⟨by omega,by rw [wrap64 (by omega) (by omega)]; omega,by omega,by omega,?_⟩
   rw [if_pos (by simp),if_neg h5]
  ·refine .inr (.inr (.inr (.inl ⟨rfl,rfl,rfl,rfl,?_⟩)))
   rw [if_pos (by simp),if_pos (of_decide_eq_true h4)]
 ·exact .inr (.inr (.inl ⟨rfl,rfl,rfl,by simp⟩))
variable {P : Program} (H : Fs P)
include H
theorem choose_Install (own got : Lg) (x y : SV) (hz : LgSz got) : Ctr P n_Qb2 [.ag (lgC own x),.ag (lgC got y)] (λM=>EntsR M x own.ents ∧ EntsR M y got.ents) (λn _ M v=>InstP own got n M v):=Ctr.of H.mx H.Qb2 (λ_=>0) λfz mu n k hfr s hk=>by
 obtain ⟨s1,s2⟩:=s
 obtain ⟨-,-,xk,xm⟩:=s1.len
 obtain ⟨-,-,yk,ym⟩:=s2.len
 have hM1:=message_MayLog H own x
 have hM2:=message_MayLog H got y
 have hL:=choose_Last H got y
 have hkH:=Hide.mk hk
 clear hk
 have g1:=(((Gr.refl (lo:=n) hfr).cons (Nat.le_refl _) [I own.base,own.snap.sv,x]).cons (by omega) [I got.base,got.snap.sv,y]).cons (by omega) [I 0,.str 0 0,.nsl]
 have u1:=g1.sub hfr (Nat.le_refl _)
 have c3 : Ev.look ((n + 1 + 1,[I 0,.str 0 0,.nsl]) :: (n + 1,[I got.base,got.snap.sv,y]) :: (n,[I own.base,own.snap.sv,x]) :: mu) (n + 1 + 1) = some [I 0,.str 0 0,.nsl]:=by rw [Qdw,if_pos rfl]
 unfold lgC at hM1 hM2 hL ⊢
 rw [i_Qb2,dc_at b_Qb2.eq_1]
 rcases inst_cases own got with ⟨h1,hI⟩ | ⟨h1,h2,hI⟩ | ⟨h1,h2,h3,hI⟩ | ⟨h1,h2,h3,h4,hI⟩ | ⟨h1,h2,h3,h4,j,hj,hw,hj0,hjl,hI⟩
 ·have hkk:=λn' hn=>hkH.out _ _ n' (g1.le2 hn) (.inr ⟨hI,rfl⟩)
  clear hI
  simp only [↓E1,E2,zA,zB,zC,zD,zE,zF,zG,zH,zI,zJ,zK,zL,zM,zN,reduceIte,zO,zP, *]
  refine hM1.q1 g1.free (EntsR.mono u1 s1) ?_
  rintro v n2 l2 rfl
  simp only [↓E1,E2,zA,zB,zC,zD,zE,zF,zG,zH,zI,zJ,zK,zL,zM,zN,reduceIte,zO,zP, *,E3]
  all_goals exact hkk _ l2
 ·have hkk:=λn' hn=>hkH.out _ _ n' (g1.le2 hn) (.inr ⟨hI,rfl⟩)
  clear hI
  simp only [↓E1,E2,zA,zB,zC,zD,zE,zF,zG,zH,zI,zJ,zK,zL,zM,zN,reduceIte,zO,zP, *]
  refine hM1.q1 g1.free (EntsR.mono u1 s1) ?_
  rintro v n2 l2 rfl
  simp only [↓E1,E2,zA,zB,zC,zD,zE,zF,zG,zH,zI,zJ,zK,zL,zM,zN,reduceIte,zO,zP, *,E3]
  refine hM2.q1 (g1.free.le l2) (EntsR.mono u1 s2) ?_
  rintro v n3 l3 rfl
  simp only [↓E1,E2,zA,zB,zC,zD,zE,zF,zG,zH,zI,zJ,zK,zL,zM,zN,reduceIte,zO,zP, *,E3]
  exact hkk _ (by omega)
 ·have hkk:=λn' hn=>hkH.out _ _ n' (g1.le2 hn) (.inr ⟨hI,rfl⟩)
  clear hI
  simp only [↓E1,E2,zA,zB,zC,zD,zE,zF,zG,zH,zI,zJ,zK,zL,zM,zN,reduceIte,zO,zP, *]
  refine hM1.q1 g1.free (EntsR.mono u1 s1) ?_
  rintro v n2 l2 rfl
  simp only [↓E1,E2,zA,zB,zC,zD,zE,zF,zG,zH,zI,zJ,zK,zL,zM,zN,reduceIte,zO,zP, *,E3]
  refine hM2.q1 (g1.free.le l2) (EntsR.mono u1 s2) ?_
  rintro v n3 l3 rfl
  simp only [↓E1,E2,zA,zB,zC,zD,zE,zF,zG,zH,zI,zJ,zK,zL,zM,zN,reduceIte,zO,zP, *,E3]
  refine hL.q1 ((g1.free.le l2).le l3) (EntsR.mono u1 s2) ?_
  rintro v n4 l4 rfl
  simp only [↓E1,E2,zA,zB,zC,zD,zE,zF,zG,zH,zI,zJ,zK,zL,zM,zN,reduceIte,zO,zP, *,E3]
  exact hkk _ (by omega)
 ·have hC:=Qer H got y hz.ents hz.bat
  unfold lgC at hC
  have hIH:=Hide.mk hI
  clear hI
  simp only [↓E1,E2,zA,zB,zC,zD,zE,zF,zG,zH,zI,zJ,zK,zL,zM,zN,reduceIte,zO,zP, *]
  refine hM1.q1 g1.free (EntsR.mono u1 s1) ?_
  rintro v n2 l2 rfl
  simp only [↓E1,E2,zA,zB,zC,zD,zE,zF,zG,zH,zI,zJ,zK,zL,zM,zN,reduceIte,zO,zP, *,E3]
  refine hM2.q1 (g1.free.le l2) (EntsR.mono u1 s2) ?_
  rintro v n3 l3 rfl
  simp only [↓E1,E2,zA,zB,zC,zD,zE,zF,zG,zH,zI,zJ,zK,zL,zM,zN,reduceIte,zO,zP, *,E3]
  refine hL.q1 ((g1.free.le l2).le l3) (EntsR.mono u1 s2) ?_
  rintro v n4 l4 rfl
  have g4:=g1.le2 (show n + 1 + 1 + 1 ≤ n4 by omega)
  simp only [↓E1,E2,zA,zB,zC,zD,zE,zF,zG,zH,zI,zJ,zK,zL,zM,zN,reduceIte,zO,zP, *,E3]
  refine hC.c1 g4.free (EntsR.mono u1 s2) ?_
  rintro v m5 n5 g5 ⟨x',rfl,hG⟩
  have l5:=g5.le
  obtain ⟨-,-,zk,zm⟩:=hG.len
  have d3:=(g5.own (n + 1 + 1) (by omega)).trans c3
  have w3:=Qdl (fz:=fz) d3
  have gz:=(g4.trans (g5.weaken (by omega))).put (id:=n + 1 + 1) (by omega) d3 (c:=[I got.base,got.snap.sv,x'])
  have hG2:=Grow.weaken (R:=EntX) (lo':=n) (λh g=>EntX.mono h g) (by omega) (Grow.mono (R:=EntX) (λh g=>EntX.mono h g) hG (From.put (fz:=fz) (d':=[I got.base,got.snap.sv,x']) (show n + 1 + 1 < n4 by omega) d3))
  simp only [↓E1,E2,zA,zB,zC,zD,zE,zF,zG,zH,zI,zJ,zK,zL,zM,zN,reduceIte,zO,zP, *,E3]
  exact hkH.out _ _ _ gz (.inl ⟨_,x',hIH.out,rfl,hG2⟩)
 ·obtain ⟨y',hy',sy⟩:=EntsR.from s2 hjl hj0
  obtain ⟨-,-,yk',ym'⟩:=sy.len
  have hC:=Qer H { base:=own.base,snap:=own.snap,ents:=got.ents.drop j } y' (by have:=hz.ents; simp only [List.length_drop]; omega) (λe he=>hz.bat e (List.mem_of_mem_drop he))
  unfold lgC at hC
  simp only at hC
  have hIH:=Hide.mk hI
  clear hI hj
  have hys:=s2.len.2.1
  simp only [↓E1,E2,zA,zB,zC,zD,zE,zF,zG,zH,zI,zJ,zK,zL,zM,zN,reduceIte,zO,zP, *]
  refine hM1.q1 g1.free (EntsR.mono u1 s1) ?_
  rintro v n2 l2 rfl
  simp only [↓E1,E2,zA,zB,zC,zD,zE,zF,zG,zH,zI,zJ,zK,zL,zM,zN,reduceIte,zO,zP, *,E3,Option.map_none]
  refine hM2.q1 (g1.free.le l2) (EntsR.mono u1 s2) ?_
  rintro v n3 l3 rfl
  simp only [↓E1,E2,zA,zB,zC,zD,zE,zF,zG,zH,zI,zJ,zK,zL,zM,zN,reduceIte,zO,zP, *,E3,Option.map_none]
  refine hL.q1 ((g1.free.le l2).le l3) (EntsR.mono u1 s2) ?_
  rintro v n4 l4 rfl
  have g4:=g1.le2 (show n + 1 + 1 + 1 ≤ n4 by omega)
  simp only [↓E1,E2,zA,zB,zC,zD,zE,zF,zG,zH,zI,zJ,zK,zL,zM,zN,reduceIte,zO,zP, *,E3,Option.map_none]
  refine hC.d2 g4.free (EntsR.mono u1 sy) ?_
  rintro v new n5 g5 ⟨x',rfl,hG⟩
  have l5:=g5.le
  obtain ⟨-,-,zk,zm⟩:=hG.len
  have d3:=(g5.own (n + 1 + 1) (by omega)).trans c3
  have w3:=Qdl (fz:=fz) d3
  have gz:=(g4.trans (g5.weaken (by omega))).put (id:=n + 1 + 1) (by omega) d3 (c:=[I own.base,own.snap.sv,x'])
  have hG2:=Grow.weaken (R:=EntX) (lo':=n) (λh g=>EntX.mono h g) (by omega) (Grow.mono (R:=EntX) (λh g=>EntX.mono h g) hG (From.put (fz:=fz) (d':=[I own.base,own.snap.sv,x']) (show n + 1 + 1 < n4 by omega) d3))
  simp only [↓E1,E2,zA,zB,zC,zD,zE,zF,zG,zH,zI,zJ,zK,zL,zM,zN,reduceIte,zO,zP, *,E3,Option.map_none]
  exact hkH.out _ _ _ gz (.inl ⟨_,x',hIH.out,rfl,hG2⟩)
theorem ref16_Install (own got : Lg) (x y : SV) (hz : LgSz got) (hok1 : Ok own) (hok2 : Ok got) : Ctr P n_Qci [.ag (lgC own x),.ag (lgC got y)] (λM=>EntsR M x own.ents ∧ EntsR M y got.ents) (λn _ M v=>InstP own got n M v):=Ctr.of H.mx H.Qci (λ_=>0) λfz mu n k hfr s hk=>by
 obtain ⟨s1,s2⟩:=s
 obtain ⟨-,-,xk,xm⟩:=s1.len
 obtain ⟨-,-,yk,ym⟩:=s2.len
 have hM1:=ref4_LogMay H own x hok1
 have hM2:=ref4_LogMay H got y hok2
 have hL:=ref16_Last H got y
 have hkH:=Hide.mk hk
 clear hk
 have g1:=(((Gr.refl (lo:=n) hfr).cons (Nat.le_refl _) [I own.base,own.snap.sv,x]).cons (by omega) [I got.base,got.snap.sv,y]).cons (by omega) [I 0,.str 0 0,.nsl]
 have u1:=g1.sub hfr (Nat.le_refl _)
 have c3 : Ev.look ((n + 1 + 1,[I 0,.str 0 0,.nsl]) :: (n + 1,[I got.base,got.snap.sv,y]) :: (n,[I own.base,own.snap.sv,x]) :: mu) (n + 1 + 1) = some [I 0,.str 0 0,.nsl]:=by rw [Qdw,if_pos rfl]
 unfold lgC at hM1 hM2 hL ⊢
 rw [i_Qci,dc_at b_Qci.eq_1]
 rcases inst_cases own got with ⟨h1,hI⟩ | ⟨h1,h2,hI⟩ | ⟨h1,h2,h3,hI⟩ | ⟨h1,h2,h3,h4,hI⟩ | ⟨h1,h2,h3,h4,j,hj,hw,hj0,hjl,hI⟩
 ·have hkk:=λn' hn=>hkH.out _ _ n' (g1.le2 hn) (.inr ⟨hI,rfl⟩)
  clear hI
  simp only [↓E1,E2,zA,zB,zC,zD,zE,zF,zG,zH,zI,zJ,zK,zL,zM,zN,reduceIte,zO,zP, *]
  refine hM1.q1 g1.free (EntsR.mono u1 s1) ?_
  rintro v n2 l2 rfl
  simp only [↓E1,E2,zA,zB,zC,zD,zE,zF,zG,zH,zI,zJ,zK,zL,zM,zN,reduceIte,zO,zP, *,E3]
  all_goals exact hkk _ l2
 ·have hkk:=λn' hn=>hkH.out _ _ n' (g1.le2 hn) (.inr ⟨hI,rfl⟩)
  clear hI
  simp only [↓E1,E2,zA,zB,zC,zD,zE,zF,zG,zH,zI,zJ,zK,zL,zM,zN,reduceIte,zO,zP, *]
  refine hM1.q1 g1.free (EntsR.mono u1 s1) ?_
  rintro v n2 l2 rfl
  simp only [↓E1,E2,zA,zB,zC,zD,zE,zF,zG,zH,zI,zJ,zK,zL,zM,zN,reduceIte,zO,zP, *,E3]
  refine hM2.q1 (g1.free.le l2) (EntsR.mono u1 s2) ?_
  rintro v n3 l3 rfl
  simp only [↓E1,E2,zA,zB,zC,zD,zE,zF,zG,zH,zI,zJ,zK,zL,zM,zN,reduceIte,zO,zP, *,E3]
  exact hkk _ (by omega)
 ·have hkk:=λn' hn=>hkH.out _ _ n' (g1.le2 hn) (.inr ⟨hI,rfl⟩)
  clear hI
  simp only [↓E1,E2,zA,zB,zC,zD,zE,zF,zG,zH,zI,zJ,zK,zL,zM,zN,reduceIte,zO,zP, *]
  refine hM1.q1 g1.free (EntsR.mono u1 s1) ?_
  rintro v n2 l2 rfl
  simp only [↓E1,E2,zA,zB,zC,zD,zE,zF,zG,zH,zI,zJ,zK,zL,zM,zN,reduceIte,zO,zP, *,E3]
  refine hM2.q1 (g1.free.le l2) (EntsR.mono u1 s2) ?_
  rintro v n3 l3 rfl
  simp only [↓E1,E2,zA,zB,zC,zD,zE,zF,zG,zH,zI,zJ,zK,zL,zM,zN,reduceIte,zO,zP, *,E3]
  refine hL.q1 ((g1.free.le l2).le l3) (EntsR.mono u1 s2) ?_
  rintro v n4 l4 rfl
  simp only [↓E1,E2,zA,zB,zC,zD,zE,zF,zG,zH,zI,zJ,zK,zL,zM,zN,reduceIte,zO,zP, *,E3]
  exact hkk _ (by omega)
 ·have hC:=Qe6 H got y hz.ents hz.bat
  unfold lgC at hC
  have hIH:=Hide.mk hI
  clear hI
  simp only [↓E1,E2,zA,zB,zC,zD,zE,zF,zG,zH,zI,zJ,zK,zL,zM,zN,reduceIte,zO,zP, *]
  refine hM1.q1 g1.free (EntsR.mono u1 s1) ?_
  rintro v n2 l2 rfl
  simp only [↓E1,E2,zA,zB,zC,zD,zE,zF,zG,zH,zI,zJ,zK,zL,zM,zN,reduceIte,zO,zP, *,E3]
  refine hM2.q1 (g1.free.le l2) (EntsR.mono u1 s2) ?_
  rintro v n3 l3 rfl
  simp only [↓E1,E2,zA,zB,zC,zD,zE,zF,zG,zH,zI,zJ,zK,zL,zM,zN,reduceIte,zO,zP, *,E3]
  refine hL.q1 ((g1.free.le l2).le l3) (EntsR.mono u1 s2) ?_
  rintro v n4 l4 rfl
  have g4:=g1.le2 (show n + 1 + 1 + 1 ≤ n4 by omega)
  simp only [↓E1,E2,zA,zB,zC,zD,zE,zF,zG,zH,zI,zJ,zK,zL,zM,zN,reduceIte,zO,zP, *,E3]
  refine hC.c1 g4.free (EntsR.mono u1 s2) ?_
  rintro v m5 n5 g5 ⟨x',rfl,hG⟩
  have l5:=g5.le
  obtain ⟨-,-,zk,zm⟩:=hG.len
  have d3:=(g5.own (n + 1 + 1) (by omega)).trans c3
  have w3:=Qdl (fz:=fz) d3
  have gz:=(g4.trans (g5.weaken (by omega))).put (id:=n + 1 + 1) (by omega) d3 (c:=[I got.base,got.snap.sv,x'])
  have hG2:=Grow.weaken (R:=EntX) (lo':=n) (λh g=>EntX.mono h g) (by omega) (Grow.mono (R:=EntX) (λh g=>EntX.mono h g) hG (From.put (fz:=fz) (d':=[I got.base,got.snap.sv,x']) (show n + 1 + 1 < n4 by omega) d3))
  simp only [↓E1,E2,zA,zB,zC,zD,zE,zF,zG,zH,zI,zJ,zK,zL,zM,zN,reduceIte,zO,zP, *,E3]
  exact hkH.out _ _ _ gz (.inl ⟨_,x',hIH.out,rfl,hG2⟩)
 ·obtain ⟨y',hy',sy⟩:=EntsR.from s2 hjl hj0
  obtain ⟨-,-,yk',ym'⟩:=sy.len
  have hC:=Qe6 H { base:=own.base,snap:=own.snap,ents:=got.ents.drop j } y' (by have:=hz.ents; simp only [List.length_drop]; omega) (λe he=>hz.bat e (List.mem_of_mem_drop he))
  unfold lgC at hC
  simp only at hC
  have hIH:=Hide.mk hI
  clear hI hj
  have hys:=s2.len.2.1
  simp only [↓E1,E2,zA,zB,zC,zD,zE,zF,zG,zH,zI,zJ,zK,zL,zM,zN,reduceIte,zO,zP, *]
  refine hM1.q1 g1.free (EntsR.mono u1 s1) ?_
  rintro v n2 l2 rfl
  simp only [↓E1,E2,zA,zB,zC,zD,zE,zF,zG,zH,zI,zJ,zK,zL,zM,zN,reduceIte,zO,zP, *,E3,Option.map_none]
  refine hM2.q1 (g1.free.le l2) (EntsR.mono u1 s2) ?_
  rintro v n3 l3 rfl
  simp only [↓E1,E2,zA,zB,zC,zD,zE,zF,zG,zH,zI,zJ,zK,zL,zM,zN,reduceIte,zO,zP, *,E3,Option.map_none]
  refine hL.q1 ((g1.free.le l2).le l3) (EntsR.mono u1 s2) ?_
  rintro v n4 l4 rfl
  have g4:=g1.le2 (show n + 1 + 1 + 1 ≤ n4 by omega)
  simp only [↓E1,E2,zA,zB,zC,zD,zE,zF,zG,zH,zI,zJ,zK,zL,zM,zN,reduceIte,zO,zP, *,E3,Option.map_none]
  refine hC.d2 g4.free (EntsR.mono u1 sy) ?_
  rintro v new n5 g5 ⟨x',rfl,hG⟩
  have l5:=g5.le
  obtain ⟨-,-,zk,zm⟩:=hG.len
  have d3:=(g5.own (n + 1 + 1) (by omega)).trans c3
  have w3:=Qdl (fz:=fz) d3
  have gz:=(g4.trans (g5.weaken (by omega))).put (id:=n + 1 + 1) (by omega) d3 (c:=[I own.base,own.snap.sv,x'])
  have hG2:=Grow.weaken (R:=EntX) (lo':=n) (λh g=>EntX.mono h g) (by omega) (Grow.mono (R:=EntX) (λh g=>EntX.mono h g) hG (From.put (fz:=fz) (d':=[I own.base,own.snap.sv,x']) (show n + 1 + 1 < n4 by omega) d3))
  simp only [↓E1,E2,zA,zB,zC,zD,zE,zF,zG,zH,zI,zJ,zK,zL,zM,zN,reduceIte,zO,zP, *,E3,Option.map_none]
  exact hkH.out _ _ _ gz (.inl ⟨_,x',hIH.out,rfl,hG2⟩)
end Go.Proofs.YtnnjlnkoomeadaaGreat.Pv
namespace Go.Proofs.YtnnjlnkoomeadaaGreat.Pv
open Go.Ev Go.Ev.Rp
set_option maxRecDepth 100000
set_option maxHeartbeats 4000000
variable {P : Program} (H : Fs P)
include H
theorem ref16_Copy (r : Rep) (xe xa xs xd : SV) (hz : RepSz r) : Ctr P n_Qc9 [.ag (repC r xe xa xs xd)] (fun M => RepS M r xe xa xs xd) (fun n _ M v => ∃ xe' xa' xs' xd' o, v = .ag (repC r xe' xa' xs' xd') ∧ (∀ j, j < n → o j = 0) ∧ RepT o M r xe' xa' xs' xd') := Ctr.of H.mx H.Qc9 (fun _ => r.dos.length + 1) fun fz mu n k hfr s hk => by
 obtain ⟨s1,s2,s3,s4⟩:=s
 obtain ⟨xel,xes,xek,xem⟩:=s1.len
 obtain ⟨xal,xas,xak,xam⟩:=s2.len
 obtain ⟨xsl,xss,xsk,xsm⟩:=s3.len
 obtain ⟨xdl,xds,xdk,xdm⟩:=s4.len
 have hE:=Qe6 H r.log xe hz.log.ents hz.log.bat
 have hkH:=Hide.mk hk
 clear hk
 unfold lgC at hE
 rw [i_Qc9,dc_at b_Qc9.eq_1]
 unfold repC
 simp only [↓E1,E2,zA,zB,zC,zD,zE,zF,zG,zH,zI,zJ,zK,zL,zM,zN,reduceIte,zO,zP, *]
 refine hE.c1 (gr2 hfr).free (EntsR.mono (sub2 hfr) s1) ?_
 rintro v mu1' n1 g1 ⟨xe',rfl,hG⟩
 have l1:=g1.le
 have ga:=(gr2 hfr).trans (g1.weaken (by omega))
 have b1:=(g1.own n (by omega)).trans (by rw [Qdw,if_neg (by omega),Qdw,if_pos rfl])
 have b2:=(g1.own (n + 1) (by omega)).trans (by rw [Qdw,if_pos rfl])
 obtain ⟨-,-,zek,zem⟩:=hG.len
 have gb:=ga.put (Nat.le_refl _) b1 (c:=[I r.me,I r.nodes,I r.view,I r.normal,I r.status,I r.commit,.bool r.sent,I r.log.base,r.log.snap.sv,xe',xa,xs,xd])
 have c1 : Ev.look (putS mu1' n [I r.me,I r.nodes,I r.view,I r.normal,I r.status,I r.commit,.bool r.sent,I r.log.base,r.log.snap.sv,xe',xa,xs,xd]) n = some [I r.me,I r.nodes,I r.view,I r.normal,I r.status,I r.commit,.bool r.sent,I r.log.base,r.log.snap.sv,xe',xa,xs,xd]:=by rw [Qdm,if_pos rfl,b1]; rfl
 have c2 : Ev.look (putS mu1' n [I r.me,I r.nodes,I r.view,I r.normal,I r.status,I r.commit,.bool r.sent,I r.log.base,r.log.snap.sv,xe',xa,xs,xd]) (n + 1) = some [I 0,I 0,I 0,I 0,I 0,I 0,.bool false,I 0,.str 0 0,.nsl,.nsl,.nsl,.nsl]:=by rw [Qdm,if_neg (by omega)]; exact b2
 have hG1:=Grow.mono (R:=EntX) (λh g=>EntX.mono h g) hG (From.put (fz:=fz) (d':=[I r.me,I r.nodes,I r.view,I r.normal,I r.status,I r.commit,.bool r.sent,I r.log.base,r.log.snap.sv,xe',xa,xs,xd]) (by omega) b1)
 have hne1 : (n1 = n) = False:=by simp; omega
 simp only [↓E1,E2,zA,zB,zC,zD,zE,zF,zG,zH,zI,zJ,zK,zL,zM,zN,reduceIte,zO,zP, *,E3]
 obtain ⟨m2,hm2⟩ : ∃ m2,putS mu1' n [I r.me,I r.nodes,I r.view,I r.normal,I r.status,I r.commit,.bool r.sent,I r.log.base,r.log.snap.sv,xe',xa,xs,xd] = m2:=⟨_,rfl⟩
 rw [hm2] at gb c1 c2 hG1
 try rw [hm2]
 have e2 : ∀ j,n + 2 ≤ j → j < n1 → with' m2 fz j = with' mu1' fz j:=λj h1 h2=>by rw [← hm2,Qds b1,if_neg (by omega)]
 have hb1:=g1.free
 clear hm2 b1 b2 ga g1
 obtain ⟨h1,h2⟩:=Qf4 (Sl.mono (IntsR.mono (gb.sub hfr (Nat.le_refl _)) s2) (sub1 gb.free (c:=[])))
 rw [h1]; clear h1
 refine ⟨h2,Qf9 gb.free (Qef (by rw [List.length_map]; have:=hz.acks; omega) (by decide) (by decide)) Qg0 (λxa' m3' n2 gn2 hxxa=>?_)⟩
 clear h2
 have ln2:=gn2.le
 obtain ⟨-,-,zxak,zxam⟩:=SlX.len hxxa
 have d1:=(gn2.own n (by omega)).trans c1
 have d2:=(gn2.own (n + 1) (by omega)).trans c2
 have gc:=(gb.trans (gn2.weaken (by omega))).put (Nat.le_refl _) d1 (c:=[I r.me,I r.nodes,I r.view,I r.normal,I r.status,I r.commit,.bool r.sent,I r.log.base,r.log.snap.sv,xe',xa',xs,xd])
 have uc:=From.put (fz:=fz) (lo:=n + 2) (d':=[I r.me,I r.nodes,I r.view,I r.normal,I r.status,I r.commit,.bool r.sent,I r.log.base,r.log.snap.sv,xe',xa',xs,xd]) (by omega) d1
 have uc1:=From.put (fz:=fz) (lo:=n1) (d':=[I r.me,I r.nodes,I r.view,I r.normal,I r.status,I r.commit,.bool r.sent,I r.log.base,r.log.snap.sv,xe',xa',xs,xd]) (by omega) d1
 have c1' : Ev.look (putS m3' n [I r.me,I r.nodes,I r.view,I r.normal,I r.status,I r.commit,.bool r.sent,I r.log.base,r.log.snap.sv,xe',xa',xs,xd]) n = some [I r.me,I r.nodes,I r.view,I r.normal,I r.status,I r.commit,.bool r.sent,I r.log.base,r.log.snap.sv,xe',xa',xs,xd]:=by rw [Qdm,if_pos rfl,d1]; rfl
 have c2' : Ev.look (putS m3' n [I r.me,I r.nodes,I r.view,I r.normal,I r.status,I r.commit,.bool r.sent,I r.log.base,r.log.snap.sv,xe',xa',xs,xd]) (n + 1) = some [I 0,I 0,I 0,I 0,I 0,I 0,.bool false,I 0,.str 0 0,.nsl,.nsl,.nsl,.nsl]:=by rw [Qdm,if_neg (by omega)]; exact d2
 have hG2:=Grow.mono (R:=EntX) (λh g=>EntX.mono h g) hG1 ((From.mono (gn2.sub gb.free (Nat.le_refl _))).trans uc)
 have hA2:=SlX.mono hxxa uc1
 have hne2 : (n2 = n) = False:=by simp; omega
 simp only [↓E1,E2,zA,zB,zC,zD,zE,zF,zG,zH,zI,zJ,zK,zL,zM,zN,reduceIte,zO,zP, *,E3]
 obtain ⟨m3,hm3⟩ : ∃ m3,putS m3' n [I r.me,I r.nodes,I r.view,I r.normal,I r.status,I r.commit,.bool r.sent,I r.log.base,r.log.snap.sv,xe',xa',xs,xd] = m3:=⟨_,rfl⟩
 rw [hm3] at gc c1' c2' hG2 hA2
 try rw [hm3]
 have e3 : ∀ j,n + 2 ≤ j → j < n1 → with' m3 fz j = with' mu1' fz j:=λj h1 h2=>by rw [← hm3,Qds d1,if_neg (by omega),gn2.ext j h2]; exact e2 j h1 h2
 have e3' : ∀ j,n1 ≤ j → with' m3 fz j = with' m3' fz j:=λj h1=>by rw [← hm3,Qds d1,if_neg (by omega)]
 have hb2:=gn2.free
 clear hm3 hG1 d1 d2 uc uc1
 have hmid:=gc.free
 clear c1 c2
 have c1:=c1'
 have c2:=c2'
 clear c1' c2'
 have gb':=gb
 clear gb
 have gb:=gc
 clear gc
 obtain ⟨h1,h2⟩:=Qf4 (Sl.mono (IntsR.mono (gb.sub hfr (Nat.le_refl _)) s3) (sub1 gb.free (c:=[])))
 rw [h1]; clear h1
 refine ⟨h2,Qf9 gb.free (Qef (by rw [List.length_map]; have:=hz.starts; omega) (by decide) (by decide)) Qg0 (λxs' m4' n3 gn3 hxxs=>?_)⟩
 clear h2
 have ln3:=gn3.le
 obtain ⟨-,-,zxsk,zxsm⟩:=SlX.len hxxs
 have d1:=(gn3.own n (by omega)).trans c1
 have d2:=(gn3.own (n + 1) (by omega)).trans c2
 have gc:=(gb.trans (gn3.weaken (by omega))).put (Nat.le_refl _) d1 (c:=[I r.me,I r.nodes,I r.view,I r.normal,I r.status,I r.commit,.bool r.sent,I r.log.base,r.log.snap.sv,xe',xa',xs',.nsl])
 have uc:=From.put (fz:=fz) (lo:=n + 2) (d':=[I r.me,I r.nodes,I r.view,I r.normal,I r.status,I r.commit,.bool r.sent,I r.log.base,r.log.snap.sv,xe',xa',xs',.nsl]) (by omega) d1
 have uc1:=From.put (fz:=fz) (lo:=n1) (d':=[I r.me,I r.nodes,I r.view,I r.normal,I r.status,I r.commit,.bool r.sent,I r.log.base,r.log.snap.sv,xe',xa',xs',.nsl]) (by omega) d1
 have uc2:=From.put (fz:=fz) (lo:=n2) (d':=[I r.me,I r.nodes,I r.view,I r.normal,I r.status,I r.commit,.bool r.sent,I r.log.base,r.log.snap.sv,xe',xa',xs',.nsl]) (by omega) d1
 have c1' : Ev.look (putS m4' n [I r.me,I r.nodes,I r.view,I r.normal,I r.status,I r.commit,.bool r.sent,I r.log.base,r.log.snap.sv,xe',xa',xs',.nsl]) n = some [I r.me,I r.nodes,I r.view,I r.normal,I r.status,I r.commit,.bool r.sent,I r.log.base,r.log.snap.sv,xe',xa',xs',.nsl]:=by rw [Qdm,if_pos rfl,d1]; rfl
 have c2' : Ev.look (putS m4' n [I r.me,I r.nodes,I r.view,I r.normal,I r.status,I r.commit,.bool r.sent,I r.log.base,r.log.snap.sv,xe',xa',xs',.nsl]) (n + 1) = some [I 0,I 0,I 0,I 0,I 0,I 0,.bool false,I 0,.str 0 0,.nsl,.nsl,.nsl,.nsl]:=by rw [Qdm,if_neg (by omega)]; exact d2
 have hG3:=Grow.mono (R:=EntX) (λh g=>EntX.mono h g) hG2 ((From.mono (gn3.sub gb.free (Nat.le_refl _))).trans uc)
 have hA3:=SlX.mono hA2 ((From.mono (gn3.sub gb.free (Nat.le_refl _))).trans uc1)
 have hS3:=SlX.mono hxxs uc2
 simp only [↓E1,E2,zA,zB,zC,zD,zE,zF,zG,zH,zI,zJ,zK,zL,zM,zN,reduceIte,zO,zP, *,E3]
 obtain ⟨m4,hm4⟩ : ∃ m4,putS m4' n [I r.me,I r.nodes,I r.view,I r.normal,I r.status,I r.commit,.bool r.sent,I r.log.base,r.log.snap.sv,xe',xa',xs',.nsl] = m4:=⟨_,rfl⟩
 rw [hm4] at gc c1' c2' hG3 hA3 hS3
 try rw [hm4]
 have e4 : ∀ j,n + 2 ≤ j → j < n2 → with' m4 fz j = with' m3 fz j:=λj h1 h2=>by rw [← hm4,Qds d1,if_neg (by omega),gn3.ext j h2]
 have e4' : ∀ j,n2 ≤ j → with' m4 fz j = with' m4' fz j:=λj h1=>by rw [← hm4,Qds d1,if_neg (by omega)]
 have hb3:=gn3.free
 clear hm4 hG2 d1 d2 uc uc1 uc2 hA2 c1 c2
 have hf4:=gc.free
 have hzd:=hz.dos
 refine loopI (x:=0) (L:=r.dos.length) (p:=λ_=>true) (λi e mu' n'=>∃ xdd,Gr n fz mu mu' n n' ∧ n3 ≤ n' ∧ Ev.look mu' n = some [I r.me,I r.nodes,I r.view,I r.normal,I r.status,I r.commit,.bool r.sent,I r.log.base,r.log.snap.sv,xe',xa',xs',xdd] ∧ Ev.look mu' (n + 1) = some [I 0,I 0,I 0,I 0,I 0,I 0,.bool false,I 0,.str 0 0,.nsl,.nsl,.nsl,.nsl] ∧ (∀ j,n + 2 ≤ j → j < n3 → Ev.look mu' j = Ev.look m4 j) ∧ Grow n3 (with' mu' fz) 6 DvX xdd (r.dos.take i) ∧ e 0 1 = .one (.optr n 0) ∧ e 0 2 = .one (.optr (n + 1) 0) ∧ e 0 3 = .one xd ∧ e 0 4 = .one (.int .i64 i)) (λ_ _ _=>False) ?_ ?_ _ _ _ _ _ (by omega) ?_ ?_ (by rintro ⟨_,_,_,h⟩; cases h)
 ·rintro i e mu1 m1 K hi ⟨xdd,g1,h3,a1,a2,a3,G,e1,e2,e3,e4⟩ hy hn
  have hY:=Hide.mk hy
  clear hy hn
  have hw:=Qdt hi (by omega)
  obtain ⟨id,off,cap,B,b,rfl,p1,p2,p3,p4,p5⟩:=(DvsR.mono (g1.sub hfr (Nat.le_refl _)) s4).elem hi
  unfold dvC at p4
  obtain ⟨bl,bs,bk,bm⟩:=p5.len
  have hmem : r.dos[i] ∈ r.dos:=List.getElem_mem hi
  have hLd:=Qe6 H r.dos[i].log b (hz.dlog _ hmem).ents (hz.dlog _ hmem).bat
  unfold lgC at hLd
  have w1:=Qdl (fz:=fz) a1
  have hq1 : (m1 = n) = False:=by simp; omega
  rw [dc_at l_Qc9_0.eq_1]
  simp only [↓E1,E2,zA,zB,zC,zD,zE,zF,zG,zH,zI,zJ,zK,zL,zM,zN,reduceIte,zO,zP, *,E3]
  have gE:=(Gr.refl (lo:=m1) g1.free).cons (Nat.le_refl _) [I r.dos[i].frm,I r.dos[i].normal,I r.dos[i].commit,I r.dos[i].log.base,r.dos[i].log.snap.sv,b]
  refine hLd.c1 gE.free (EntsR.mono (gE.sub g1.free (Nat.le_refl _)) p5) ?_
  rintro v mu2 m2 g2 ⟨x',rfl,hGx⟩
  have l2:=g2.le
  obtain ⟨-,-,xk',xm'⟩:=hGx.len
  have gF:=gE.trans (g2.weaken (by omega))
  have d1 : Ev.look mu2 m1 = some [I r.dos[i].frm,I r.dos[i].normal,I r.dos[i].commit,I r.dos[i].log.base,r.dos[i].log.snap.sv,b]:=(g2.own m1 (by omega)).trans (by rw [Qdw,if_pos rfl])
  have d0:=(gF.own n (by omega)).trans a1
  have wd1:=Qdl (fz:=fz) d1
  have wd0:=Qdl (fz:=fz) d0
  obtain ⟨-,-,ddk,ddm⟩:=G.len
  clear w1 p1
  have hq2 : (m2 = n) = False:=by simp; omega
  simp only [↓E1,E2,zA,zB,zC,zD,zE,zF,zG,zH,zI,zJ,zK,zL,zM,zN,reduceIte,zO,zP, *,E3]
  have gP:=gF.put (id:=m1) (Nat.le_refl _) d1 (c:=[I r.dos[i].frm,I r.dos[i].normal,I r.dos[i].commit,I r.dos[i].log.base,r.dos[i].log.snap.sv,x'])
  have gG:=gP.cons (by omega) [I r.dos[i].frm,I r.dos[i].normal,I r.dos[i].commit,I r.dos[i].log.base,r.dos[i].log.snap.sv,x']
  have uG : Sub (From (m1 + 1) (with' mu2 fz)) (From m1 (with' ((m2,[I r.dos[i].frm,I r.dos[i].normal,I r.dos[i].commit,I r.dos[i].log.base,r.dos[i].log.snap.sv,x']) :: putS mu2 m1 [I r.dos[i].frm,I r.dos[i].normal,I r.dos[i].commit,I r.dos[i].log.base,r.dos[i].log.snap.sv,x']) fz)):=λj B hj=>by
   obtain ⟨h4,h5⟩:=From.el hj
   have h6:=g2.free.lt h5
   exact From.at (by omega) (by rw [Qed,if_neg (by omega),Qds d1,if_neg (by omega)]; exact h5)
  refine Grow.more (R:=DvX) (λh g=>DvX.mono h g) (a:=r.dos[i]) G g1.free h3 (λj hj=>hfr.fz j (by omega)) gG ⟨x',rfl,EntsX.mono uG (Qke hGx)⟩ ⟨rfl,by simp only [↓E1,E2,zA,zB,zC,zD,zE,zF,zG,zH,zI,zJ,zK,zL,zM,zN,reduceIte,zO,zP, *]⟩ (Qef (by rw [List.length_take]; omega) (by decide) (by decide)) (λmu3 g3 G3=>?_)
  have f1:=(g3.own n (by omega)).trans a1
  have f2:=(g3.own (n + 1) (by omega)).trans a2
  clear wd0 wd1 hGx
  simp only [↓E1,E2,zA,zB,zC,zD,zE,zF,zG,zH,zI,zJ,zK,zL,zM,zN,reduceIte,zO,zP, *,E3]
  refine hY.out rfl _ _ _ ⟨_,(g1.trans (g3.weaken (by omega))).put (by omega) f1,by omega,by rw [Qdm,if_pos rfl,f1]; rfl,by rw [Qdm,if_neg (by omega)]; exact f2,λj h4 h5=>by rw [Qdm,if_neg (by omega),g3.own j h5]; exact a3 j h4 h5,Grow.mono (R:=DvX) (λh g=>DvX.mono h g) ?_ (From.put (by omega) f1),?_,?_,?_,?_⟩
  ·rw [List.take_succ_eq_append_getElem hi]; exact G3
  all_goals simp [updN,updE, *]
 ·rintro e mu1 m1 K ⟨xdd,g1,h3,a1,a2,a3,G,e1,e2,e3,e4⟩ hx
  have hX:=Hide.mk hx
  clear hx
  have hlt : ((r.dos.length : Int) < r.dos.length) = False:=by simp
  have hlt2 : (r.dos.length < r.dos.length) = False:=by simp
  rw [dc_at l_Qc9_0.eq_1]
  simp only [↓E1,E2,zA,zB,zC,zD,zE,zF,zG,zH,zI,zJ,zK,zL,zM,zN,reduceIte,zO,zP, *]
  exact hX.out _ _ _ ⟨xdd,g1,h3,a1,a2,a3,G,by simp [updN,updE,e1],by simp [updN,updE,e2],by simp [updN,updE,e3],by simp [updN,updE,e4]⟩
 ·exact ⟨.nsl,gc,by omega,c1',c2',λ_ _ _=>rfl,Grow.nil,by simp [updN,updE],by simp [updN,updE],by simp [updN,updE],by simp [updN,updE]⟩
 ·rintro - e1 mu1 m1 ⟨xdd,g1,h3,a1,a2,a3,G,f1,f2,f3,f4⟩
  rw [List.take_length] at G
  have w1:=Qdl (fz:=fz) a1
  obtain ⟨-,-,ddk,ddm⟩:=G.len
  -- the tags
  obtain ⟨o1,ho1⟩ : ∃ o,o = tagN (tagN (tagN (λ_=>0) (n + 2) (Qff xe' 1 2)) n1 λ_=>3) n2 λ_=>4:=⟨_,rfl⟩
  obtain ⟨o,ho⟩ : ∃ o,o = tagN o1 n3 (Qff xdd 5 6):=⟨_,rfl⟩
  have hz0 : ∀ j,j < n + 2 → o j = 0:=λj hj=>by rw [ho,Qea (by omega),ho1,Qea (by omega),Qea (by omega),Qea hj]
  have vE : ∀ t j B,with' mu1' fz j = some B → n + 2 ≤ j → Qff xe' 1 2 j = t → Tag o t (with' (putS mu1 (n + 1) [I r.me,I r.nodes,I r.view,I r.normal,I r.status,I r.commit,.bool r.sent,I r.log.base,r.log.snap.sv,xe',xa',xs',xdd]) fz) j = some B:=λt j B hj h5 h6=>by
   have h7:=hb1.lt hj
   refine Tag.at (by rw [ho,Qea (by omega),ho1,Qea (by omega),Qea h7,Qga h5]; exact h6) ?_
   rw [Qds a2,if_neg (by omega),Qdq (a3 j h5 (by omega)),e4 j h5 (by omega),e3 j h5 h7]; exact hj
  have vA : Sub (From n1 (with' m3' fz)) (Tag o 3 (with' (putS mu1 (n + 1) [I r.me,I r.nodes,I r.view,I r.normal,I r.status,I r.commit,.bool r.sent,I r.log.base,r.log.snap.sv,xe',xa',xs',xdd]) fz)):=λj B hj=>by
   obtain ⟨h5,h6⟩:=From.el hj
   have h7:=hb2.lt h6
   refine Tag.at (by rw [ho,Qea (by omega),ho1,Qea h7,Qga h5]) ?_
   rw [Qds a2,if_neg (by omega),Qdq (a3 j (by omega) (by omega)),e4 j (by omega) h7,e3' j h5]; exact h6
  have vS : Sub (From n2 (with' m4' fz)) (Tag o 4 (with' (putS mu1 (n + 1) [I r.me,I r.nodes,I r.view,I r.normal,I r.status,I r.commit,.bool r.sent,I r.log.base,r.log.snap.sv,xe',xa',xs',xdd]) fz)):=λj B hj=>by
   obtain ⟨h5,h6⟩:=From.el hj
   have h7:=hb3.lt h6
   refine Tag.at (by rw [ho,Qea h7,ho1,Qga h5]) ?_
   rw [Qds a2,if_neg (by omega),Qdq (a3 j (by omega) h7),e4' j h5]; exact h6
  obtain ⟨ds,k1,k2⟩:=Grow.tag (R:=DvX) (λh g=>DvX.mono h g) (Grow.mono (R:=DvX) (λh g=>DvX.mono h g) G (From.put (lo:=n3) (fz:=fz) (d':=[I r.me,I r.nodes,I r.view,I r.normal,I r.status,I r.commit,.bool r.sent,I r.log.base,r.log.snap.sv,xe',xa',xs',xdd]) (by omega) a2)) (o:=o1) (a:=5) (b:=6)
  rw [← ho] at k1 k2
  obtain ⟨es,j1,j2⟩:=hG
  have hT : RepT o (with' (putS mu1 (n + 1) [I r.me,I r.nodes,I r.view,I r.normal,I r.status,I r.commit,.bool r.sent,I r.log.base,r.log.snap.sv,xe',xa',xs',xdd]) fz) r xe' xa' xs' xdd:=by
   refine ⟨⟨es,?_,j2.imp λc a h=>EntX.mono (λj B hj=>?_) h⟩,IntsX.mono vA hxxa,IntsX.mono vS hxxs,ds,k1,k2⟩
   ·rcases j1 with h | ⟨id,q1,q2,q3⟩
    ·exact .inl h
    ·obtain ⟨q4,q5⟩:=From.el q2
     exact .inr ⟨id,q1,vE 1 id _ q5 q4 (by unfold Qff; rw [if_pos (by rw [q1]; rfl)]),q3⟩
   ·obtain ⟨q1,q2⟩:=Ex.el hj
    obtain ⟨q3,q4⟩:=From.el q2
    exact vE 2 j B q4 q3 (by unfold Qff; rw [if_neg q1])
  have gz:=g1.put (id:=n + 1) (by omega) a2 (c:=[I r.me,I r.nodes,I r.view,I r.normal,I r.status,I r.commit,.bool r.sent,I r.log.base,r.log.snap.sv,xe',xa',xs',xdd])
  have hk2:=hkH.out _ _ _ gz ⟨xe',xa',xs',xdd,o,rfl,λj hj=>hz0 j (by omega),hT⟩
  unfold repC at hk2
  clear hkH
  simp only [↓E1,E2,zA,zB,zC,zD,zE,zF,zG,zH,zI,zJ,zK,zL,zM,zN,reduceIte,zO,zP, *,E3]
end Go.Proofs.YtnnjlnkoomeadaaGreat.Pv
namespace Go.Proofs.YtnnjlnkoomeadaaGreat.Pv
open Go.Ev Go.Ev.Rp
set_option maxRecDepth 100000
set_option maxHeartbeats 4000000
theorem Kp.t28 {s : Nat} {o o' : Nat → Nat} {fz : Fz} {mu mu' : St} {n n' : Nat} (h : Kp (· = 7) s o o' mu n mu' n') (hs : o s = 9) (hf : Free fz mu n) : Sub (Tag28 o (with' mu fz)) (Tag28 o' (with' mu' fz)):=λj B hj=>by
 obtain ⟨h1,h2⟩:=Tag28.el hj
 have h3:=hf.lt h2
 exact Tag28.at (by rw [h.tags j h3]; exact h1) (by rw [Qdq (h.keep j h3 (λe=>by rw [e,hs] at h1; omega) (by omega))]; exact h2)
theorem Tag28.trim {o : Nat → Nat} {fz : Fz} {mu : St} {n : Nat} (hf : Free fz mu n) : Sub (Tag28 o (with' mu fz)) (Tag28 (Pv.trim o n) (with' mu fz)):=λj B hj=>by
 obtain ⟨h1,h2⟩:=Tag28.el hj
 exact Tag28.at (by rw [Qfz (hf.lt h2)]; exact h1) h2
variable {P : Program} (H : Fs P)
include H
theorem Qk6 {lo : Nat} {fz : Fz} {s : Nat} {o : Nat → Nat} {mu : St} {n : Nat} {r : Rep} {out : List Msg} {vd : Bool} {xe xa xs xd xo : SV} (S : SW lo fz s o mu n r out vd xe xa xs xd xo) (to : Int) (m : Msg) (yb ye : SV)
 (hb : PtsX (Tag28 o (with' mu fz)) yb m.batch) (hm : EntsR (with' mu fz) ye m.log.ents) (hz : LgSz m.log) (hl : out.length ≤ 1000) {k : KT Prop} {w : WK k}
 (hk : ∀ mu' n' o' xo',SW lo fz s o' mu' n' r (out ++ [{ m with frm:=r.me,to:=to }]) vd xe xa xs xd xo' → Kp (· = 7) s o o' mu n mu' n' → k noVal mu' n') : CPh P n_Qbp [.one (.optr s 0),.one (I to),.ag (msgC m yb ye)] fz mu n k w:=by
 refine CP_of H.Qbp H.mx 0 ?_
 obtain ⟨-,-,ybk,ybm⟩:=SlX.len hb
 obtain ⟨-,-,yek,yem⟩:=hm.len
 have hC:=ref4_CopyLog H m.log ye hz.ents hz.bat
 have gA:=(Gr.refl (lo:=n) S.free).cons (Nat.le_refl _) (msgC { m with frm:=r.me,to:=to } yb ye)
 have hsn : s < n:=S.slt
 have S1:=S.gr gA
 have b1 : Ev.look ((n,msgC { m with frm:=r.me,to:=to } yb ye) :: mu) n = some (msgC { m with frm:=r.me,to:=to } yb ye):=by rw [Qdw,if_pos rfl]
 have ws0:=Qdl (fz:=fz) S.cells
 have hne : (n = s) = False:=by simp; omega
 obtain ⟨⟨xek,xem⟩,⟨xak,xam⟩,⟨xsk,xsm⟩,⟨xdk,xdm⟩,xok,xom⟩:=S1.ks
 obtain ⟨m1,hm1⟩ : ∃ mz : St,((n,msgC { m with frm:=r.me,to:=to } yb ye) :: mu) = mz:=⟨_,rfl⟩
 rw [hm1] at gA S1 b1
 have ws1:=Qdl (fz:=fz) S1.cells
 have wb1:=Qdl (fz:=fz) b1
 have hkH:=Hide.mk hk
 clear hk
 rw [i_Qbp,dc_at b_Qbp.eq_1]
 unfold lgC at hC
 unfold msgC at hm1 wb1 ⊢
 unfold stepC repC at ws0 ws1
 simp only [↓E1,E2,zA,zB,zC,zD,zE,zF,zG,zH,zI,zJ,zK,zL,zM,zN,reduceIte,zO,zP, *,E3]
 refine hC.c1 S1.free (EntsR.mono (gA.sub S.free (Nat.le_refl _)) hm) ?_
 rintro v m2 n2 g2 ⟨xm,rfl,hxm⟩
 have l2:=g2.le
 obtain ⟨-,-,zek,zem⟩:=hxm.choose_spec.1.len
 have S2:=S1.gr g2
 have ws2:=Qdl (fz:=fz) S2.cells
 have b2:=(g2.own n (by omega)).trans b1
 have wb2:=Qdl (fz:=fz) b2
 unfold msgC at b2 wb2
 unfold stepC repC at ws2
 clear ws0 ws1 wb1
 have hne2 : (n2 = s) = False:=by simp; omega
 simp only [↓E1,E2,zA,zB,zC,zD,zE,zF,zG,zH,zI,zJ,zK,zL,zM,zN,reduceIte,zO,zP, *,E3]
 have gP:=(gA.trans (g2.weaken (by omega))).put (Nat.le_refl _) b2 (c:=[I m.kind,I r.me,I to,I m.view,I m.normal,I m.at',I m.commit,I m.round,I m.client,I m.session,I m.number,I m.code,I m.agg,I m.until',m.series.sv,yb,I m.log.base,m.log.snap.sv,xm,m.text.sv])
 have gB:=gP.cons (by omega) [I m.kind,I r.me,I to,I m.view,I m.normal,I m.at',I m.commit,I m.round,I m.client,I m.session,I m.number,I m.code,I m.agg,I m.until',m.series.sv,yb,I m.log.base,m.log.snap.sv,xm,m.text.sv]
 have u2 : Sub (From (n + 1) (with' m2 fz)) (From n (with' ((n2,[I m.kind,I r.me,I to,I m.view,I m.normal,I m.at',I m.commit,I m.round,I m.client,I m.session,I m.number,I m.code,I m.agg,I m.until',m.series.sv,yb,I m.log.base,m.log.snap.sv,xm,m.text.sv]) :: putS m2 n [I m.kind,I r.me,I to,I m.view,I m.normal,I m.at',I m.commit,I m.round,I m.client,I m.session,I m.number,I m.code,I m.agg,I m.until',m.series.sv,yb,I m.log.base,m.log.snap.sv,xm,m.text.sv]) fz)):=λj B hj=>by
  obtain ⟨p1,p2⟩:=From.el hj
  have:=g2.free.lt p2
  exact From.at (by omega) (by rw [Qed,if_neg (by omega),Qds b2,if_neg (by omega)]; exact p2)
 have ub : Sub (Tag28 o (with' mu fz)) (FT o n (with' ((n2,[I m.kind,I r.me,I to,I m.view,I m.normal,I m.at',I m.commit,I m.round,I m.client,I m.session,I m.number,I m.code,I m.agg,I m.until',m.series.sv,yb,I m.log.base,m.log.snap.sv,xm,m.text.sv]) :: putS m2 n [I m.kind,I r.me,I to,I m.view,I m.normal,I m.at',I m.commit,I m.round,I m.client,I m.session,I m.number,I m.code,I m.agg,I m.until',m.series.sv,yb,I m.log.base,m.log.snap.sv,xm,m.text.sv]) fz)):=λj B hj=>by
  obtain ⟨p1,p2⟩:=Tag28.el hj
  have p3:=S.free.lt p2
  have : with' ((n2,[I m.kind,I r.me,I to,I m.view,I m.normal,I m.at',I m.commit,I m.round,I m.client,I m.session,I m.number,I m.code,I m.agg,I m.until',m.series.sv,yb,I m.log.base,m.log.snap.sv,xm,m.text.sv]) :: putS m2 n [I m.kind,I r.me,I to,I m.view,I m.normal,I m.at',I m.commit,I m.round,I m.client,I m.session,I m.number,I m.code,I m.agg,I m.until',m.series.sv,yb,I m.log.base,m.log.snap.sv,xm,m.text.sv]) fz j = some B:=(gB.ext j p3).trans p2
  exact FT.tag j B (Tag28.at p1 this)
 refine SW.app S gB (m:={ m with frm:=r.me,to:=to }) (PtsX.mono ub hb) (EntsX.mono (u2.trans FT.from) hxm) hl λm3 o' xo' hko hs3 hS hKp=>?_
 have hkom:=Qgx hko
 unfold stepC repC at hs3
 have hk2:=hkH.out _ _ _ _ hS hKp
 unfold stepC repC at hk2
 clear hkH
 simp only [↓E1,E2,zA,zB,zC,zD,zE,zF,zG,zH,zI,zJ,zK,zL,zM,zN,reduceIte,zO,zP, *,E3]
 exact hk2
theorem Qh8 {lo : Nat} {fz : Fz} {s : Nat} {o : Nat → Nat} {mu : St} {n : Nat} {r : Rep} {out : List Msg} {vd : Bool} {xe xa xs xd xo : SV} (S : SW lo fz s o mu n r out vd xe xa xs xd xo) (m : Msg) (yb ye : SV)
 (hb : PtsX (Tag28 o (with' mu fz)) yb m.batch) (hm : EntsR (Un s o (with' mu fz)) ye m.log.ents) (hz : LgSz m.log) (hl : out.length ≤ 900) {N : Nat} (hN : r.nodes = (N : Int)) (hN7 : N ≤ 7) {k : KT Prop} {w : WK k}
 (hk : ∀ mu' n' o' xo',SW lo fz s o' mu' n' r (out ++ allM r m N) vd xe xa xs xd xo' → Kp (· = 7) s o o' mu n mu' n' → k noVal mu' n') : CPh P n_Qbx [.one (.optr s 0),.ag (msgC m yb ye)] fz mu n k w:=by
 refine CP_of H.Qbx H.mx 9 ?_
 obtain ⟨-,-,ybk,ybm⟩:=SlX.len hb
 obtain ⟨-,-,yek,yem⟩:=hm.len
 have gA:=(Gr.refl (lo:=n) S.free).cons (Nat.le_refl _) (msgC m yb ye)
 have hsn : s < n:=S.slt
 have S1:=S.trim.gr gA
 have b1 : Ev.look ((n,msgC m yb ye) :: mu) n = some (msgC m yb ye):=by rw [Qdw,if_pos rfl]
 have hKA : Kp (· = 7) s (trim o n) (trim o n) mu n ((n,msgC m yb ye) :: mu) (n + 1):=Gr.kp gA
 have hos : trim o n s = 9:=by rw [Qfz hsn]; exact S.os
 have hm1 : EntsR (Un s (trim o n) (with' ((n,msgC m yb ye) :: mu) fz)) ye m.log.ents:=by
  have u : Sub (Un s o (with' mu fz)) (Un s (trim o n) (with' mu fz)):=λj B hj=>by
   obtain ⟨h1,h2,h3⟩:=Un.el hj
   exact Un.at (by rw [Qfz (S.free.lt h3)]; exact h1) h2 h3
  exact EntsR.mono (u.trans (hKA.un S.free)) hm
 have hb1 : PtsX (Tag28 (trim o n) (with' ((n,msgC m yb ye) :: mu) fz)) yb m.batch:=PtsX.mono ((Tag28.trim S.free).trans (hKA.t28 hos S.free)) hb
 obtain ⟨m1,hm1e⟩ : ∃ mz : St,((n,msgC m yb ye) :: mu) = mz:=⟨_,rfl⟩
 rw [hm1e] at gA S1 b1 hKA hm1 hb1
 have ws1:=Qdl (fz:=fz) S1.cells
 rw [i_Qbx,dc_at b_Qbx.eq_1]
 unfold msgC at hm1e ⊢
 have hkH:=Hide.mk hk
 clear hk
 simp only [↓E1,E2,zA,zB,zC,zD,zE,zF,zG,zH,zI,zJ,zK,zL,zM,zN,reduceIte,zO,zP, *,E3]
 refine loopI (x:=0) (L:=N) (p:=λ_=>true) (λi e mu' n'=>∃ o' xo',SW lo fz s o' mu' n' r (out ++ allM r m i) vd xe xa xs xd xo' ∧ Kp (· = 7) s (trim o n) o' m1 (n + 1) mu' n' ∧ e 0 0 = .one (.optr s 0) ∧ e 0 3 = .one (.optr n 0) ∧ e 0 4 = .one (.int .i64 i)) (λ_ _ _=>False) ?_ ?_ _ _ _ _ _ (by omega) ?_ ?_ (by rintro ⟨_,_,_,h⟩; cases h)
 ·rintro i e mu2 n2 K hi ⟨o2,xo2,S2,K2,e0,e3,e4⟩ hY hn
  have hY':=Hide.mk hY
  clear hY hn
  have hw:=Qdt hi (by omega)
  have hsucc:=Qod r m i
  have hlen:=Qee r m i
  have hon : trim o n n = 0:=Qmy (Nat.le_refl _)
  have b2:=(K2.keep n (by omega) (by omega) (by rw [hon]; omega)).trans b1
  have ws2:=Qdl (fz:=fz) S2.cells
  have wb2:=Qdl (fz:=fz) b2
  have hiN : (i < N) = True:=by simp; exact hi
  obtain ⟨⟨xek,xem⟩,⟨xak,xam⟩,⟨xsk,xsm⟩,⟨xdk,xdm⟩,xok,xom⟩:=S2.ks
  unfold msgC at wb2
  unfold stepC repC at ws2
  rw [hN] at ws2
  clear ws1
  rw [dc_at l_Qbx_0.eq_1]
  simp only [↓E1,E2,zA,zB,zC,zD,zE,zF,zG,zH,zI,zJ,zK,zL,zM,zN,reduceIte,zO,zP, *,E3]
  refine Qdv (λhb=>?_) (λhb=>?_)
  ·have hb' : (i : Int) = r.me:=of_decide_eq_true hb
   rw [if_pos hb'] at hsucc
   clear hb'
   rw [← hsucc] at S2
   simp only [↓E1,E2,zA,zB,zC,zD,zE,zF,zG,zH,zI,zJ,zK,zL,zM,zN,reduceIte,zO,zP, *,E3]
   refine hY'.out rfl _ _ _ ⟨o2,xo2,S2,K2,?_,?_,?_⟩
   all_goals simp [updN,updE, *]
  ·have hb' : ¬ (i : Int) = r.me:=of_decide_eq_false hb
   rw [if_neg hb'] at hsucc
   clear hb'
   have hSend:=λ(k : KT Prop) (w : WK k)=>Qk6 H S2 (i : Nat) m yb ye (PtsX.mono (K2.t28 hos gA.free) hb1) (EntsR.mono (K2.un gA.free |>.trans Un.sub) hm1) hz (by rw [List.length_append]; omega) (k:=k) (w:=w)
   unfold msgC at hSend
   simp only [↓E1,E2,zA,zB,zC,zD,zE,zF,zG,zH,zI,zJ,zK,zL,zM,zN,reduceIte,zO,zP, *,E3]
   refine hSend _ _ λm5 n5 o5 xo5 S5 K5=>?_
   rw [List.append_assoc,← hsucc] at S5
   simp only [↓E1,E2,zA,zB,zC,zD,zE,zF,zG,zH,zI,zJ,zK,zL,zM,zN,reduceIte,zO,zP, *,E3]
   refine hY'.out rfl _ _ _ ⟨o5,xo5,S5,K2.trans K5,?_,?_,?_⟩
   all_goals simp [updN,updE, *]
 ·rintro e mu2 n2 K ⟨o2,xo2,S2,K2,e0,e3,e4⟩ hx
  have hx':=Hide.mk hx
  clear hx
  have hlt : ((N : Int) < N) = False:=by simp
  have hlt2 : (N < N) = False:=by simp
  have ws2:=Qdl (fz:=fz) S2.cells
  unfold stepC repC at ws2
  rw [hN] at ws2
  rw [dc_at l_Qbx_0.eq_1]
  simp only [↓E1,E2,zA,zB,zC,zD,zE,zF,zG,zH,zI,zJ,zK,zL,zM,zN,reduceIte,zO,zP, *]
  refine hx'.out _ _ _ ⟨o2,xo2,S2,K2,?_,?_,?_⟩
  all_goals simp [updN,updE, *]
 ·refine ⟨trim o n,xo,by simpa [allM] using S1,Kp.refl,?_,?_,?_⟩
  all_goals simp [updN,updE,envI]
 ·rintro - e mu2 n2 ⟨o2,xo2,S2,K2,e0,e3,e4⟩
  simp only [↓E1,E2,zA,zB,zC,zD,zE,zF,zG,zH,zI,zJ,zK,zL,zM,zN,reduceIte,zO,zP]
  exact hkH.out _ _ _ _ S2 (hKA.trans K2).trim
end Go.Proofs.YtnnjlnkoomeadaaGreat.Pv
namespace Go.Proofs.YtnnjlnkoomeadaaGreat.Pv
open Go.Ev Go.Ev.Rp
set_option maxRecDepth 100000
set_option maxHeartbeats 4000000
variable {P : Program} (H : Fs P)
include H
theorem Qmc {lo : Nat} {fz : Fz} {s : Nat} {o : Nat → Nat} {mu : St} {n : Nat} {r : Rep} {out : List Msg} {vd : Bool} {xe xa xs xd xo : SV} (S : SW lo fz s o mu n r out vd xe xa xs xd xo)
 {N : Nat} (hN : r.nodes = (N : Int)) (hN7 : N ≤ 7) {k : KT Prop} {w : WK k}
 (hk : ∀ mu' n' o' xa',SW lo fz s o' mu' n' (anewR r N) out vd xe xa' .nsl .nsl xo → Kp (λ_=>False) s o o' mu n mu' n' → k noVal mu' n') : CPh P n_Qbi [.one (.optr s 0)] fz mu n k w:=by
 refine CP_of H.Qbi H.mx 0 ?_
 have hsn : s < n:=S.slt
 obtain ⟨⟨xek,xem⟩,⟨xak,xam⟩,⟨xsk,xsm⟩,⟨xdk,xdm⟩,xok,xom⟩:=S.ks
 have hc:=S.cells
 have ws:=Qdl (fz:=fz) hc
 -- the first stores
 obtain ⟨r1,hr1⟩ : ∃ r1,{ r with sent:=false,starts:=[],dos:=[] } = r1:=⟨_,rfl⟩
 have hT1 : RepT o (with' mu fz) r1 xe xa .nsl .nsl:=S.rt.nil2 (by rw [← hr1]) (by rw [← hr1]; exact S.rt.acks) (by rw [← hr1]) (by rw [← hr1])
 have S1:=S.putT (vd':=vd) hT1
 have K1 : Kp (λ_=>False) s o o mu n _ n:=S.kput (c:=stepC r1 xe xa .nsl .nsl xo vd)
 have hc1:=S1.cells
 have hput : stepC r1 xe xa .nsl .nsl xo vd = [I r.me,I r.nodes,I r.view,I r.normal,I r.status,I r.commit,.bool false,I r.log.base,r.log.snap.sv,xe,xa,.nsl,.nsl,xo,.bool vd]:=by rw [← hr1]; rfl
 rw [hput] at S1 K1 hc1
 -- the row of acks
 have g2 : Gr n fz (putS mu s [I r.me,I r.nodes,I r.view,I r.normal,I r.status,I r.commit,.bool false,I r.log.base,r.log.snap.sv,xe,xa,.nsl,.nsl,xo,.bool vd]) ((n,rep [I 0] N) :: putS mu s [I r.me,I r.nodes,I r.view,I r.normal,I r.status,I r.commit,.bool false,I r.log.base,r.log.snap.sv,xe,xa,.nsl,.nsl,xo,.bool vd]) n (n + 1):=(Gr.refl S1.free).cons (Nat.le_refl _) _
 have S2:=S1.grT (λ_=>3) g2
 have K2 : Kp (λ_=>False) s o _ _ n _ (n + 1):=S1.kgrT (λ_=>3) g2
 have hT3 : RepT (tagN o n λ_=>3) (with' ((n,rep [I 0] N) :: putS mu s [I r.me,I r.nodes,I r.view,I r.normal,I r.status,I r.commit,.bool false,I r.log.base,r.log.snap.sv,xe,xa,.nsl,.nsl,xo,.bool vd]) fz) (anewR r N) xe (.osl n 0 N N 1) .nsl .nsl:=by
  refine S2.rt.nil2 (by rw [← hr1]; rfl) ?_ rfl rfl
  refine .inr ⟨n,by simp [anewR],Tag.at (by rw [Qga (Nat.le_refl _)]) (by rw [Qed,if_pos rfl,Qkl]; rfl),?_,Qg0⟩
  exact Qeq (Qd5 Qg0)
 have S3:=S2.putT (vd':=vd) hT3
 have K3 : Kp (λ_=>False) s _ _ _ (n + 1) _ (n + 1):=S2.kput (c:=stepC (anewR r N) xe (.osl n 0 N N 1) .nsl .nsl xo vd)
 have hk3:=hk _ _ _ _ S3 ((K1.trans K2).trans K3)
 have hw1:=Qdl (fz:=fz) hc1
 have hne : (n = s) = False:=by simp; omega
 have hfits : fits N 8 = true:=Qef (by omega) (by decide) (by decide)
 have hNN : (N < N) = False:=by simp
 have hcell3 : stepC (anewR r N) xe (.osl n 0 N N 1) .nsl .nsl xo vd = [I r.me,I r.nodes,I r.view,I r.normal,I r.status,I r.commit,.bool false,I r.log.base,r.log.snap.sv,xe,.osl n 0 N N 1,.nsl,.nsl,xo,.bool vd]:=rfl
 rw [hcell3] at hk3
 clear hk S S1 S2 S3 K1 K2 K3 hT1 hT3 hcell3 hput g2
 rw [i_Qbi,dc_at b_Qbi.eq_1]
 unfold stepC repC at hc ws
 rw [hN] at *
 simp only [↓E1,E2,zA,zB,zC,zD,zE,zF,zG,zH,zI,zJ,zK,zL,zM,zN,reduceIte,zO,zP, *,E3]
 rw [Qj7,if_neg (by omega),Qiz] at hk3
 exact hk3
theorem Qr3 {lo : Nat} {fz : Fz} {s : Nat} {o : Nat → Nat} {mu : St} {n : Nat} {r : Rep} {out : List Msg} {vd : Bool} {xe xa xs xd xo : SV} (S : SW lo fz s o mu n r out vd xe xa xs xd xo) (v : Int)
 {N : Nat} (hN : r.nodes = (N : Int)) (hN7 : N ≤ 7) (hl : out.length ≤ 900) {k : KT Prop} {w : WK k}
 (hk : ∀ mu' n' o' xa' xo',SW lo fz s o' mu' n' (Qf5 r v N) (out ++ allM r (Qek v) N) vd xe xa' .nsl .nsl xo' → Kp (· = 7) s o o' mu n mu' n' → k noVal mu' n') : CPh P n_Qbg [.one (.optr s 0),.one (I v)] fz mu n k w:=by
 refine CP_of H.Qbg H.mx 0 ?_
 obtain ⟨⟨xek,xem⟩,⟨xak,xam⟩,⟨xsk,xsm⟩,⟨xdk,xdm⟩,xok,xom⟩:=S.ks
 have hc:=S.cells
 have ws:=Qdl (fz:=fz) hc
 have S1:=S.put (r':={ r with view:=v,status:=1 }) (vd':=vd) rfl rfl rfl rfl
 have K1 : Kp (λ_=>False) s o o mu n _ n:=S.kput (c:=stepC { r with view:=v,status:=1 } xe xa xs xd xo vd)
 have hkH:=Hide.mk hk
 have hN':=Hide.mk hN
 clear hk hN
 rw [i_Qbg,dc_at b_Qbg.eq_1]
 unfold stepC repC at hc ws S1 K1
 simp only [↓E1,E2,zA,zB,zC,zD,zE,zF,zG,zH,zI,zJ,zK,zL,zM,zN,reduceIte,zO,zP, *,E3]
 refine Qmc H S1 hN'.out hN7 λm2 n2 o2 xa2 S2 K2=>?_
 simp only [↓E1,E2,zA,zB,zC,zD,zE,zF,zG,zH,zI,zJ,zK,zL,zM,zN,reduceIte,zO,zP, *,E3]
 have hAll:=λ(k : KT Prop) (w : WK k)=>Qh8 H S2 (Qek v) .nsl .nsl (.inl ⟨.inl rfl,rfl⟩) (nilE _) (Qe9 v).log hl (N:=N) hN'.out hN7 (k:=k) (w:=w)
 refine hAll _ _ λm4 n4 o4 xo4 S4 K4=>?_
 simp only [↓E1,E2,zA,zB,zC,zD,zE,zF,zG,zH,zI,zJ,zK,zL,zM,zN,reduceIte,zO,zP, *,E3]
 exact hkH.out _ _ _ _ _ S4 (((K1.trans K2).weaken (λt h=>h.elim)).trans K4)
end Go.Proofs.YtnnjlnkoomeadaaGreat.Pv
namespace Go.Proofs.YtnnjlnkoomeadaaGreat.Pv
open Go.Ev Go.Ev.Rp
set_option maxRecDepth 100000
set_option maxHeartbeats 4000000
theorem SW.put0 {lo : Nat} {fz : Fz} {s : Nat} {o : Nat → Nat} {mu : St} {n : Nat} {r : Rep} {out : List Msg} {vd : Bool} {xe xa xs xd xo : SV} (S : SW lo fz s o mu n r out vd xe xa xs xd xo) {id : Nat} {c d : List SV} (h : Ev.look mu id = some d) (ho : o id = 0) : SW lo fz s o (putS mu id c) n r out vd xe xa xs xd xo:=by
 have u : ∀ t,t ≠ 0 → Sub (Tag o t (with' mu fz)) (Tag o t (with' (putS mu id c) fz)):=λt ht=>Tag.put (lookI h) (by rw [ho]; omega)
 have hne : id ≠ s:=λe=>by have:=S.os; rw [← e,ho] at this; omega
 refine ⟨by rw [Qdm,if_neg hne]; exact S.cells,S.rt.keep λt h1 h2=>u t (by omega),S.ot.keep (u 2 (by omega)) (u 7 (by omega)) (u 8 (by omega)),λj=>?_,S.los,S.os,S.zero,S.fzl⟩
 have:=S.free.lt (Qdl (fz:=fz) h)
 rw [Qds h,if_neg (by omega)]; exact S.free j
theorem Qpe {m : St} {id : Nat} {c d : List SV} (h : Ev.look m id = some d) (j : Nat) : Ev.look ((id,c) :: killS m id) j = Ev.look (putS m id c) j:=by
 rw [Qdw,Qdz,Qdm]
 by_cases e : id = j
 ·rw [if_pos e,if_pos e,h]; rfl
 ·rw [if_neg e,if_neg e,if_neg e]
end Go.Proofs.YtnnjlnkoomeadaaGreat.Pv
