/-
  ReplicaAcks: part 5 of what the proof is made of.
-/
import Derived.Test.YtnnjlnkoomeadaaReplicaAcksP4
import Derived.Shelf.Spec.SlicesInsertGrow
set_option linter.unusedVariables false
set_option linter.unusedSimpArgs false
open Int renaming reduceEq → zA,reduceNe → zB,reduceLT → zC,reduceLE → zD,reduceNeg → zE,reduceAdd → zF,reduceSub → zG,reduceToNat → zH
open Nat renaming reduceEqDiff → zI,reduceAdd → zJ,reduceMul → zK,reduceSub → zL,reduceLeDiff → zM,reduceBEq → zN,reduceLT → zO,reduceBneDiff → zP
namespace Go.Proofs.Ytnnjlnkoomeadaa.Pv
open Go.Ev Go.Ev.Rp
set_option maxRecDepth 100000
set_option maxHeartbeats 4000000
set_option linter.unusedSimpArgs false
set_option linter.unusedVariables false
set_option linter.unusedSectionVars false
def numP (id o : Nat) (f : Int) : SV :=
  if f = 0 then .optr id (o + 3) else if f = 1 then .optr id (o + 4) else if f = 2 then .optr id (o + 5) else if f = 3 then .optr id (o + 6) else if f = 4 then .optr id (o + 7) else if f = 5 then .optr id (o + 8) else
  if f = 6 then .optr id (o + 9) else if f = 7 then .optr id (o + 10) else if f = 8 then .optr id (o + 11) else if f = 9 then .optr id (o + 12) else if f = 10 then .optr id (o + 13) else .npt
def limLo (kind f : Int) : Int:=if f = 8 then 0 else if f = 9 then 0 else if f = 2 ∧ kind = 1 then -1 else if (f = 2 ∨ f = 10) ∧ (kind = 2 ∨ kind = 3) then -2147483648 else 0
def limHi (f : Int) : Int:=if f = 8 then 9 else if f = 9 then 4 else 2147483647
def isNode (x : Int) : Bool:=decide (0 ≤ x) && decide (x < 7)
def isClient (x : Int) : Bool:=decide (100 ≤ x) && decide (x < 108)
def whoB (k a b : Int) : Bool:=(if k = 0 ∨ k = 2 then isClient a else isNode a) && (if k = 1 ∨ k = 3 then isClient b else isNode b)
def fieldsL (k : Int) : List Int :=
  if k = 0 then [6,7,12] else if k = 1 then [6,7,8,2] else if k = 2 then [7,9,11,2,10] else if k = 3 then [7,8,2,4] else if k = 4 then [0,2,3,5,6,7,12] else if k = 5 then [0,2] else if k = 6 then [0,2,3] else
  if k = 7 then [0] else if k = 8 then [0,1,3,13] else if k = 9 then [0,3,13] else if k = 10 then [0,2] else if k = 11 then [0,3,13] else if k = 12 then [0,4] else if k = 13 then [0,4] else if k = 14 then [2] else if k = 15 then [2] else [2,14]
theorem kinds (k : Int) (h0 : 0 ≤ k) (h : k < 17) : k = 0 ∨ k = 1 ∨ k = 2 ∨ k = 3 ∨ k = 4 ∨ k = 5 ∨ k = 6 ∨ k = 7 ∨ k = 8 ∨ k = 9 ∨ k = 10 ∨ k = 11 ∨ k = 12 ∨ k = 13 ∨ k = 14 ∨ k = 15 ∨ k = 16:=by omega
def hasF (k : Int) (f : Nat) : Bool:=(fieldsL k).contains (f : Int)
def hasL (l : List Int) : List SV:=[.bool (l.contains 0),.bool (l.contains 1),.bool (l.contains 2),.bool (l.contains 3),.bool (l.contains 4),.bool (l.contains 5),.bool (l.contains 6),.bool (l.contains 7),.bool (l.contains 8),.bool (l.contains 9),.bool (l.contains 10),.bool (l.contains 11),.bool (l.contains 12),.bool (l.contains 13),.bool (l.contains 14)]
theorem lits (i : Nat) (h : i < 15) : i = 0 ∨ i = 1 ∨ i = 2 ∨ i = 3 ∨ i = 4 ∨ i = 5 ∨ i = 6 ∨ i = 7 ∨ i = 8 ∨ i = 9 ∨ i = 10 ∨ i = 11 ∨ i = 12 ∨ i = 13 ∨ i = 14:=by omega
theorem hasL_len (l : List Int) : (hasL l).length = 15:=rfl
theorem hasL_mkd (l : List Int) : mkd (hasL l) = false:=rfl
theorem over_has (l : List Int) (v : Nat) (h : v < 15) : over (hasL l) v [.bool true] = hasL (l ++ [(v : Int)]):=by
  rcases lits v h with rfl | rfl | rfl | rfl | rfl | rfl | rfl | rfl | rfl | rfl | rfl | rfl | rfl | rfl | rfl <;> simp [over,hasL]
theorem fields_lt (k : Int) (hk : 0 ≤ k ∧ k < 17) : ∀ v ∈ fieldsL k,∃ j : Nat,j < 15 ∧ v = (j : Int):=by
  have h : ∀ l : List Int,(l.all λv=>decide (0 ≤ v) && decide (v < 15)) = true → ∀ v ∈ l,∃ j : Nat,j < 15 ∧ v = (j : Int):=λl h v hv=>by
    have:=List.all_eq_true.1 h v hv
    simp at this
    exact ⟨v.toNat,by omega,by omega⟩
  apply h
  rcases kinds k hk.1 hk.2 with rfl | rfl | rfl | rfl | rfl | rfl | rfl | rfl | rfl | rfl | rfl | rfl | rfl | rfl | rfl | rfl | rfl <;> decide
theorem fields_len (k : Int) (hk : 0 ≤ k ∧ k < 17) : (fieldsL k).length ≤ 7:=by
  rcases kinds k hk.1 hk.2 with rfl | rfl | rfl | rfl | rfl | rfl | rfl | rfl | rfl | rfl | rfl | rfl | rfl | rfl | rfl | rfl | rfl <;> decide
theorem mkd_ints : ∀ l : List Int,mkd (l.map I) = false
  | []=>rfl
  | _ :: _=>rfl
def numV (m : Msg) : Nat → Option Int
  | 0=>some m.view
  | 1=>some m.normal
  | 2=>some m.at'
  | 3=>some m.commit
  | 4=>some m.round
  | 5=>some m.client
  | 6=>some m.session
  | 7=>some m.number
  | 8=>some m.code
  | 9=>some m.agg
  | 10=>some m.until'
  | _=>none
def fieldOk (m : Msg) (f : Nat) : Bool:=match numV m f with | none=>true | some x=>(hasF m.kind f || decide (x = 0)) && decide (limLo m.kind f ≤ x) && decide (x ≤ limHi f)
def msgB (m : Msg) : Bool :=
  decide (0 ≤ m.kind) && decide (m.kind < 17) && whoB m.kind m.frm m.to && (List.range 15).all (fieldOk m) && (if hasF m.kind 11 then nameB m.series else decide (m.series.l = 0)) &&
  decide (m.text.l ≤ 65536) && (hasF m.kind 14 || decide (m.text.l = 0)) && batchB m.batch && (hasF m.kind 12 || decide (m.batch.length = 0)) && lgB m.log && (hasF m.kind 13 || decide (m.log.base = 0) && decide (m.log.ents.length = 0))
variable {P : Program} (H : Fs P)
include H
theorem message_number (id o : Nat) (f : Int) : Ctr P n_message_number [.one (.optr id o),.one (I f)] (λ_=>True) (λ_ _ _ v=>v = .one (numP id o f)):=Ctr.of H.mx H.message_number (λ_=>0) λfz mu n k hfr _ h=>by
  rw [i_message_number,dc_at b_message_number.eq_1]
  have gg:=Gr.refl (lo:=n) hfr
  simp only [↓E1,E2,zA,zB,zC,zD,zE,zF,zG,zH,zI,zJ,zK,zL,zM,zN,reduceIte,zO,zP]
  repeat' (first | ((with_reducible refine Br_intro (λhb=>?_) (λhb=>?_)) <;> simp only [↓E1,E2,zA,zB,zC,zD,zE,zF,zG,zH,zI,zJ,zK,zL,zM,zN,reduceIte,zO,zP, *]))
  all_goals exact h _ _ _ gg (by clear h; simp_all [numP])
theorem message_limits (k0 f : Int) : Ctr P n_message_limits [.one (I k0),.one (I f)] (λ_=>True) (λ_ _ _ v=>v = .tp [.one (I (limLo k0 f)),.one (I (limHi f))]):=Ctr.of H.mx H.message_limits (λ_=>0) λfz mu n k hfr _ h=>by
  rw [i_message_limits,dc_at b_message_limits.eq_1]
  have gg:=Gr.refl (lo:=n) hfr
  simp only [↓E1,E2,zA,zB,zC,zD,zE,zF,zG,zH,zI,zJ,zK,zL,zM,zN,reduceIte,zO,zP]
  repeat' (first | ((with_reducible refine Br_intro (λhb=>?_) (λhb=>?_)) <;> simp only [↓E1,E2,zA,zB,zC,zD,zE,zF,zG,zH,zI,zJ,zK,zL,zM,zN,reduceIte,zO,zP, *]))
  all_goals exact h _ _ _ gg (by clear h; simp_all [limLo,limHi])
theorem message_who (id : Nat) (m : Msg) (xb xe : SV) : BoolC P n_message_who [.one (.optr id 0)] (λM=>M id = some (msgC m xb xe)) (whoB m.kind m.frm m.to):=boolC H.mx H.message_who 0 λfz mu n k hfr gg b1 h=>by
  rw [i_message_who,dc_at b_message_who.eq_1]
  unfold msgC at b1
  have hle:=Nat.le_refl n
  simp only [↓E1,E2,zA,zB,zC,zD,zE,zF,zG,zH,zI,zJ,zK,zL,zM,zN,reduceIte,zO,zP, *]
  repeat' (first | ((with_reducible refine Br_intro (λhb=>?_) (λhb=>?_)) <;> simp only [↓E1,E2,zA,zB,zC,zD,zE,zF,zG,zH,zI,zJ,zK,zL,zM,zN,reduceIte,zO,zP, *]) | ((with_reducible refine CPr_f (f:=n_message_Node) ?_); ((first | (refine (message_Node H _).d2 hfr (by first | trivial | assumption) ?_; rintro v mu2 n2 g2 rfl) | (refine (message_Node H _).d3 hfr (λhm=>by first | trivial) ?_; rintro v mu2 n2 g2 b1 rfl) | (refine (message_Node H _).c1 hfr (by first | trivial | assumption) ?_; rintro v mu2 n2 g2 rfl) | (refine (message_Node H _).c2 hfr (λhm=>by first | trivial) ?_; rintro v mu2 n2 g2 b1 rfl) | (refine (message_Node H _).c3 hfr (λhm=>by first | trivial) ?_; rintro v mu2 n2 g2 b1 b2 rfl)); (try replace b1:=g2.old hfr b1); replace gg:=gg.trans (g2.weaken hle); replace hle:=Nat.le_trans hle g2.le; replace hfr:=g2.free; clear g2; simp only [↓E1,E2,zA,zB,zC,zD,zE,zF,zG,zH,zI,zJ,zK,zL,zM,zN,reduceIte,zO,zP, *])) | ((with_reducible refine CPr_f (f:=n_message_Client) ?_); ((first | (refine (message_Client H _).d2 hfr (by first | trivial | assumption) ?_; rintro v mu2 n2 g2 rfl) | (refine (message_Client H _).d3 hfr (λhm=>by first | trivial) ?_; rintro v mu2 n2 g2 b1 rfl) | (refine (message_Client H _).c1 hfr (by first | trivial | assumption) ?_; rintro v mu2 n2 g2 rfl) | (refine (message_Client H _).c2 hfr (λhm=>by first | trivial) ?_; rintro v mu2 n2 g2 b1 rfl) | (refine (message_Client H _).c3 hfr (λhm=>by first | trivial) ?_; rintro v mu2 n2 g2 b1 b2 rfl)); (try replace b1:=g2.old hfr b1); replace gg:=gg.trans (g2.weaken hle); replace hle:=Nat.le_trans hle g2.le; replace hfr:=g2.free; clear g2; simp only [↓E1,E2,zA,zB,zC,zD,zE,zF,zG,zH,zI,zJ,zK,zL,zM,zN,reduceIte,zO,zP, *])))
  all_goals (refine leafB h (by first | exact gg | exact gg.cons hle _ | exact (gg.cons hle _).cons (Nat.le_succ_of_le hle) _) ?_; (try clear loop); (try clear u); clear h; first | (simp_all [whoB,isNode,isClient]; done) | (simp_all [whoB,isNode,isClient]; omega))
theorem message_fields (k0 : Int) (h0 : 0 ≤ k0) (h1 : k0 < 17) : Ctr P n_message_fields [.one (I k0)] (λ_=>True) (λ_ _ M v=>∃ id,v = .tp [.one (.osl id 0 (fieldsL k0).length (fieldsL k0).length 1),.one (.bool true)] ∧ M id = some ((fieldsL k0).map I)):=Ctr.of H.mx H.message_fields (λ_=>0) λfz mu n k hfr _ h=>by
  rw [i_message_fields,dc_at b_message_fields.eq_1]
  have gg:=Gr.refl (lo:=n) hfr
  rcases kinds k0 h0 h1 with rfl | rfl | rfl | rfl | rfl | rfl | rfl | rfl | rfl | rfl | rfl | rfl | rfl | rfl | rfl | rfl | rfl
  all_goals
    simp only [↓E1,E2,zA,zB,zC,zD,zE,zF,zG,zH,zI,zJ,zK,zL,zM,zN,reduceIte,zO,zP]
    refine h _ _ _ ?_ ⟨_,rfl,?_⟩
    · repeat (first | exact Gr.refl hfr | refine Gr.cons ?_ (by omega) _)
    · repeat (first | (rw [with_c,if_pos rfl]) | (rw [with_c,if_neg (by omega)]))
      rfl
theorem message_fields_bad (k0 : Int) (h0 : ¬ (0 ≤ k0 ∧ k0 < 17)) : Ctr P n_message_fields [.one (I k0)] (λ_=>True) (λ_ _ M v=>v = .tp [.one .nsl,.one (.bool false)]):=Ctr.of H.mx H.message_fields (λ_=>0) λfz mu n k hfr _ h=>by
  rw [i_message_fields,dc_at b_message_fields.eq_1]
  have gg:=Gr.refl (lo:=n) hfr
  simp only [↓E1,E2,zA,zB,zC,zD,zE,zF,zG,zH,zI,zJ,zK,zL,zM,zN,reduceIte,zO,zP]
  repeat' (first | ((with_reducible refine Br_intro (λhb=>?_) (λhb=>?_)) <;> simp only [↓E1,E2,zA,zB,zC,zD,zE,zF,zG,zH,zI,zJ,zK,zL,zM,zN,reduceIte,zO,zP, *]))
  all_goals first
    | (refine h _ _ _ ?_ rfl; (repeat (first | exact Gr.refl hfr | refine Gr.cons ?_ (by omega) _)); done)
    | (exfalso; clear h; simp_all; done)
    | (exfalso; clear h; simp_all; omega)
theorem message_May (m : Msg) (xb xe : SV) : BoolC P n_message_May [.ag (msgC m xb xe)] (λM=>PtsR M xb m.batch ∧ EntsR M xe m.log.ents) (msgB m):=boolC H.mx H.message_May 16 λfz mu n k hfr gg s h=>by
  obtain ⟨s1,s2⟩:=s
  obtain ⟨xl,xs,xk,xm⟩:=s1.len
  obtain ⟨yl,ys,yk,ym⟩:=s2.len
  rw [i_message_May,dc_at b_message_May.eq_1]
  have hle:=Nat.le_refl n
  have hmc : msgC m xb xe = msgC m xb xe:=rfl
  conv at hmc=>rhs; unfold msgC
  have z1:=s1
  have z2:=s2
  have hfr0:=hfr
  by_cases hk : 0 ≤ m.kind ∧ m.kind < 17
  · have loop0 : ∀ (e : Env) mu1 n1 (K : LK) w (fid hid : Nat), n ≤ hid → ¬ hid = fid → ¬ hid = n → Gr n fz mu mu1 n n1 → with' mu1 fz n = some (msgC m xb xe) → with' mu1 fz fid = some ((fieldsL m.kind).map I) → Ev.look mu1 hid = some (hasL []) →
        e 0 1 = .one (.optr n 0) → e 0 5 = .one (.optr hid 0) → e 1 8 = .one (.osl fid 0 (fieldsL m.kind).length (fieldsL m.kind).length 1) → e 1 9 = .one (.int .i64 (fieldsL m.kind).length) → e 1 10 = .one (.int .i64 0) →
        (∀ e' mu' n',Gr n fz mu mu' n n' → with' mu' fz n = some (msgC m xb xe) → with' mu' fz hid = some (hasL (fieldsL m.kind)) → e' 0 1 = .one (.optr n 0) → e' 0 5 = .one (.optr hid 0) → K (.exit 0) (tmE 141 e') mu' n') →
        Lp (dcode pOrc False (CP P) fz 16 l_message_May_0) 16 (tmE 141 e) mu1 n1 K w:=by
      intro e mu1 n1 K w fid hid hh1 hh2 hh3 g1 a1 a2 a3 a4 a5 a6 a7 a8 hd
      have hlen:=fields_len m.kind hk
      refine loopI (x:=0) (L:=(fieldsL m.kind).length) (p:=λ_=>true) (λi e mu' n'=>Gr n fz mu mu' n n' ∧ with' mu' fz n = some (msgC m xb xe) ∧ with' mu' fz fid = some ((fieldsL m.kind).map I) ∧ Ev.look mu' hid = some (hasL ((fieldsL m.kind).take i)) ∧
        e 0 1 = .one (.optr n 0) ∧ e 0 5 = .one (.optr hid 0) ∧ e 1 8 = .one (.osl fid 0 (fieldsL m.kind).length (fieldsL m.kind).length 1) ∧ e 1 9 = .one (.int .i64 (fieldsL m.kind).length) ∧ e 1 10 = .one (.int .i64 i)) (λ_ _ _=>False) ?_ ?_ e mu1 n1 K w (by omega) ⟨g1,a1,a2,a3,a4,a5,a6,a7,a8⟩ ?_ (λ⟨_,_,_,h⟩=>by cases h)
      · rintro i e mu n K hi ⟨g1,a1,a2,a3,a4,a5,a6,a7,a8⟩ hy _
        obtain ⟨j,hj,hv⟩:=fields_lt m.kind hk _ (List.getElem_mem hi)
        have hw:=wrap_succ hi (by omega)
        have hB : List.take 1 (List.drop i ((fieldsL m.kind).map I)) = [I j]:=by rw [← List.map_drop,← List.map_take,List.drop_eq_getElem_cons hi]; simp [hv]
        have hmk:=mkd_ints (fieldsL m.kind)
        have hi1 : i + 1 ≤ (fieldsL m.kind).length:=hi
        have hj1 : j + 1 ≤ 15:=hj
        have ho:=over_has ((fieldsL m.kind).take i) j hj
        have ht : (fieldsL m.kind).take i ++ [(j : Int)] = (fieldsL m.kind).take (i + 1):=by rw [List.take_succ_eq_append_getElem hi,hv]
        have hid1:=Gr.put (c:=hasL ((fieldsL m.kind).take (i + 1))) g1 hh1 a3
        have hnf : ¬ hid = fid:=hh2
        rw [dc_at l_message_May_0.eq_1]
        simp only [↓E1,E2,zA,zB,zC,zD,zE,zF,zG,zH,zI,zJ,zK,zL,zM,zN,reduceIte,zO,zP, *,Nat.mul_one,List.length_map,hasL_len,hasL_mkd]
        refine hy rfl _ _ _ ⟨hid1,?_,?_,?_,?_,?_,?_,?_,?_⟩
        · rw [with_putS a3,if_neg hh3]; exact a1
        · rw [with_putS a3,if_neg hh2]; exact a2
        · rw [look_putS,if_pos rfl,a3]; rfl
        all_goals simp [updN,updE, *]
      · rintro e mu n K hI hd
        obtain ⟨g1,a1,a2,a3,a4,a5,a6,a7,a8⟩:=id hI
        rw [dc_at l_message_May_0.eq_1]
        have hlt : ((fieldsL m.kind).length < (fieldsL m.kind).length) = False:=by simp
        simp only [↓E1,E2,zA,zB,zC,zD,zE,zF,zG,zH,zI,zJ,zK,zL,zM,zN,reduceIte,zO,zP, *]
        all_goals refine hd _ _ _ ⟨g1,a1,a2,a3,by simp [updN,updE, *],by simp [updN,updE, *],by simp [updN,updE, *],by simp [updN,updE, *],by simp [updN,updE, *]⟩
      · rintro _ e' mu' n' ⟨g1,a1,a2,a3,a4,a5,a6,a7,a8⟩
        refine hd e' mu' n' g1 a1 ?_ a4 a5
        rw [List.take_length] at a3; exact look_with a3
    have loop1 : ∀ (e : Env) mu1 n1 (K : LK) w (hid : Nat), ¬ hid = n → Gr n fz mu mu1 n n1 → with' mu1 fz n = some (msgC m xb xe) → with' mu1 fz hid = some (hasL (fieldsL m.kind)) →
        e 0 1 = .one (.optr n 0) → e 0 5 = .one (.optr hid 0) → e 2 1 = .one (.int .i64 0) →
        ((List.range 15).all (fieldOk m) = true → ∀ e' mu' n',Gr n fz mu mu' n n' → with' mu' fz n = some (msgC m xb xe) → with' mu' fz hid = some (hasL (fieldsL m.kind)) → e' 0 1 = .one (.optr n 0) → e' 0 5 = .one (.optr hid 0) → K (.exit 2) (tmE 141 e') mu' n') →
        ((List.range 15).all (fieldOk m) = false → ∀ e' mu' n',Gr n fz mu mu' n n' → e' 0 2 = .one (.bool false) → K .ret (tmE 141 e') mu' n') →
        Lp (dcode pOrc False (CP P) fz 16 l_message_May_1) 16 (tmE 141 e) mu1 n1 K w:=by
      intro e mu1 n1 K w hid hh3 g1 a1 a2 a3 a4 a5 hd hr
      refine loopI (x:=2) (L:=15) (p:=fieldOk m) (λi e mu' n'=>Gr n fz mu mu' n n' ∧ with' mu' fz n = some (msgC m xb xe) ∧ with' mu' fz hid = some (hasL (fieldsL m.kind)) ∧
        e 0 1 = .one (.optr n 0) ∧ e 0 5 = .one (.optr hid 0) ∧ e 2 1 = .one (.int .i64 i)) (λe mu' n'=>Gr n fz mu mu' n n' ∧ e 0 2 = .one (.bool false)) ?_ ?_ e mu1 n1 K w (by omega) ⟨g1,a1,a2,a3,a4,a5⟩ (λha e' mu' n' hI=>hd (all_range ha) e' mu' n' hI.1 hI.2.1 hI.2.2.1 hI.2.2.2.1 hI.2.2.2.2.1) (λhx e' mu' n' hR=>hr (not_all_range hx) e' mu' n' hR.1 hR.2)
      · rintro i e mu1 n1 K hi ⟨g1,b1,b2,a3,a4,a5⟩ hy hn
        have hfr0:=hfr
        have hfr:=g1.free
        have gg:=Gr.refl (lo:=n1) hfr
        have hle:=Nat.le_refl n1
        clear hd hr h
        unfold msgC at b1
        unfold hasL at b2
        rw [dc_at l_message_May_1.eq_1]
        rcases lits i hi with rfl | rfl | rfl | rfl | rfl | rfl | rfl | rfl | rfl | rfl | rfl | rfl | rfl | rfl | rfl
        all_goals simp only [↓E1,E2,zA,zB,zC,zD,zE,zF,zG,zH,zI,zJ,zK,zL,zM,zN,reduceIte,zO,zP, *]
        repeat' (first | ((with_reducible refine Br_intro (λhb=>?_) (λhb=>?_)) <;> simp only [↓E1,E2,zA,zB,zC,zD,zE,zF,zG,zH,zI,zJ,zK,zL,zM,zN,reduceIte,zO,zP, *,numP]) | ((with_reducible refine CPr_f (f:=n_message_number) ?_); ((first | (refine (message_number H _ _ _).d2 hfr (by first | trivial | assumption) ?_; rintro v mu2 n2 g2 rfl) | (refine (message_number H _ _ _).d3 hfr (λhm=>by first | trivial) ?_; rintro v mu2 n2 g2 b1 rfl) | (refine (message_number H _ _ _).c1 hfr (by first | trivial | assumption) ?_; rintro v mu2 n2 g2 rfl) | (refine (message_number H _ _ _).c2 hfr (λhm=>by first | trivial) ?_; rintro v mu2 n2 g2 b1 rfl) | (refine (message_number H _ _ _).c3 hfr (λhm=>by first | trivial) ?_; rintro v mu2 n2 g2 b1 b2 rfl)); (try replace b1:=g2.old hfr b1); (try replace b2:=g2.old hfr b2); replace gg:=gg.trans (g2.weaken hle); replace hle:=Nat.le_trans hle g2.le; replace hfr:=g2.free; clear g2; simp only [↓E1,E2,zA,zB,zC,zD,zE,zF,zG,zH,zI,zJ,zK,zL,zM,zN,reduceIte,zO,zP, *,numP])) | ((with_reducible refine CPr_f (f:=n_message_limits) ?_); ((first | (refine (message_limits H _ _).d2 hfr (by first | trivial | assumption) ?_; rintro v mu2 n2 g2 rfl) | (refine (message_limits H _ _).d3 hfr (λhm=>by first | trivial) ?_; rintro v mu2 n2 g2 b1 rfl) | (refine (message_limits H _ _).c1 hfr (by first | trivial | assumption) ?_; rintro v mu2 n2 g2 rfl) | (refine (message_limits H _ _).c2 hfr (λhm=>by first | trivial) ?_; rintro v mu2 n2 g2 b1 rfl) | (refine (message_limits H _ _).c3 hfr (λhm=>by first | trivial) ?_; rintro v mu2 n2 g2 b1 b2 rfl)); (try replace b1:=g2.old hfr b1); (try replace b2:=g2.old hfr b2); replace gg:=gg.trans (g2.weaken hle); replace hle:=Nat.le_trans hle g2.le; replace hfr:=g2.free; clear g2; simp only [↓E1,E2,zA,zB,zC,zD,zE,zF,zG,zH,zI,zJ,zK,zL,zM,zN,reduceIte,zO,zP, *,numP])))
        all_goals first
          | (refine hy (by clear hy hn loop0 b1 b2; first | (simp_all [fieldOk,numV,hasF]; done) | (simp_all [fieldOk,numV,hasF]; omega)) _ _ _ ⟨g1.trans (gg.weaken g1.le),b1,b2,?_,?_,?_⟩ <;> simp [updN,updE, *]; done)
          | (refine hn (by clear hy hn loop0 b1 b2; first | (simp_all [fieldOk,numV,hasF]; done) | (simp_all [fieldOk,numV,hasF]; omega)) _ _ _ ⟨g1.trans (gg.weaken g1.le),?_⟩; simp [updN,updE, *]; done)
      · rintro e mu n K hI hd
        obtain ⟨g1,a1,a2,a3,a4,a5⟩:=id hI
        rw [dc_at l_message_May_1.eq_1]
        have hlt : ((15 : Int) < 15) = False:=by simp
        simp only [↓E1,E2,zA,zB,zC,zD,zE,zF,zG,zH,zI,zJ,zK,zL,zM,zN,reduceIte,zO,zP, *]
        all_goals refine hd _ _ _ ⟨g1,a1,a2,by simp [updN,updE, *],by simp [updN,updE, *],by simp [updN,updE, *]⟩
    have ho:=over_has
    simp only [↓E1,E2,zA,zB,zC,zD,zE,zF,zG,zH,zI,zJ,zK,zL,zM,zN,reduceIte,zO,zP, *]
    refine (message_fields H m.kind hk.1 hk.2).c2 hfr (λ_=>trivial) ?_
    rintro v mu2 n2 g2 b1 ⟨fid,rfl,b3⟩
    (try replace b1:=g2.old hfr b1); (try replace b3:=g2.old hfr b3); (try replace s1:=PtsR.mono (λ_ _ hh=>g2.old hfr hh) s1); (try replace s2:=EntsR.mono (λ_ _ hh=>g2.old hfr hh) s2); replace gg:=gg.trans (g2.weaken hle); replace hle:=Nat.le_trans hle g2.le; replace hfr:=g2.free; clear g2
    simp only [↓E1,E2,zA,zB,zC,zD,zE,zF,zG,zH,zI,zJ,zK,zL,zM,zN,reduceIte,zO,zP, *]
    repeat' (first | ((with_reducible refine Br_intro (λhb=>?_) (λhb=>?_)) <;> simp only [↓E1,E2,zA,zB,zC,zD,zE,zF,zG,zH,zI,zJ,zK,zL,zM,zN,reduceIte,zO,zP, *]) | ((with_reducible refine CPr_f (f:=n_message_who) ?_); ((first | (refine (message_who H n m xb xe).d2 hfr (by first | trivial | exact s1 | exact s2 | assumption) ?_; rintro v mu2 n2 g2 rfl) | (refine (message_who H n m xb xe).d3 hfr (λhm=>by first | trivial | exact PtsR.mono hm s1 | exact EntsR.mono hm s2) ?_; rintro v mu2 n2 g2 b1 rfl) | (refine (message_who H n m xb xe).c1 hfr (by first | trivial | exact s1 | exact s2 | assumption) ?_; rintro v mu2 n2 g2 rfl) | (refine (message_who H n m xb xe).c2 hfr (λhm=>by first | trivial | exact PtsR.mono hm s1 | exact EntsR.mono hm s2) ?_; rintro v mu2 n2 g2 b1 rfl) | (refine (message_who H n m xb xe).c3 hfr (λhm=>by first | trivial | exact PtsR.mono hm s1 | exact EntsR.mono hm s2) ?_; rintro v mu2 n2 g2 b1 b2 rfl)); (try replace b1:=g2.old hfr b1); (try replace b3:=g2.old hfr b3); (try replace s1:=PtsR.mono (λ_ _ hh=>g2.old hfr hh) s1); (try replace s2:=EntsR.mono (λ_ _ hh=>g2.old hfr hh) s2); replace gg:=gg.trans (g2.weaken hle); replace hle:=Nat.le_trans hle g2.le; replace hfr:=g2.free; clear g2; simp only [↓E1,E2,zA,zB,zC,zD,zE,zF,zG,zH,zI,zJ,zK,zL,zM,zN,reduceIte,zO,zP, *])))
    all_goals try (refine leafB h (by exact gg) (by clear loop0 loop1 h; simp_all [msgB]); done)
    have hf1:=hfr.lt b3
    have hf2:=hfr.lt b1
    have hbx : ∀ id c,with' mu2 fz id = some c → with' ((n2,hasL []) :: mu2) fz id = some c:=λid c hh=>by rw [with_c,if_neg (by have:=hfr.lt hh; omega)]; exact hh
    refine loop0 _ _ _ _ _ fid n2 hle (by omega) (by omega) (gg.cons hle _) (hbx _ _ b1) (hbx _ _ b3) own_at (by simp [updN,updE]) (by simp [updN,updE]) (by simp [updN,updE]) (by simp [updN,updE]) (by simp [updN,updE]) ?_
    clear b1 b3 s1 s2
    intro e3 mu3 n3 g3 b1 b2 a1 a2
    simp only [↓E1,E2,zA,zB,zC,zD,zE,zF,zG,zH,zI,zJ,zK,zL,zM,zN,reduceIte,zO,zP, *]
    refine loop1 _ _ _ _ _ n2 (by omega) g3 b1 b2 (by simp [updN,updE, *]) (by simp [updN,updE, *]) (by simp [updN,updE, *]) ?_ ?_
    · intro hall e4 mu4 n4 g4 b1 b2 a1 a2
      unfold msgC at b1
      unfold hasL at b2
      have s1:=PtsR.mono (λ_ _ hh=>g4.old hfr0 hh) z1
      have s2:=EntsR.mono (λ_ _ hh=>g4.old hfr0 hh) z2
      have hfr:=g4.free
      have gg:=g4
      have hle:=g4.le
      clear loop0 loop1 g3
      simp only [↓E1,E2,zA,zB,zC,zD,zE,zF,zG,zH,zI,zJ,zK,zL,zM,zN,reduceIte,zO,zP, *,tx_empty]
      repeat' (first | ((with_reducible refine Br_intro (λhb=>?_) (λhb=>?_)) <;> simp only [↓E1,E2,zA,zB,zC,zD,zE,zF,zG,zH,zI,zJ,zK,zL,zM,zN,reduceIte,zO,zP, *,tx_empty]) | ((with_reducible refine CPr_f (f:=n_point_Name) ?_); ((first | (refine (point_Name H m.series).d2 hfr (by first | trivial | exact s1 | exact s2 | assumption) ?_; rintro v mu2 n2 g2 rfl) | (refine (point_Name H m.series).d3 hfr (λhm=>by first | trivial | exact PtsR.mono hm s1 | exact EntsR.mono hm s2) ?_; rintro v mu2 n2 g2 b1 rfl) | (refine (point_Name H m.series).c1 hfr (by first | trivial | exact s1 | exact s2 | assumption) ?_; rintro v mu2 n2 g2 rfl) | (refine (point_Name H m.series).c2 hfr (λhm=>by first | trivial | exact PtsR.mono hm s1 | exact EntsR.mono hm s2) ?_; rintro v mu2 n2 g2 b1 rfl) | (refine (point_Name H m.series).c3 hfr (λhm=>by first | trivial | exact PtsR.mono hm s1 | exact EntsR.mono hm s2) ?_; rintro v mu2 n2 g2 b1 b2 rfl)); (try replace b1:=g2.old hfr b1); (try replace b2:=g2.old hfr b2); (try replace s1:=PtsR.mono (λ_ _ hh=>g2.old hfr hh) s1); (try replace s2:=EntsR.mono (λ_ _ hh=>g2.old hfr hh) s2); replace gg:=gg.trans (g2.weaken hle); replace hle:=Nat.le_trans hle g2.le; replace hfr:=g2.free; clear g2; simp only [↓E1,E2,zA,zB,zC,zD,zE,zF,zG,zH,zI,zJ,zK,zL,zM,zN,reduceIte,zO,zP, *,tx_empty])) | ((with_reducible refine CPr_f (f:=n_point_Batch) ?_); ((first | (refine (point_Batch H xb m.batch).d2 hfr (by first | trivial | exact s1 | exact s2 | assumption) ?_; rintro v mu2 n2 g2 rfl) | (refine (point_Batch H xb m.batch).d3 hfr (λhm=>by first | trivial | exact PtsR.mono hm s1 | exact EntsR.mono hm s2) ?_; rintro v mu2 n2 g2 b1 rfl) | (refine (point_Batch H xb m.batch).c1 hfr (by first | trivial | exact s1 | exact s2 | assumption) ?_; rintro v mu2 n2 g2 rfl) | (refine (point_Batch H xb m.batch).c2 hfr (λhm=>by first | trivial | exact PtsR.mono hm s1 | exact EntsR.mono hm s2) ?_; rintro v mu2 n2 g2 b1 rfl) | (refine (point_Batch H xb m.batch).c3 hfr (λhm=>by first | trivial | exact PtsR.mono hm s1 | exact EntsR.mono hm s2) ?_; rintro v mu2 n2 g2 b1 b2 rfl)); (try replace b1:=g2.old hfr b1); (try replace b2:=g2.old hfr b2); (try replace s1:=PtsR.mono (λ_ _ hh=>g2.old hfr hh) s1); (try replace s2:=EntsR.mono (λ_ _ hh=>g2.old hfr hh) s2); replace gg:=gg.trans (g2.weaken hle); replace hle:=Nat.le_trans hle g2.le; replace hfr:=g2.free; clear g2; simp only [↓E1,E2,zA,zB,zC,zD,zE,zF,zG,zH,zI,zJ,zK,zL,zM,zN,reduceIte,zO,zP, *,tx_empty])) | ((with_reducible refine CPr_f (f:=n_message_MayLog) ?_); ((first | (refine (message_MayLog H m.log xe).d2 hfr (by first | trivial | exact s1 | exact s2 | assumption) ?_; rintro v mu2 n2 g2 rfl) | (refine (message_MayLog H m.log xe).d3 hfr (λhm=>by first | trivial | exact PtsR.mono hm s1 | exact EntsR.mono hm s2) ?_; rintro v mu2 n2 g2 b1 rfl) | (refine (message_MayLog H m.log xe).c1 hfr (by first | trivial | exact s1 | exact s2 | assumption) ?_; rintro v mu2 n2 g2 rfl) | (refine (message_MayLog H m.log xe).c2 hfr (λhm=>by first | trivial | exact PtsR.mono hm s1 | exact EntsR.mono hm s2) ?_; rintro v mu2 n2 g2 b1 rfl) | (refine (message_MayLog H m.log xe).c3 hfr (λhm=>by first | trivial | exact PtsR.mono hm s1 | exact EntsR.mono hm s2) ?_; rintro v mu2 n2 g2 b1 b2 rfl)); (try replace b1:=g2.old hfr b1); (try replace b2:=g2.old hfr b2); (try replace s1:=PtsR.mono (λ_ _ hh=>g2.old hfr hh) s1); (try replace s2:=EntsR.mono (λ_ _ hh=>g2.old hfr hh) s2); replace gg:=gg.trans (g2.weaken hle); replace hle:=Nat.le_trans hle g2.le; replace hfr:=g2.free; clear g2; simp only [↓E1,E2,zA,zB,zC,zD,zE,zF,zG,zH,zI,zJ,zK,zL,zM,zN,reduceIte,zO,zP, *,tx_empty])))
      all_goals (refine leafB h gg ?_; clear h b1 b2 z1 z2 ho hbx hmc xl yl; unfold msgB hasF; rw [hall]; first | (simp_all [-List.length_eq_zero_iff]; done) | (simp_all [-List.length_eq_zero_iff]; omega))
    · intro hall e4 mu4 n4 g4 a1
      simp only [↓E1,E2,zA,zB,zC,zD,zE,zF,zG,zH,zI,zJ,zK,zL,zM,zN,reduceIte,zO,zP, *]
      exact leafB h g4 (by unfold msgB; rw [hall]; simp)
  · have hf:=message_fields_bad H m.kind hk
    unfold msgC
    simp only [↓E1,E2,zA,zB,zC,zD,zE,zF,zG,zH,zI,zJ,zK,zL,zM,zN,reduceIte,zO,zP, *]
    refine hf.c2 hfr (λ_=>trivial) ?_
    rintro v mu2 n2 g2 b1 rfl
    simp only [↓E1,E2,zA,zB,zC,zD,zE,zF,zG,zH,zI,zJ,zK,zL,zM,zN,reduceIte,zO,zP, *]
    exact leafB h g2 (by unfold msgB; simp; omega)
end Go.Proofs.Ytnnjlnkoomeadaa.Pv
namespace Go.Proofs.Ytnnjlnkoomeadaa.Pv
open Go.Ev Go.Ev.Rp
set_option maxRecDepth 100000
set_option maxHeartbeats 4000000
set_option linter.unusedSimpArgs false
set_option linter.unusedVariables false
set_option linter.unusedSectionVars false
def prim (v k : Int) : Int:=if k < 1 ∨ v < 0 then 0 else v.tmod k
def leadsB (r : Rep) : Bool:=decide (prim r.view r.nodes = r.me)
def leadB (r : Rep) : Bool:=leadsB r && decide (r.status = 0)
def stepC (r : Rep) (xe xa xs xd xo : SV) (vd : Bool) : List SV:=repC r xe xa xs xd ++ [xo,.bool vd]
variable {P : Program} (H : Fs P)
include H
theorem replica_Primary (v k0 : Int) : Ctr P n_replica_Primary [.one (I v),.one (I k0)] (λ_=>True) (λ_ _ _ w=>w = .one (I (prim v k0))):=Ctr.of H.mx H.replica_Primary (λ_=>0) λfz mu n k hfr _ h=>by
  rw [i_replica_Primary,dc_at b_replica_Primary.eq_1]
  have gg:=Gr.refl (lo:=n) hfr
  have hA : True:=trivial
  have hle:=Nat.le_refl n
  simp only [↓E1,E2,zA,zB,zC,zD,zE,zF,zG,zH,zI,zJ,zK,zL,zM,zN,reduceIte,zO,zP]
  repeat' (first | ((with_reducible refine Br_intro (λhb=>?_) (λhb=>?_)) <;> (replace hA:=And.intro hA hb; clear hb; simp only [↓E1,E2,zA,zB,zC,zD,zE,zF,zG,zH,zI,zJ,zK,zL,zM,zN,reduceIte,zO,zP, *])))
  all_goals try (refine h _ _ _ gg ?_; clear h; simp_all [prim]; done)
  have hz : ¬ k0 = 0:=by simp at hA; omega
  simp only [↓E1,E2,zA,zB,zC,zD,zE,zF,zG,zH,zI,zJ,zK,zL,zM,zN,reduceIte,zO,zP,hz]
  refine h _ _ _ gg ?_
  simp at hA
  simp [prim]; omega
theorem replica_step_leads (id : Nat) (r : Rep) (xe xa xs xd xo : SV) (vd : Bool) : BoolC P n_replica_step_leads [.one (.optr id 0)] (λM=>M id = some (stepC r xe xa xs xd xo vd)) (leadsB r):=boolC H.mx H.replica_step_leads 0 λfz mu n k hfr gg b1 h=>by
  rw [i_replica_step_leads,dc_at b_replica_step_leads.eq_1]
  unfold stepC repC at b1
  have b9:=b1
  have hA : True:=trivial
  have hle:=Nat.le_refl n
  simp only [↓E1,E2,zA,zB,zC,zD,zE,zF,zG,zH,zI,zJ,zK,zL,zM,zN,reduceIte,zO,zP, *]
  repeat' (first | ((with_reducible refine Br_intro (λhb=>?_) (λhb=>?_)) <;> (replace hA:=And.intro hA hb; clear hb; simp only [↓E1,E2,zA,zB,zC,zD,zE,zF,zG,zH,zI,zJ,zK,zL,zM,zN,reduceIte,zO,zP, *])) | ((with_reducible refine CPr_f (f:=n_replica_Primary) ?_); ((first | (refine (replica_Primary H _ _).d2 hfr (by first | trivial | assumption) ?_; rintro v mu2 n2 g2 rfl) | (refine (replica_Primary H _ _).d3 hfr (λhm=>by first | trivial) ?_; rintro v mu2 n2 g2 b1 rfl) | (refine (replica_Primary H _ _).c1 hfr (by first | trivial | assumption) ?_; rintro v mu2 n2 g2 rfl) | (refine (replica_Primary H _ _).c2 hfr (λhm=>by first | trivial) ?_; rintro v mu2 n2 g2 b1 rfl) | (refine (replica_Primary H _ _).c3 hfr (λhm=>by first | trivial) ?_; rintro v mu2 n2 g2 b1 b2 rfl)); (try replace b1:=g2.old hfr b1); replace gg:=gg.trans (g2.weaken hle); replace hle:=Nat.le_trans hle g2.le; replace hfr:=g2.free; clear g2; simp only [↓E1,E2,zA,zB,zC,zD,zE,zF,zG,zH,zI,zJ,zK,zL,zM,zN,reduceIte,zO,zP, *])))
  all_goals try (refine leafB h (by first | exact gg | exact gg.cons hle _ | exact (gg.cons hle _).cons (Nat.le_succ_of_le hle) _) ?_; (clear h gg hle hfr); (try clear loop); (try clear loop0); (try clear loop1); (try clear s1); (try clear s2); (try clear s3); (try clear s4); (try clear b1); (try clear b2); clear b9; first | (simp_all [leadsB]; done) | (simp_all [leadsB]; omega))
theorem replica_step_normal (id : Nat) (r : Rep) (xe xa xs xd xo : SV) (vd : Bool) : BoolC P n_replica_step_normal [.one (.optr id 0)] (λM=>M id = some (stepC r xe xa xs xd xo vd)) (leadB r):=boolC H.mx H.replica_step_normal 0 λfz mu n k hfr gg b1 h=>by
  rw [i_replica_step_normal,dc_at b_replica_step_normal.eq_1]
  have b0:=b1
  unfold stepC repC at b1
  have hA : True:=trivial
  have hle:=Nat.le_refl n
  simp only [↓E1,E2,zA,zB,zC,zD,zE,zF,zG,zH,zI,zJ,zK,zL,zM,zN,reduceIte,zO,zP, *]
  repeat' (first | ((with_reducible refine Br_intro (λhb=>?_) (λhb=>?_)) <;> (replace hA:=And.intro hA hb; clear hb; simp only [↓E1,E2,zA,zB,zC,zD,zE,zF,zG,zH,zI,zJ,zK,zL,zM,zN,reduceIte,zO,zP, *])) | ((with_reducible refine CPr_f (f:=n_replica_step_leads) ?_); ((first | (refine (replica_step_leads H id r xe xa xs xd xo vd).d2 hfr (by first | trivial | assumption) ?_; rintro v mu2 n2 g2 rfl) | (refine (replica_step_leads H id r xe xa xs xd xo vd).d3 hfr (λhm=>by first | trivial) ?_; rintro v mu2 n2 g2 b1 rfl) | (refine (replica_step_leads H id r xe xa xs xd xo vd).c1 hfr (by first | trivial | assumption) ?_; rintro v mu2 n2 g2 rfl) | (refine (replica_step_leads H id r xe xa xs xd xo vd).c2 hfr (λhm=>by first | trivial) ?_; rintro v mu2 n2 g2 b1 rfl) | (refine (replica_step_leads H id r xe xa xs xd xo vd).c3 hfr (λhm=>by first | trivial) ?_; rintro v mu2 n2 g2 b1 b2 rfl)); (try replace b1:=g2.old hfr b1); (try replace b0:=g2.old hfr b0); replace gg:=gg.trans (g2.weaken hle); replace hle:=Nat.le_trans hle g2.le; replace hfr:=g2.free; clear g2; simp only [↓E1,E2,zA,zB,zC,zD,zE,zF,zG,zH,zI,zJ,zK,zL,zM,zN,reduceIte,zO,zP, *])))
  all_goals try (refine leafB h (by first | exact gg | exact gg.cons hle _ | exact (gg.cons hle _).cons (Nat.le_succ_of_le hle) _) ?_; (clear h gg hle hfr); (try clear loop); (try clear loop0); (try clear loop1); (try clear s1); (try clear s2); (try clear s3); (try clear s4); (try clear b1); (try clear b2); clear b0; first | (simp_all [leadB]; done) | (simp_all [leadB]; omega))
end Go.Proofs.Ytnnjlnkoomeadaa.Pv
namespace Go.Proofs.Ytnnjlnkoomeadaa.Pv
open Go.Ev Go.Ev.Rp
set_option maxRecDepth 100000
set_option maxHeartbeats 4000000
set_option linter.unusedSimpArgs false
set_option linter.unusedVariables false
set_option linter.unusedSectionVars false
variable {P : Program} (H : Fs P)
include H
end Go.Proofs.Ytnnjlnkoomeadaa.Pv
namespace Go.Proofs.Ytnnjlnkoomeadaa.Pv
open Go.Ev Go.Ev.Rp
set_option maxRecDepth 100000
set_option maxHeartbeats 4000000
set_option linter.unusedSimpArgs false
set_option linter.unusedVariables false
set_option linter.unusedSectionVars false
def RepS (M : Fz) (r : Rep) (xe xa xs xd : SV) : Prop:=EntsR M xe r.log.ents ∧ IntsR M xa r.acks ∧ IntsR M xs r.starts ∧ DvsR M xd r.dos
def MsgS (M : Fz) (m : Msg) (xb xe : SV) : Prop:=PtsR M xb m.batch ∧ EntsR M xe m.log.ents
theorem RepS.mono {M M' : Fz} (hm : ∀ id B,M id = some B → M' id = some B) {r : Rep} {xe xa xs xd : SV} (h : RepS M r xe xa xs xd) : RepS M' r xe xa xs xd:=⟨EntsR.mono hm h.1,IntsR.mono hm h.2.1,IntsR.mono hm h.2.2.1,DvsR.mono hm h.2.2.2⟩
theorem MsgS.mono {M M' : Fz} (hm : ∀ id B,M id = some B → M' id = some B) {m : Msg} {xb xe : SV} (h : MsgS M m xb xe) : MsgS M' m xb xe:=⟨PtsR.mono hm h.1,EntsR.mono hm h.2⟩
def Ok (l : Lg) : Prop:=∀ e ∈ l.ents,e.batch.length ≤ 1152921504606846976
variable {P : Program} (H : Fs P)
include H
end Go.Proofs.Ytnnjlnkoomeadaa.Pv
namespace Go.Proofs.Ytnnjlnkoomeadaa.Pv
open Go.Ev Go.Ev.Rp
set_option maxRecDepth 100000
set_option maxHeartbeats 4000000
set_option linter.unusedSimpArgs false
set_option linter.unusedVariables false
set_option linter.unusedSectionVars false
theorem nil_Sl {M : Fz} {s : Nat} {x : SV} {es : List (List SV)} (h : Sl M s x es) : ∃ b,nilness true x = some b ∧ (b = true → x = .nsl ∧ es = []):=by
  rcases h with ⟨h,rfl⟩ | ⟨id,off,cap,B,rfl,_⟩
  · rcases h with rfl | rfl | rfl
    · exact ⟨true,rfl,λ_=>⟨rfl,rfl⟩⟩
    · exact ⟨false,rfl,λh=>by cases h⟩
    · exact ⟨false,rfl,λh=>by cases h⟩
  · exact ⟨false,rfl,λh=>by cases h⟩
variable {P : Program} (H : Fs P)
include H
theorem slices_Clone_ints (x : SV) (l : List Int) (hl : l.length ≤ 17592186044415) : Ctr P n_slices_Clone_int_int [.one x] (λM=>IntsR M x l) (λn _ M v=>∃ x',v = .one x' ∧ IntsX (From n M) x' l):=Ctr.of H.mx H.slices_Clone_int_int (λ_=>0) λfz mu n k hfr s1 hk=>by
  obtain ⟨xl,xs,xk,xm⟩:=s1.len
  obtain ⟨b,hb1,hb2⟩:=nil_Sl s1
  rw [i_slices_Clone_int_int,dc_at b_slices_Clone_int_int.eq_1]
  simp only [↓E1,E2,zA,zB,zC,zD,zE,zF,zG,zH,zI,zJ,zK,zL,zM,zN,reduceIte,zO,zP, *]
  cases b with
  | true =>
    obtain ⟨-,he⟩:=hb2 rfl
    simp only [↓E1,E2,zA,zB,zC,zD,zE,zF,zG,zH,zI,zJ,zK,zL,zM,zN,reduceIte,zO,zP, *]
    exact hk _ _ _ (Gr.refl hfr) ⟨.nsl,rfl,.inl ⟨.inl rfl,he⟩⟩
  | false =>
    clear hb2
    simp only [↓E1,E2,zA,zB,zC,zD,zE,zF,zG,zH,zI,zJ,zK,zL,zM,zN,reduceIte,zO,zP, *]
    obtain ⟨h1,h2⟩:=onSrc_Sl (Sl.mono s1 (sub1 hfr (c:=[])))
    rw [h1]; clear h1
    refine ⟨h2,app_empty hfr (fits_le (by simp; omega) (by decide) (by decide)) int_ok (λx' mu' n' g hx=>?_)⟩
    simp only [↓E1,E2,zA,zB,zC,zD,zE,zF,zG,zH,zI,zJ,zK,zL,zM,zN,reduceIte,zO,zP]
    exact hk _ _ _ g ⟨x',rfl,hx⟩
theorem slices_Clone_dos (x : SV) (cs : List (List SV)) (hl : cs.length ≤ 1954687338267) : Ctr P n_slices_Clone_api_Do_api_Do [.one x] (λM=>Sl M 6 x cs) (λn _ M v=>∃ x',v = .one x' ∧ SlX (From n M) 6 x' cs):=Ctr.of H.mx H.slices_Clone_api_Do_api_Do (λ_=>0) λfz mu n k hfr s1 hk=>by
  obtain ⟨b,hb1,hb2⟩:=nil_Sl s1
  have hcs : ∀ e ∈ cs,e.length = 6 ∧ knownAll e = true:=by
    rcases s1 with ⟨_,rfl⟩ | ⟨_,_,_,_,_,_,_,_,_,_,h⟩
    · intro e he; cases he
    · exact h
  rw [i_slices_Clone_api_Do_api_Do,dc_at b_slices_Clone_api_Do_api_Do.eq_1]
  simp only [↓E1,E2,zA,zB,zC,zD,zE,zF,zG,zH,zI,zJ,zK,zL,zM,zN,reduceIte,zO,zP, *]
  cases b with
  | true =>
    obtain ⟨-,he⟩:=hb2 rfl
    simp only [↓E1,E2,zA,zB,zC,zD,zE,zF,zG,zH,zI,zJ,zK,zL,zM,zN,reduceIte,zO,zP, *]
    exact hk _ _ _ (Gr.refl hfr) ⟨.nsl,rfl,.inl ⟨.inl rfl,he⟩⟩
  | false =>
    clear hb2
    simp only [↓E1,E2,zA,zB,zC,zD,zE,zF,zG,zH,zI,zJ,zK,zL,zM,zN,reduceIte,zO,zP, *]
    obtain ⟨h1,h2⟩:=onSrc_Sl (Sl.mono s1 (sub1 hfr (c:=[])))
    rw [h1]; clear h1
    refine ⟨h2,app_empty hfr (fits_le (by omega) (by decide) (by decide)) hcs (λx' mu' n' g hx=>?_)⟩
    simp only [↓E1,E2,zA,zB,zC,zD,zE,zF,zG,zH,zI,zJ,zK,zL,zM,zN,reduceIte,zO,zP]
    exact hk _ _ _ g ⟨x',rfl,hx⟩
end Go.Proofs.Ytnnjlnkoomeadaa.Pv
namespace Go.Ev
set_option linter.unusedVariables false
def Tag (o : Nat → Nat) (t : Nat) (M : Fz) : Fz:=λj=>if o j = t then M j else none
theorem Tag.at {o : Nat → Nat} {t j : Nat} {M : Fz} {B : List SV} (h : o j = t) (g : M j = some B) : Tag o t M j = some B:=by unfold Tag; rw [if_pos h]; exact g
theorem Tag.el {o : Nat → Nat} {t j : Nat} {M : Fz} {B : List SV} (h : Tag o t M j = some B) : o j = t ∧ M j = some B:=by
  unfold Tag at h
  split at h
  · rename_i e; exact ⟨e,h⟩
  · cases h
theorem Tag.sub {o : Nat → Nat} {t : Nat} {M : Fz} : Sub (Tag o t M) M:=λ_ _ h=>(Tag.el h).2
theorem Tag.mono {o : Nat → Nat} {t : Nat} {M M' : Fz} (h : Sub M M') : Sub (Tag o t M) (Tag o t M'):=λ_ _ g=>Tag.at (Tag.el g).1 (h _ _ (Tag.el g).2)
def tagN (o : Nat → Nat) (n : Nat) (τ : Nat → Nat) : Nat → Nat:=λj=>if j < n then o j else τ j
theorem tagN_lt {o τ : Nat → Nat} {n j : Nat} (h : j < n) : tagN o n τ j = o j:=by unfold tagN; rw [if_pos h]
theorem tagN_ge {o τ : Nat → Nat} {n j : Nat} (h : n ≤ j) : tagN o n τ j = τ j:=by unfold tagN; rw [if_neg (by omega)]
theorem Tag.old {o τ : Nat → Nat} {t n : Nat} {fz : Fz} {mu mu' : St} (hf : Free fz mu n) (h : Sub (with' mu fz) (with' mu' fz)) : Sub (Tag o t (with' mu fz)) (Tag (tagN o n τ) t (with' mu' fz)):=λj B g=>by
  obtain ⟨g1,g2⟩:=Tag.el g
  exact Tag.at (by rw [tagN_lt (hf.lt g2)]; exact g1) (h _ _ g2)
theorem Tag.new {o τ : Nat → Nat} {t n : Nat} {M : Fz} (h : ∀ j,n ≤ j → τ j = t) : Sub (From n M) (Tag (tagN o n τ) t M):=λj B g=>by
  obtain ⟨g1,g2⟩:=From.el g
  exact Tag.at (by rw [tagN_ge g1]; exact h j g1) g2
theorem Tag.put {o : Nat → Nat} {t id : Nat} {fz : Fz} {mu : St} {c : List SV} (h : (look mu id).isSome = true) (ho : o id ≠ t) : Sub (Tag o t (with' mu fz)) (Tag o t (with' (putS mu id c) fz)):=λj B g=>by
  obtain ⟨g1,g2⟩:=Tag.el g
  exact Tag.at g1 (by rw [with_putI h,if_neg (by rintro rfl; exact ho g1)]; exact g2)
def splitT (x : SV) (a b : Nat) : Nat → Nat:=λj=>if blk x = some j then a else b
theorem Grow.tag {α : Type} {R : Fz → List SV → α → Prop} (hR : ∀ {M M' c a}, Sub M M' → R M c a → R M' c a) {lo : Nat} {M : Fz} {s : Nat} {x : SV} {l : List α} (G : Grow lo M s R x l) {o : Nat → Nat} {a b : Nat} :
    ∃ cs,SlX (Tag (tagN o lo (splitT x a b)) a M) s x cs ∧ All2 (R (Tag (tagN o lo (splitT x a b)) b M)) cs l:=by
  obtain ⟨cs,h1,h2⟩:=G
  refine ⟨cs,?_,h2.imp λc d h=>hR (λj B g=>?_) h⟩
  · rcases h1 with h1 | ⟨id,g1,g2,g3⟩
    · exact .inl h1
    · obtain ⟨g4,g5⟩:=From.el g2
      exact .inr ⟨id,g1,Tag.at (by rw [tagN_ge g4]; unfold splitT; rw [if_pos (by rw [g1]; rfl)]) g5,g3⟩
  · obtain ⟨g1,g2⟩:=Ex.el g
    obtain ⟨g3,g4⟩:=From.el g2
    exact Tag.at (by rw [tagN_ge g3]; unfold splitT; rw [if_neg g1]) g4
theorem flat_over {s : Nat} : ∀ {es : List (List SV)} {i k : Nat} {vs : List SV},(∀ e ∈ es,e.length = s) → (hi : i < es.length) → k + vs.length ≤ s → over es.flatten (i * s + k) vs = (es.set i (over es[i] k vs)).flatten
  | [],i,_,_,_,h,_=>by simp at h
  | e :: es,0,k,vs,hl,_,hk=>by
    have he:=hl e (by simp)
    simp only [Nat.zero_mul,Nat.zero_add,List.flatten_cons,List.set_cons_zero,List.getElem_cons_zero,over]
    rw [List.take_append,List.drop_append,show k - e.length = 0 by omega,show k + vs.length - e.length = 0 by omega]
    simp
  | e :: es,i + 1,k,vs,hl,hi,hk=>by
    have he:=hl e (by simp)
    have ih:=flat_over (es:=es) (i:=i) (k:=k) (vs:=vs) (λx hx=>hl x (by simp [hx])) (by simpa using hi) hk
    simp only [List.flatten_cons,List.set_cons_succ,List.getElem_cons_succ]
    rw [← ih,show (i + 1) * s + k = e.length + (i * s + k) by rw [Nat.add_mul,he]; omega]
    simp only [over]
    rw [List.take_append,List.drop_append,List.take_of_length_le (by omega),List.drop_eq_nil_of_le (by omega),show e.length + (i * s + k) - e.length = i * s + k by omega,show e.length + (i * s + k) + vs.length - e.length = i * s + k + vs.length by omega]
    simp
theorem flat_sub {s : Nat} : ∀ {es : List (List SV)} {i k m : Nat},(∀ e ∈ es,e.length = s) → (hi : i < es.length) → k + m ≤ s → (es.flatten.drop (i * s + k)).take m = (es[i].drop k).take m
  | [],i,_,_,_,h,_=>by simp at h
  | e :: es,0,k,m,hl,_,hk=>by
    have he:=hl e (by simp)
    simp only [Nat.zero_mul,Nat.zero_add,List.flatten_cons,List.getElem_cons_zero]
    rw [List.drop_append,show k - e.length = 0 by omega,List.drop_zero,List.take_append,show m - (e.drop k).length = 0 by simp; omega]
    simp
  | e :: es,i + 1,k,m,hl,hi,hk=>by
    have he:=hl e (by simp)
    have ih:=flat_sub (es:=es) (i:=i) (k:=k) (m:=m) (λx hx=>hl x (by simp [hx])) (by simpa using hi) hk
    simp only [List.flatten_cons,List.getElem_cons_succ]
    rw [← ih,show (i + 1) * s + k = e.length + (i * s + k) by rw [Nat.add_mul,he]; omega,List.drop_append,List.drop_eq_nil_of_le (by omega),show e.length + (i * s + k) - e.length = i * s + k by omega]
    simp
theorem All2.set {α β : Type} {R : α → β → Prop} : ∀ {x : List α} {y : List β} {i : Nat} {a : α},All2 R x y → (∀ b,y[i]? = some b → R a b) → All2 R (x.set i a) y
  | [],[],_,_,_,_=>trivial
  | [],_ :: _,_,_,h,_=>h.elim
  | _ :: _,[],_,_,h,_=>h.elim
  | x :: xs,y :: ys,0,a,h,hb=>⟨hb y rfl,h.2⟩
  | x :: xs,y :: ys,i + 1,a,h,hb=>⟨h.1,All2.set h.2 λb hh=>hb b (by simpa using hh)⟩
section
variable {P : Program} {f : Nat} {args : List AV} {fz : Fz} {mu : St} {n : Nat} {k : KT Prop} {w : WK k} {c d e : List SV}
theorem CPr.abs1 (hfr : Free fz mu n) (h : ∀ mu1 n1,Gr n fz mu mu1 n n1 → n + 1 ≤ n1 → look mu1 n = some c → CPr P f args fz mu1 n1 k w) : CPr P f args fz ((n,c) :: mu) (n + 1) k w :=
  h _ _ ((Gr.refl hfr).cons (Nat.le_refl _) _) (Nat.le_refl _) (by rw [look_c,if_pos rfl])
theorem CPr.abs3 (hfr : Free fz mu n) (h : ∀ mu1 n1,Gr n fz mu mu1 n n1 → n + 3 ≤ n1 → look mu1 n = some c → look mu1 (n + 1) = some d → look mu1 (n + 2) = some e → CPr P f args fz mu1 n1 k w) : CPr P f args fz ((n + 1 + 1,e) :: (n + 1,d) :: (n,c) :: mu) (n + 1 + 1 + 1) k w :=
  h _ _ ((((Gr.refl hfr).cons (Nat.le_refl _) _).cons (by omega) _).cons (by omega) _) (Nat.le_refl _) (by rw [look_c,if_neg (by omega),look_c,if_neg (by omega),look_c,if_pos rfl]) (by rw [look_c,if_neg (by omega),look_c,if_pos rfl]) (by rw [look_c,if_pos rfl])
end
def Ids (a : St) (lo hi : Nat) : Prop:=∀ id,look a id ≠ none → lo ≤ id ∧ id < hi
theorem look_swap {a b m : St} {id : Nat} (h : look a id ≠ none → look b id = none) : look (a ++ (b ++ m)) id = look (b ++ (a ++ m)) id:=by
  rw [look_append,look_append,look_append,look_append]
  cases ea : look a id with
  | none=>cases look b id <;> rfl
  | some c=>rw [h (by rw [ea]; simp)]
theorem look_under {a m m' : St} {id : Nat} (h : look m id = look m' id) : look (a ++ m) id = look (a ++ m') id:=by rw [look_append,look_append,h]
theorem Ids.apart {a b : St} {l1 h1 l2 h2 id : Nat} (ha : Ids a l1 h1) (hb : Ids b l2 h2) (h : h1 ≤ l2 ∨ h2 ≤ l1) (hn : look a id ≠ none) : look b id = none:=by
  have:=ha id hn
  cases eb : look b id with
  | none=>rfl
  | some c=>have:=hb id (by rw [eb]; simp); omega
theorem Gr.congr {lo : Nat} {fz : Fz} {mu mu1 mu2 : St} {n n' : Nat} (g : Gr lo fz mu mu1 n n') (h : ∀ id,look mu2 id = look mu1 id) : Gr lo fz mu mu2 n n' :=
  ⟨g.le,λid hi=>by rw [with_congr (h id)]; exact g.ext id hi,λid hi=>by rw [h]; exact g.own id hi,λj=>by rw [with_congr (h _)]; exact g.free j⟩
theorem with_fun {mu1 mu2 : St} {fz : Fz} (h : ∀ id,look mu2 id = look mu1 id) : with' mu2 fz = with' mu1 fz:=by funext id; exact with_congr (h id)
theorem Ctr.d4 {P : Program} {f : Nat} {args : List AV} {pre : Fz → Prop} {post : Nat → Nat → Fz → AV → Prop} {fz : Fz} {mu : St} {n : Nat} {k : KT Prop} (h : Ctr P f args pre post) {w : WK k} (hf : Free fz mu n) (hp : pre (with' mu fz))
    (hk : ∀ v new n',Gr n fz mu (new ++ mu) n n' → Ids new n n' → post n n' (with' (new ++ mu) fz) v → k v new n') : CPr P f args (with' mu fz) [] n k w :=
  h.d1 hf hp λv new n' hg hpost=>hk v new n' (hg.join hf (Nat.le_refl _)) (λid hn=>by
    refine ⟨?_,?_⟩
    · rcases Nat.lt_or_ge id n with h1 | h1
      · exfalso; exact hn (hg.own id h1)
      · exact h1
    · rcases Nat.lt_or_ge id n' with h1 | h1
      · exact h1
      · exfalso
        refine hn ?_
        have:=hg.free.none h1
        rw [with_eq] at this
        cases e : look new id with
        | none=>rfl
        | some c=>rw [e] at this; cases this) (by rw [with_append]; exact hpost)
end Go.Ev
namespace Go.Proofs.Ytnnjlnkoomeadaa.Pv
open Go.Ev Go.Ev.Rp
set_option maxRecDepth 100000
set_option maxHeartbeats 4000000
set_option linter.unusedSimpArgs false
set_option linter.unusedVariables false
set_option linter.unusedSectionVars false
structure LgSz (l : Lg) : Prop where
  ents : l.ents.length ≤ 2513169434916
  bat : ∀ e ∈ l.ents,e.batch.length ≤ 4398046511104
structure RepSz (r : Rep) : Prop where
  log : LgSz r.log
  acks : r.acks.length ≤ 17592186044415
  starts : r.starts.length ≤ 17592186044415
  dos : r.dos.length ≤ 1954687338267
  dlog : ∀ d ∈ r.dos,LgSz d.log
structure RepT (o : Nat → Nat) (M : Fz) (r : Rep) (xe xa xs xd : SV) : Prop where
  ents : ∃ cs,SlX (Tag o 1 M) 5 xe cs ∧ All2 (EntX (Tag o 2 M)) cs r.log.ents
  acks : IntsX (Tag o 3 M) xa r.acks
  starts : IntsX (Tag o 4 M) xs r.starts
  dos : ∃ cs,SlX (Tag o 5 M) 6 xd cs ∧ All2 (DvX (Tag o 6 M)) cs r.dos
def RestT (o : Nat → Nat) (M : Fz) (r : Rep) (xe xa xs : SV) : Prop:=(∃ cs,SlX (Tag o 1 M) 5 xe cs ∧ All2 (EntX (Tag o 2 M)) cs r.log.ents) ∧ IntsX (Tag o 3 M) xa r.acks ∧ IntsX (Tag o 4 M) xs r.starts
theorem RestT.mono {o o' : Nat → Nat} {M M' : Fz} (h : ∀ t,1 ≤ t → t ≤ 4 → Sub (Tag o t M) (Tag o' t M')) {r : Rep} {xe xa xs : SV} (g : RestT o M r xe xa xs) : RestT o' M' r xe xa xs:=by
  obtain ⟨⟨cs,h1,h2⟩,h3,h4⟩:=g
  exact ⟨⟨cs,h1.mono (h 1 (by omega) (by omega)),h2.imp λc a g=>EntX.mono (h 2 (by omega) (by omega)) g⟩,IntsX.mono (h 3 (by omega) (by omega)) h3,IntsX.mono (h 4 (by omega) (by omega)) h4⟩
def MixD (o : Nat → Nat) (M0 M : Fz) (l : List Dv) (i : Nat) (xd : SV) : Prop:=∃ cs,SlX (Tag o 5 M) 6 xd cs ∧ cs.length = l.length ∧ ∀ j (h1 : j < cs.length) (h2 : j < l.length),if j < i then DvX (Tag o 6 M) cs[j] l[j] else DvR M0 cs[j] l[j]
theorem MixD.mono {o o' : Nat → Nat} {M0 M M' : Fz} (h : ∀ t,5 ≤ t → t ≤ 6 → Sub (Tag o t M) (Tag o' t M')) {l : List Dv} {i : Nat} {xd : SV} (g : MixD o M0 M l i xd) : MixD o' M0 M' l i xd:=by
  obtain ⟨cs,h1,h2,h3⟩:=g
  refine ⟨cs,h1.mono (h 5 (by omega) (by omega)),h2,λj g1 g2=>?_⟩
  have:=h3 j g1 g2
  split
  · rename_i hj; rw [if_pos hj] at this; exact DvX.mono (h 6 (by omega) (by omega)) this
  · rename_i hj; rw [if_neg hj] at this; exact this
variable {P : Program} (H : Fs P)
include H
theorem Clone_step (r : Rep) (hz : RepSz r) (xe xa xs xd : SV) {fz : Fz} {mu0 : St} {n0 : Nat} (hfr0 : Free fz mu0 n0) (rb : Nat) (i : Nat) (hi : i < r.dos.length) {fu : Nat} {e : Env} {mu : St} {n : Nat} {K : LK} {o : Nat → Nat}
    (hfr : Free fz mu n) (g0 : Gr n0 fz mu0 mu n0 n) (b1 : Ev.look mu rb = some (repC r xe xa xs xd)) (hrb : n0 ≤ rb ∧ o rb = 0) (ho : ∀ j,j < n0 → o j = 0) (hD : MixD o (with' mu0 fz) (with' mu fz) r.dos i xd)
    (h1 : e 0 1 = .one (.optr rb 0)) (h6 : e 1 6 = .one (.int .i64 r.dos.length)) (h7 : e 1 7 = .one (.int .i64 i))
    (hK : ∀ e' mu' n' o',Gr n0 fz mu0 mu' n0 n' → (∀ j,o j = 0 → j < n → Ev.look mu' j = Ev.look mu j ∧ o' j = 0) → (∀ t,1 ≤ t → t ≤ 4 → Sub (Tag o t (with' mu fz)) (Tag o' t (with' mu' fz))) → MixD o' (with' mu0 fz) (with' mu' fz) r.dos (i + 1) xd → e' 0 1 = .one (.optr rb 0) → e' 0 2 = e 0 2 → e' 1 6 = .one (.int .i64 r.dos.length) → e' 1 7 = .one (.int .i64 ((i + 1 : Nat) : Int)) → K .normal (tmE 40 e') mu' n') :
    dcode pOrc False (CP P) fz fu l_replica_Clone_0 (tmE 40 e) mu n K:=by
  obtain ⟨cs,hx,hl,hall⟩:=hD
  have hw:=wrap_succ hi (by have:=hz.dos; omega)
  have hci:=hall i (by omega) hi
  rw [if_neg (by omega)] at hci
  obtain ⟨x,hc,s1⟩:=hci
  have b2:=look_with (fz:=fz) b1
  rcases hx with ⟨_,rfl⟩ | ⟨id,rfl,hM,hmk,hes⟩
  · simp at hl; omega
  obtain ⟨hot,hM'⟩:=Tag.el hM
  have hlen : ∀ e ∈ cs,e.length = 6:=λe he=>(hes e he).1
  have hfl:=flat_length hlen
  have hld:=flat_sub (i:=i) (k:=3) (m:=3) hlen (by omega) (by omega)
  rw [hc] at hld
  have hbd : i * 6 + 3 + 3 ≤ cs.flatten.length:=by rw [hfl]; omega
  have hE:=message_CloneLogG H r.dos[i].log x (hz.dlog _ (List.getElem_mem hi)).ents (hz.dlog _ (List.getElem_mem hi)).bat
  have hli : i < cs.length:=by omega
  unfold lgC at hE
  unfold repC at b1 b2
  unfold dvC at hld
  rw [dc_at l_replica_Clone_0.eq_1]
  have hbd' : i * 6 + 3 + 3 ≤ r.dos.length * 6:=by omega
  simp only [↓E1,E2,zA,zB,zC,zD,zE,zF,zG,zH,zI,zJ,zK,zL,zM,zN,reduceIte,zO,zP, *,List.append_assoc]
  refine hE.d4 hfr (EntsR.mono (g0.sub hfr0 (Nat.le_refl _)) s1) ?_
  rintro v new n2 g2 i2 ⟨x',rfl,hG⟩
  have hidn:=hfr.lt hM'
  have hid : Ev.look (new ++ mu) id = some cs.flatten:=by
    rw [g2.own id hidn]
    have h0 : n0 ≤ id:=by
      rcases Nat.lt_or_ge id n0 with h | h
      · have:=ho id h; omega
      · exact h
    rw [← hM',with_look (hfr0.fz _ h0)]
  obtain ⟨-,-,zk,zm⟩:=hG.len
  have hov:=flat_over (es:=cs) (i:=i) (k:=3) (vs:=[I r.dos[i].log.base,r.dos[i].log.snap.sv,x']) hlen (by omega) (by simp)
  simp only [↓E1,E2,zA,zB,zC,zD,zE,zF,zG,zH,zI,zJ,zK,zL,zM,zN,reduceIte,zO,zP, *,List.append_assoc]
  have h0 : n0 ≤ id:=by
    rcases Nat.lt_or_ge id n0 with h | h
    · have:=ho id h; omega
    · exact h
  have hot' : tagN o n (λ_=>6) id = 5:=by rw [tagN_lt hidn]; exact hot
  have hd : over (dvC r.dos[i] x) 3 [I r.dos[i].log.base,r.dos[i].log.snap.sv,x'] = dvC r.dos[i] x':=rfl
  rw [hd]
  have hcs' : ∀ e ∈ cs.set i (dvC r.dos[i] x'),e.length = 6 ∧ knownAll e = true:=by
    intro e he
    rcases List.mem_or_eq_of_mem_set he with he | rfl
    · exact hes e he
    · exact ⟨rfl,by unfold dvC; simp only [↓E1,E2,zA,zB,zC,zD,zE,zF,zG,zH,zI,zJ,zK,zL,zM,zN,reduceIte,zO,zP,zk]⟩
  have hs : ∀ t,t ≠ 5 → Sub (Tag o t (with' mu fz)) (Tag (tagN o n (λ_=>6)) t (with' (putS (new ++ mu) id (cs.set i (dvC r.dos[i] x')).flatten) fz)):=λt ht =>
    (Tag.old hfr (g2.sub hfr (Nat.le_refl _))).trans (Tag.put (lookI hid) (by omega))
  refine hK _ _ _ (tagN o n λ_=>6) ((g0.trans (g2.weaken g0.le)).put h0 hid) (λj hj hjn=>⟨?_,by rw [tagN_lt hjn]; exact hj⟩) (λt h1 h2=>hs t (by omega)) ⟨_,.inr ⟨id,?_,?_,mkd_known (knownAll_flat hcs'),hcs'⟩,by simpa using hl,λj g1 g3=>?_⟩ ?_ ?_ ?_ ?_
  · rw [look_putS,if_neg (by rintro rfl; omega),g2.own j hjn]
  · rw [List.length_set,hl]
  · exact Tag.at hot' (by rw [with_putS hid,if_pos rfl])
  · rw [List.getElem_set]
    by_cases hij : i = j
    · subst hij
      rw [if_pos rfl,if_pos (by omega)]
      exact ⟨x',rfl,EntsX.mono ((Tag.new (λ_ _=>rfl)).trans (Tag.put (lookI hid) (by omega))) (growEnts hG)⟩
    · rw [if_neg hij]
      have:=hall j (by simpa using g1) g3
      by_cases hj : j < i
      · rw [if_pos hj] at this
        rw [if_pos (by omega)]
        exact DvX.mono (hs 6 (by omega)) this
      · rw [if_neg hj] at this
        rw [if_neg (by omega)]
        exact this
  all_goals simp [updN,updE, *]
theorem replica_Clone (r : Rep) (xe xa xs xd : SV) (hz : RepSz r) : Ctr P n_replica_Clone [.ag (repC r xe xa xs xd)] (λM=>RepS M r xe xa xs xd) (λn _ M v=>∃ xe' xa' xs' xd' o,v = .ag (repC r xe' xa' xs' xd') ∧ (∀ j,j < n → o j = 0) ∧ RepT o M r xe' xa' xs' xd'):=Ctr.of H.mx H.replica_Clone (λ_=>r.dos.length + 1) λfz mu n k hfr s hk=>by
  obtain ⟨s1,s2,s3,s4⟩:=s
  obtain ⟨xel,xes,xek,xem⟩:=s1.len
  obtain ⟨xal,xas,xak,xam⟩:=s2.len
  obtain ⟨xsl,xss,xsk,xsm⟩:=s3.len
  obtain ⟨xdl,xds,xdk,xdm⟩:=s4.len
  have hE:=message_CloneLogG H r.log xe hz.log.ents hz.log.bat
  unfold lgC at hE
  rw [i_replica_Clone,dc_at b_replica_Clone.eq_1]
  unfold repC
  simp only [↓E1,E2,zA,zB,zC,zD,zE,zF,zG,zH,zI,zJ,zK,zL,zM,zN,reduceIte,zO,zP, *]
  refine hE.c1 (gr2 hfr).free (EntsR.mono (sub2 hfr) s1) ?_
  rintro v mu1 n1 g1 ⟨xe',rfl,hG⟩
  have ga:=(gr2 hfr).trans (g1.weaken (by omega))
  have b1:=(g1.own n (by omega)).trans (by rw [look_c,if_neg (by omega),look_c,if_pos rfl])
  have b2:=(g1.own (n + 1) (by omega)).trans (by rw [look_c,if_pos rfl])
  obtain ⟨-,-,zek,zem⟩:=hG.len
  have gb:=ga.put (Nat.le_refl _) b1 (c:=repC r xe' xa xs xd)
  unfold repC at gb
  simp only [↓E1,E2,zA,zB,zC,zD,zE,zF,zG,zH,zI,zJ,zK,zL,zM,zN,reduceIte,zO,zP, *,with_putI,look_putS,Option.isSome_some,Option.map_some,List.append_assoc]
  refine (slices_Clone_ints H xa r.acks hz.acks).d4 gb.free (IntsR.mono (gb.sub hfr (Nat.le_refl _)) s2) ?_
  rintro v newa na g2 ia ⟨xa',rfl,hxa⟩
  have gc:=gb.trans (g2.weaken (gb.le))
  obtain ⟨-,-,zak,zam⟩:=SlX.len hxa
  simp only [↓E1,E2,zA,zB,zC,zD,zE,zF,zG,zH,zI,zJ,zK,zL,zM,zN,reduceIte,zO,zP, *,with_putI,look_putS,Option.isSome_some,Option.map_some,List.append_assoc]
  refine (slices_Clone_ints H xs r.starts hz.starts).d4 gc.free (IntsR.mono (gc.sub hfr (Nat.le_refl _)) s3) ?_
  rintro v newb nb g3 ib ⟨xs',rfl,hxs⟩
  have gd:=gc.trans (g3.weaken (gc.le))
  obtain ⟨-,-,zsk,zsm⟩:=SlX.len hxs
  simp only [↓E1,E2,zA,zB,zC,zD,zE,zF,zG,zH,zI,zJ,zK,zL,zM,zN,reduceIte,zO,zP, *,with_putI,look_putS,Option.isSome_some,Option.map_some,List.append_assoc]
  obtain ⟨ds,s5,hds⟩:=s4
  have hdl:=hds.length
  refine (slices_Clone_dos H xd ds (by rw [hdl]; exact hz.dos)).d4 gd.free (Sl.mono s5 (gd.sub hfr (Nat.le_refl _))) ?_
  rintro v newc nc g4 ic ⟨xd',rfl,hxd⟩
  have ge:=gd.trans (g4.weaken (gd.le))
  obtain ⟨zdl,zds,zdk,zdm⟩:=SlX.len hxd
  simp only [↓E1,E2,zA,zB,zC,zD,zE,zF,zG,zH,zI,zJ,zK,zL,zM,zN,reduceIte,zO,zP, *,with_putI,look_putS,Option.isSome_some,Option.map_some,List.append_assoc]
  have hp : ∀ id,Ev.look (newa ++ (newc ++ (newb ++ putS mu1 n [I r.me,I r.nodes,I r.view,I r.normal,I r.status,I r.commit,.bool r.sent,I r.log.base,r.log.snap.sv,xe',xa,xs,xd]))) id = Ev.look (newc ++ (newb ++ (newa ++ putS mu1 n [I r.me,I r.nodes,I r.view,I r.normal,I r.status,I r.commit,.bool r.sent,I r.log.base,r.log.snap.sv,xe',xa,xs,xd]))) id:=λid =>
    (look_swap (λh=>ia.apart ic (by have:=g3.le; omega) h)).trans (look_under (look_swap (λh=>ia.apart ib (.inl (Nat.le_refl _)) h)))
  have gf:=ge.congr hp
  have l1:=g1.le
  have l2:=g2.le
  have l3:=g3.le
  have l4:=g4.le
  have c1 : Ev.look (newa ++ (newc ++ (newb ++ putS mu1 n [I r.me,I r.nodes,I r.view,I r.normal,I r.status,I r.commit,.bool r.sent,I r.log.base,r.log.snap.sv,xe',xa,xs,xd]))) n = some [I r.me,I r.nodes,I r.view,I r.normal,I r.status,I r.commit,.bool r.sent,I r.log.base,r.log.snap.sv,xe',xa,xs,xd]:=by
    rw [hp,g4.own n (by omega),g3.own n (by omega),g2.own n (by omega),look_putS,if_pos rfl,b1]; rfl
  have c2 : Ev.look (newa ++ (newc ++ (newb ++ putS mu1 n [I r.me,I r.nodes,I r.view,I r.normal,I r.status,I r.commit,.bool r.sent,I r.log.base,r.log.snap.sv,xe',xa,xs,xd]))) (n + 1) = some [I 0,I 0,I 0,I 0,I 0,I 0,.bool false,I 0,.str 0 0,.nsl,.nsl,.nsl,.nsl]:=by
    rw [hp,g4.own (n + 1) (by omega),g3.own (n + 1) (by omega),g2.own (n + 1) (by omega),look_putS,if_neg (by omega),b2]
  have hM:=with_fun (fz:=fz) hp
  -- the tags
  obtain ⟨o1,ho1⟩ : ∃ o,o = tagN (λ_=>0) (n + 2) (splitT xe' 1 2):=⟨_,rfl⟩
  have t1 : ∀ j,j < n + 2 → o1 j = 0:=λj hj=>by rw [ho1,tagN_lt hj]
  have f1:=Grow.tag (R:=EntX) (λh g=>EntX.mono h g) hG (o:=λ_=>0) (a:=1) (b:=2)
  rw [← ho1] at f1
  have u1 : ∀ t,t ≠ 0 → Sub (Tag o1 t (with' mu1 fz)) (Tag o1 t (with' (putS mu1 n [I r.me,I r.nodes,I r.view,I r.normal,I r.status,I r.commit,.bool r.sent,I r.log.base,r.log.snap.sv,xe',xa,xs,xd]) fz)):=λt ht=>Tag.put (lookI b1) (by rw [t1 n (by omega)]; omega)
  have u2 : ∀ t,Sub (Tag o1 t _) (Tag (tagN o1 n1 λ_=>3) t _):=λt=>Tag.old (τ:=λ_=>3) gb.free (g2.sub gb.free (Nat.le_refl _))
  have u3 : ∀ t,Sub (Tag (tagN o1 n1 λ_=>3) t _) (Tag (tagN (tagN o1 n1 λ_=>3) na λ_=>4) t _):=λt=>Tag.old (τ:=λ_=>4) gc.free (g3.sub gc.free (Nat.le_refl _))
  have u4 : ∀ t,Sub (Tag (tagN (tagN o1 n1 λ_=>3) na λ_=>4) t _) (Tag (tagN (tagN (tagN o1 n1 λ_=>3) na λ_=>4) nb λ_=>5) t _):=λt=>Tag.old (τ:=λ_=>5) gd.free (g4.sub gd.free (Nat.le_refl _))
  have v2:=IntsX.mono (Tag.new (o:=o1) (τ:=λ_=>3) (λ_ _=>rfl)) hxa
  have v3:=IntsX.mono (Tag.new (o:=tagN o1 n1 λ_=>3) (τ:=λ_=>4) (λ_ _=>rfl)) hxs
  have v4:=SlX.mono hxd (Tag.new (o:=tagN (tagN o1 n1 λ_=>3) na λ_=>4) (τ:=λ_=>5) (λ_ _=>rfl))
  obtain ⟨o4,ho4⟩ : ∃ o,o = tagN (tagN (tagN o1 n1 λ_=>3) na λ_=>4) nb λ_=>5:=⟨_,rfl⟩
  have t4 : ∀ j,j < n + 2 → o4 j = 0:=λj hj=>by rw [ho4,tagN_lt (by omega),tagN_lt (by omega),tagN_lt (by omega)]; exact t1 j hj
  rw [← ho4,← hM] at u4 v4
  have w1 : RestT o4 (with' (newa ++ (newc ++ (newb ++ putS mu1 n [I r.me,I r.nodes,I r.view,I r.normal,I r.status,I r.commit,.bool r.sent,I r.log.base,r.log.snap.sv,xe',xa,xs,xd]))) fz) r xe' xa' xs':=by
    obtain ⟨cs,f2,f3⟩:=f1
    refine ⟨⟨cs,f2.mono ((((u1 1 (by omega)).trans (u2 1)).trans (u3 1)).trans (u4 1)),f3.imp λc a g=>EntX.mono ((((u1 2 (by omega)).trans (u2 2)).trans (u3 2)).trans (u4 2)) g⟩,IntsX.mono ((u3 3).trans (u4 3)) v2,IntsX.mono (u4 4) v3⟩
  have w2 : MixD o4 (with' mu fz) (with' (newa ++ (newc ++ (newb ++ putS mu1 n [I r.me,I r.nodes,I r.view,I r.normal,I r.status,I r.commit,.bool r.sent,I r.log.base,r.log.snap.sv,xe',xa,xs,xd]))) fz) r.dos 0 xd' :=
    ⟨ds,v4,hdl,λj h1 h2=>by rw [if_neg (by omega)]; exact hds.at h1 h2⟩
  clear hp f1 u1 u2 u3 u4 v2 v3 v4 hxa hxs ia ib ic hM ga gb gc gd ge g1 g2 g3 g4 hG hE ho1 ho4
  generalize newa ++ (newc ++ (newb ++ putS mu1 n [I r.me,I r.nodes,I r.view,I r.normal,I r.status,I r.commit,.bool r.sent,I r.log.base,r.log.snap.sv,xe',xa,xs,xd])) = mup at *
  have c3:=look_with (fz:=fz) c1
  simp only [↓E1,E2,zA,zB,zC,zD,zE,zF,zG,zH,zI,zJ,zK,zL,zM,zN,reduceIte,zO,zP, *,with_putI,look_putS,putS_putS,Option.isSome_some,Option.map_some,List.append_assoc]
  refine loopI (x:=0) (L:=r.dos.length) (p:=λ_=>true) (λi e mu' n'=>∃ o,Gr n fz mu mu' n n' ∧ n + 2 ≤ n' ∧ (∀ j,j < n + 2 → o j = 0) ∧ Ev.look mu' n = some (repC r xe' xa' xs' xd') ∧ Ev.look mu' (n + 1) = some [I 0,I 0,I 0,I 0,I 0,I 0,.bool false,I 0,.str 0 0,.nsl,.nsl,.nsl,.nsl] ∧ RestT o (with' mu' fz) r xe' xa' xs' ∧ MixD o (with' mu fz) (with' mu' fz) r.dos i xd' ∧ e 0 1 = .one (.optr n 0) ∧ e 0 2 = .one (.optr (n + 1) 0) ∧ e 1 6 = .one (.int .i64 r.dos.length) ∧ e 1 7 = .one (.int .i64 i)) (λ_ _ _=>False) ?_ ?_ _ _ _ _ _ (by omega) ?_ ?_ ?_
  · rintro i e mu1 n1 K hi ⟨o,g1,a0,a1,a2,a3,a4,a5,a6,a7,a8,a9⟩ hy hn
    refine Clone_step H r hz xe' xa' xs' xd' hfr n i hi g1.free g1 a2 ⟨Nat.le_refl _,a1 n (by omega)⟩ (λj hj=>a1 j (by omega)) a5 a6 a8 a9 (λe' mu' n' o' g' k1 k2 k3 k4 k5 k6 k7=>hy rfl _ _ _ ⟨o',g',?_,λj hj=>(k1 j (a1 j hj) (by omega)).2,?_,?_,RestT.mono k2 a4,k3,k4,k5.trans a7,k6,k7⟩)
    · have:=g'.free.lt (look_with (fz:=fz) ((k1 (n + 1) (a1 _ (by omega)) (by omega)).1.trans a3)); omega
    · exact (k1 n (a1 _ (by omega)) (by omega)).1.trans a2
    · exact (k1 (n + 1) (a1 _ (by omega)) (by omega)).1.trans a3
  · rintro e mu1 n1 K ⟨o,g1,a0,a1,a2,a3,a4,a5,a6,a7,a8,a9⟩ hx
    rw [dc_at l_replica_Clone_0.eq_1]
    have hlt : (r.dos.length < r.dos.length) = False:=by simp
    simp only [↓E1,E2,zA,zB,zC,zD,zE,zF,zG,zH,zI,zJ,zK,zL,zM,zN,reduceIte,zO,zP, *]
    exact hx _ _ _ ⟨o,g1,a0,a1,a2,a3,a4,a5,by simp [updN,updE,a6],by simp [updN,updE,a7],by simp [updN,updE,a8],by simp [updN,updE,a9]⟩
  · refine ⟨o4,gf.put (Nat.le_refl _) c1,by omega,t4,by rw [look_putS,if_pos rfl,c1]; rfl,by rw [look_putS,if_neg (by omega),c2],RestT.mono (λt h1 h2=>Tag.put (lookI c1) (by rw [t4 n (by omega)]; omega)) w1,MixD.mono (λt h1 h2=>Tag.put (lookI c1) (by rw [t4 n (by omega)]; omega)) w2,by simp [updN,updE],by simp [updN,updE],by simp [updN,updE],by simp [updN,updE]⟩
  · rintro - e1 mu1 n1 ⟨o,g1,a0,a1,a2,a3,a4,a5,a6,a7,a8,a9⟩
    have b3:=look_with (fz:=fz) a2
    obtain ⟨cs,p1,p2,p3⟩:=a5
    obtain ⟨-,-,ydk,ydm⟩:=p1.len
    obtain ⟨⟨es,q1,q2⟩,q3,q4⟩:=a4
    obtain ⟨-,-,yek,yem⟩:=q1.len
    obtain ⟨-,-,yak,yam⟩:=SlX.len q3
    obtain ⟨-,-,ysk,ysm⟩:=SlX.len q4
    have u : ∀ t,t ≠ 0 → Sub (Tag o t (with' mu1 fz)) (Tag o t (with' (putS mu1 (n + 1) (repC r xe' xa' xs' xd')) fz)):=λt ht=>Tag.put (lookI a3) (by rw [a1 _ (by omega)]; omega)
    have gz:=g1.put (id:=n + 1) (by omega) a3 (c:=repC r xe' xa' xs' xd')
    unfold repC at a2 b3
    unfold repC at u gz
    simp only [↓E1,E2,zA,zB,zC,zD,zE,zF,zG,zH,zI,zJ,zK,zL,zM,zN,reduceIte,zO,zP, *,with_putI,look_putS,putS_putS,Option.isSome_some,Option.map_some,List.append_assoc]
    refine hk _ _ _ gz ⟨xe',xa',xs',xd',o,rfl,λj hj=>a1 j (by omega),⟨⟨es,q1.mono (u 1 (by omega)),q2.imp λc a g=>EntX.mono (u 2 (by omega)) g⟩,IntsX.mono (u 3 (by omega)) q3,IntsX.mono (u 4 (by omega)) q4,cs,p1.mono (u 5 (by omega)),?_⟩⟩
    refine All2.of_get p2 λi a b ha hb=>?_
    obtain ⟨h1,e1⟩:=List.getElem?_eq_some_iff.1 ha
    obtain ⟨h2,e2⟩:=List.getElem?_eq_some_iff.1 hb
    have:=p3 i h1 h2
    rw [if_pos h2,e1,e2] at this
    exact DvX.mono (u 6 (by omega)) this
  · rintro ⟨_,_,_,h⟩; cases h
end Go.Proofs.Ytnnjlnkoomeadaa.Pv
namespace Go.Proofs.Ytnnjlnkoomeadaa.Pv
open Go.Ev Go.Ev.Rp
set_option maxRecDepth 100000
set_option maxHeartbeats 4000000
set_option linter.unusedSimpArgs false
set_option linter.unusedVariables false
set_option linter.unusedSectionVars false
variable {P : Program} (H : Fs P)
include H
end Go.Proofs.Ytnnjlnkoomeadaa.Pv
namespace Go.Proofs.Ytnnjlnkoomeadaa.Pv
open Go.Ev Go.Ev.Rp
set_option maxRecDepth 100000
set_option maxHeartbeats 4000000
set_option linter.unusedSimpArgs false
set_option linter.unusedVariables false
set_option linter.unusedSectionVars false
variable {P : Program} (H : Fs P)
include H
end Go.Proofs.Ytnnjlnkoomeadaa.Pv
namespace Go.Ev
def oth (me : Int) : List Int → Nat → List Int
  | [],_=>[]
  | x :: t,i=>if (i : Int) = me then oth me t (i + 1) else x :: oth me t (i + 1)
theorem oth_append (me : Int) : ∀ (a b : List Int) (i : Nat),oth me (a ++ b) i = oth me a i ++ oth me b (i + a.length)
  | [],b,i=>by simp [oth]
  | x :: a,b,i=>by
    simp only [List.cons_append,oth,oth_append me a b (i + 1),List.length_cons]
    rw [show i + 1 + a.length = i + (a.length + 1) by omega]
    split <;> simp
theorem oth_take (me : Int) {l : List Int} {i : Nat} (h : i < l.length) : oth me (l.take (i + 1)) 0 = if (i : Int) = me then oth me (l.take i) 0 else oth me (l.take i) 0 ++ [l[i]]:=by
  rw [List.take_succ_eq_append_getElem h,oth_append]
  simp only [oth,List.length_take,Nat.zero_add,show min i l.length = i by omega]
  split <;> simp
theorem oth_length (me : Int) : ∀ (l : List Int) (i : Nat),(oth me l i).length ≤ l.length
  | [],_=>by simp [oth]
  | x :: t,i=>by
    have:=oth_length me t (i + 1)
    simp only [oth]
    split <;> simp <;> omega
def manyL (me : Int) (l : List Int) (t : Int) : Nat:=(oth me l 0).countP (λx=>decide (t ≤ x))
theorem many_take (me : Int) (t : Int) {l : List Int} {i : Nat} (h : i < l.length) : manyL me (l.take (i + 1)) t = if (i : Int) ≠ me ∧ t ≤ l[i] then manyL me (l.take i) t + 1 else manyL me (l.take i) t:=by
  unfold manyL
  rw [oth_take me h]
  by_cases h1 : (i : Int) = me
  · simp [h1]
  · by_cases h2 : t ≤ l[i] <;> simp [h1,h2]
theorem many_le (me : Int) (l : List Int) (t : Int) : manyL me l t ≤ l.length:=Nat.le_trans List.countP_le_length (oth_length me l 0)
theorem count_at {S : List Int} (hs : S.Pairwise (· ≤ ·)) {f : Nat} (h0 : 0 < f) (hf : f ≤ S.length) (t : Int) : f ≤ S.countP (λx=>decide (t ≤ x)) ↔ t ≤ S[S.length - f]'(by omega):=by
  constructor
  · intro h
    rcases Int.lt_or_le (S[S.length - f]'(by omega)) t with h1 | h1
    · exfalso
      have h2 : (S.take (S.length - f + 1)).countP (λx=>decide (t ≤ x)) = 0:=by
        rw [List.countP_eq_zero]
        intro x hx
        obtain ⟨j,hj,rfl⟩:=List.getElem_of_mem hx
        simp only [List.length_take] at hj
        rw [List.getElem_take]
        simp only [decide_eq_true_eq]
        rcases Nat.lt_or_ge j (S.length - f) with h3 | h3
        · have:=List.pairwise_iff_getElem.1 hs j (S.length - f) (by omega) (by omega) h3; omega
        · have : j = S.length - f:=by omega
          subst this; omega
      have h3:=@List.countP_le_length _ (λx=>decide (t ≤ x)) (S.drop (S.length - f + 1))
      have h4 : S.countP (λx=>decide (t ≤ x)) = (S.take (S.length - f + 1) ++ S.drop (S.length - f + 1)).countP (λx=>decide (t ≤ x)):=by rw [List.take_append_drop]
      rw [List.countP_append,h2] at h4
      simp only [List.length_drop] at h3
      omega
    · exact h1
  · intro h
    have h1 : (S.drop (S.length - f)).countP (λx=>decide (t ≤ x)) = (S.drop (S.length - f)).length:=by
      rw [List.countP_eq_length]
      intro x hx
      obtain ⟨j,hj,rfl⟩:=List.getElem_of_mem hx
      simp only [List.length_drop] at hj
      rw [List.getElem_drop]
      simp only [decide_eq_true_eq]
      rcases Nat.eq_zero_or_pos j with rfl | h3
      · simpa using h
      · have:=List.pairwise_iff_getElem.1 hs (S.length - f) (S.length - f + j) (by omega) (by omega) (by omega); omega
    have h4 : S.countP (λx=>decide (t ≤ x)) = (S.take (S.length - f) ++ S.drop (S.length - f)).countP (λx=>decide (t ≤ x)):=by rw [List.take_append_drop]
    rw [List.countP_append,h1] at h4
    simp only [List.length_drop] at h4
    omega
def srt (l : List Int) : List Int:=l.mergeSort λx y=>decide (x ≤ y)
def commF (acks : List Int) (me last : Int) : Int :=
  let f:=(acks.length - 1) / 2
  let S:=srt (oth me acks 0)
  if f = 0 then max 0 last else if h : f ≤ S.length ∧ 0 < f then max 0 (min last (S[S.length - f]'(by omega))) else 0
theorem srt_length (l : List Int) : (srt l).length = l.length:=by unfold srt; exact List.length_mergeSort l
theorem srt_sorted (l : List Int) : (srt l).Pairwise (· ≤ ·):=by
  have:=List.pairwise_mergeSort (le:=λx y : Int=>decide (x ≤ y)) (λa b c h1 h2=>by simp at *; omega) (λa b=>by simp; omega) l
  exact this.imp λh=>by simpa using h
theorem commF_zero {acks : List Int} {me last : Int} (h : (acks.length - 1) / 2 = 0) : commF acks me last = max 0 last:=by
  unfold commF; dsimp only; rw [if_pos h]
theorem commF_few {acks : List Int} {me last : Int} (h : ¬ (acks.length - 1) / 2 = 0) (h2 : (oth me acks 0).length < (acks.length - 1) / 2) : commF acks me last = 0:=by
  unfold commF; dsimp only; rw [if_neg h,dif_neg (by rw [srt_length]; omega)]
theorem commF_mid {acks : List Int} {me last : Int} {f j : Nat} (hf : (acks.length - 1) / 2 = f) (h : 0 < f) (h2 : f ≤ (oth me acks 0).length) (hj : j = (oth me acks 0).length - f) (hj2 : j < (srt (oth me acks 0)).length) : commF acks me last = max 0 (min last (srt (oth me acks 0))[j]):=by
  subst hf
  unfold commF; dsimp only
  rw [if_neg (by omega),dif_pos ⟨by rw [srt_length]; exact h2,h⟩]
  have : (srt (oth me acks 0)).length - (acks.length - 1) / 2 = j:=by rw [srt_length]; exact hj.symm
  simp only [this]
theorem many_srt (me : Int) (l : List Int) (t : Int) : manyL me l t = (srt (oth me l 0)).countP (λx=>decide (t ≤ x)) :=
  ((List.mergeSort_perm _ _).countP_eq _).symm
theorem comm_at {acks : List Int} {me last t : Int} (h0 : 0 < t) (hl : t ≤ last) (hn : ∀ u,t < u → u ≤ last → manyL me acks u < (acks.length - 1) / 2) (h : (acks.length - 1) / 2 ≤ manyL me acks t) : commF acks me last = t:=by
  unfold commF
  dsimp only
  by_cases hf : (acks.length - 1) / 2 = 0
  · rw [if_pos hf]
    rcases Int.lt_or_le t last with h1 | h1
    · have:=hn last h1 (Int.le_refl _); omega
    · omega
  · rw [if_neg hf]
    have hlen : (acks.length - 1) / 2 ≤ (srt (oth me acks 0)).length:=by rw [many_srt] at h; exact Nat.le_trans h List.countP_le_length
    rw [dif_pos ⟨hlen,by omega⟩]
    rw [many_srt,count_at (srt_sorted _) (by omega) hlen] at h
    rcases Int.lt_or_le t last with h1 | h1
    · have:=hn (t + 1) (by omega) (by omega)
      rw [many_srt] at this
      have h2:=mt (count_at (srt_sorted (oth me acks 0)) (by omega) hlen (t + 1)).2 (by omega)
      omega
    · omega
theorem comm_none {acks : List Int} {me last : Int} (hn : ∀ u,0 < u → u ≤ last → manyL me acks u < (acks.length - 1) / 2) : commF acks me last = 0:=by
  unfold commF
  dsimp only
  by_cases h1 : 0 < last
  · have h2:=hn last h1 (Int.le_refl _)
    have hf : ¬ (acks.length - 1) / 2 = 0:=by omega
    rw [if_neg hf]
    split
    · rename_i h3
      have h4:=hn 1 (by omega) (by omega)
      rw [many_srt] at h4
      have h5:=mt (count_at (srt_sorted (oth me acks 0)) h3.2 h3.1 1).2 (by omega)
      omega
    · rfl
  · split
    · omega
    · split <;> omega
end Go.Ev
namespace Go.Proofs.Ytnnjlnkoomeadaa.Pv
open Go.Ev Go.Ev.Rp
set_option maxRecDepth 100000
set_option maxHeartbeats 4000000
set_option linter.unusedSimpArgs false
set_option linter.unusedVariables false
set_option linter.unusedSectionVars false
def IntR (_ : Fz) (c : List SV) (a : Int) : Prop:=c = intC a
theorem all2_ints {M : Fz} : ∀ {cs : List (List SV)} {l : List Int},All2 (IntR M) cs l → cs = l.map intC
  | [],[],_=>rfl
  | c :: cs,a :: l,h=>by rw [show c = intC a from h.1,all2_ints h.2]; rfl
theorem grow_ints {lo : Nat} {M : Fz} {x : SV} {l : List Int} (h : Grow lo M 1 IntR x l) : IntsX (From lo M) x l:=by
  obtain ⟨cs,h1,h2⟩:=h
  rw [all2_ints h2] at h1; exact h1
theorem cm_flat (l : List Int) : (l.map intC).flatten = l.map (SV.int .i64):=by
  induction l with
  | nil=>rfl
  | cons a l ih=>rw [List.map_cons,List.flatten_cons,ih]; rfl
theorem cm_mkd (l : List Int) : mkd (l.map (SV.int .i64)) = false:=by cases l <;> rfl
theorem cm_sub {l : List Int} {j : Nat} (h : j < l.length) : List.take 1 (List.drop (j * 1) (l.map (SV.int .i64))) = [I l[j]]:=by
  rw [Nat.mul_one,List.drop_eq_getElem_cons (by simpa using h)]
  simp
theorem cm_evs_nil {tm : TM} : evs tm [] = []:=rfl
theorem cm_evs_cons {tm : TM} {x : Od} {l : List Od} : evs tm (x :: l) = ev tm x :: evs tm l:=rfl
def SortC (P : Program) : Prop:=∀ (id cap : Nat) (l : List Int) (fz : Fz) (mu : St) (n : Nat) (k : AV → St → Nat → Prop),Ev.look mu id = some (l.map (SV.int .i64)) → l.length < 4611686018427387904 → k (.tp []) (putS mu id ((srt l).map (SV.int .i64))) n → CP P n_slices_Sort_int_int [.one (.osl id 0 l.length cap 1)] fz mu n k
variable {P : Program} (H : Fs P)
include H
theorem replica_Committed (hS : SortC P) (x : SV) (acks : List Int) (me last : Int) (hl : acks.length ≤ 17592186044415) : Ctr P n_replica_Committed [.one x,.one (I me),.one (I last)] (λM=>IntsR M x acks) (λ_ _ _ v=>v = .one (I (commF acks me last))):=Ctr.of H.mx H.replica_Committed (λ_=>acks.length + 1) λfz mu n k hfr s1 hk=>by
  obtain ⟨xl,xs,xk,xm⟩:=s1.len
  rw [i_replica_Committed,dc_at b_replica_Committed.eq_1]
  simp only [↓E1,E2,zA,zB,zC,zD,zE,zF,zG,zH,zI,zJ,zK,zL,zM,zN,reduceIte,zO,zP, *]
  refine loopI (x:=0) (L:=acks.length) (p:=λ_=>true) (λi e mu' n'=>∃ xo,Gr n fz mu mu' n n' ∧ Grow n (with' mu' fz) 1 IntR xo (oth me (acks.take i) 0) ∧ e 0 0 = .one x ∧ e 0 1 = .one (I me) ∧ e 0 2 = .one (I last) ∧ e 0 7 = .one xo ∧ e 0 11 = .one x ∧ e 0 12 = .one (.int .i64 acks.length) ∧ e 0 13 = .one (.int .i64 i)) (λe mu' n'=>False) ?_ ?_ _ _ _ _ _ (by omega) ?_ ?_ ?_
  · rintro i e mu1 n1 K hi ⟨xo,g1,c4,e0,e1,e2,e7,e11,e12,e13⟩ hy hn
    rw [dc_at l_replica_Committed_0.eq_1]
    have hw:=wrap_succ hi (by omega)
    obtain ⟨id,off,cap,B,rfl,hB,hmk,hbd,hsub⟩:=(IntsR.mono (λ_ _ hh=>g1.old hfr hh) s1).elem hi
    have hot:=oth_take me hi
    obtain ⟨xol,xos,xok,xom⟩:=c4.len
    have hol:=oth_length me (acks.take i) 0
    rw [List.length_take] at hol
    simp only [↓E1,E2,zA,zB,zC,zD,zE,zF,zG,zH,zI,zJ,zK,zL,zM,zN,reduceIte,zO,zP, *]
    refine Br_intro (λhb=>?_) (λhb=>?_)
    · have hme : (i : Int) = me:=by simpa using hb
      rw [if_pos hme] at hot
      clear hme
      simp only [↓E1,E2,zA,zB,zC,zD,zE,zF,zG,zH,zI,zJ,zK,zL,zM,zN,reduceIte,zO,zP, *]
      refine hy rfl _ _ _ ⟨xo,g1,by rw [hot]; exact c4,?_,?_,?_,?_,?_,?_,?_⟩
      all_goals simp [updN,updE, *]
    · have hme : ¬ (i : Int) = me:=by simpa using hb
      rw [if_neg hme] at hot
      clear hme
      simp only [↓E1,E2,zA,zB,zC,zD,zE,zF,zG,zH,zI,zJ,zK,zL,zM,zN,reduceIte,zO,zP, *]
      refine Grow.more (R:=IntR) (λ_ h=>h) (a:=acks[i]) c4 g1.free g1.le (λj hj=>hfr.fz j hj) ((Gr.refl g1.free).cons (Nat.le_refl _) _) rfl ⟨rfl,rfl⟩ (fits_le (by omega) (by decide) (by decide)) (λmu3 g3 G3=>?_)
      simp only [↓E1,E2,zA,zB,zC,zD,zE,zF,zG,zH,zI,zJ,zK,zL,zM,zN,reduceIte,zO,zP, *]
      refine hy rfl _ _ _ ⟨_,g1.trans g3,by rw [hot]; exact G3,?_,?_,?_,?_,?_,?_,?_⟩
      all_goals simp [updN,updE, *]
  · rintro e mu1 n1 K ⟨xo,g1,c4,e0,e1,e2,e7,e11,e12,e13⟩ hx
    rw [dc_at l_replica_Committed_0.eq_1]
    have hlt : ((acks.length : Int) < acks.length) = False:=by simp
    simp only [↓E1,E2,zA,zB,zC,zD,zE,zF,zG,zH,zI,zJ,zK,zL,zM,zN,reduceIte,zO,zP, *]
    exact hx _ _ _ ⟨xo,g1,c4,by simp [updN,updE,e0],by simp [updN,updE,e1],by simp [updN,updE,e2],by simp [updN,updE,e7],by simp [updN,updE,e11],by simp [updN,updE,e12],by simp [updN,updE,e13]⟩
  · exact ⟨.nsl,Gr.refl hfr,Grow.nil,by simp [updN,updE,envI],by simp [updN,updE,envI],by simp [updN,updE,envI],by simp [updN,updE],by simp [updN,updE],by simp [updN,updE],by simp [updN,updE]⟩
  · rintro - e1 mu1 n1 ⟨xo,g1,c4,e0,e1,e2,e7,e11,e12,e13⟩
    rw [List.take_length] at c4
    obtain ⟨f,hf⟩ : ∃ f,(acks.length - 1) / 2 = f:=⟨_,rfl⟩
    have hw1 : IntKind.i64.wrap ((acks.length : Int) - 1) = (acks.length : Int) - 1:=wrap64 (by omega) (by omega)
    have hq : ((acks.length : Int) - 1).tdiv 2 = (f : Int):=by
      rcases Nat.eq_zero_or_pos acks.length with h0 | h0
      · rw [h0] at hf ⊢; subst hf; rfl
      · rw [Int.tdiv_eq_ediv_of_nonneg (by omega)]; omega
    have hw2 : IntKind.i64.wrap (f : Int) = (f : Int):=wrap64 (by omega) (by omega)
    obtain ⟨xol,xos,xok,xom⟩:=c4.len
    have hol:=oth_length me acks 0
    simp only [↓E1,E2,zA,zB,zC,zD,zE,zF,zG,zH,zI,zJ,zK,zL,zM,zN,reduceIte,zO,zP, *]
    refine Br_intro (λhb=>?_) (λhb=>?_)
    · simp only [↓E1,E2,zA,zB,zC,zD,zE,zF,zG,zH,zI,zJ,zK,zL,zM,zN,reduceIte,zO,zP, *]
      simp only [cm_evs_cons,cm_evs_nil]
      simp only [↓E1,E2,zA,zB,zC,zD,zE,zF,zG,zH,zI,zJ,zK,zL,zM,zN,reduceIte,zO,zP]
      refine hk _ _ _ g1 ?_
      have h0 : acks.length = 0:=by simpa using hb
      have h1 : f = 0:=by omega
      rw [commF_zero (hf.trans h1)]
    · simp only [↓E1,E2,zA,zB,zC,zD,zE,zF,zG,zH,zI,zJ,zK,zL,zM,zN,reduceIte,zO,zP, *]
      refine Br_intro (λhc=>?_) (λhc=>?_)
      · simp only [↓E1,E2,zA,zB,zC,zD,zE,zF,zG,zH,zI,zJ,zK,zL,zM,zN,reduceIte,zO,zP, *]
        simp only [cm_evs_cons,cm_evs_nil]
        simp only [↓E1,E2,zA,zB,zC,zD,zE,zF,zG,zH,zI,zJ,zK,zL,zM,zN,reduceIte,zO,zP]
        refine hk _ _ _ g1 ?_
        have h1 : f = 0:=by have : (f : Int) ≤ 0:=(by simpa using hc); omega
        rw [commF_zero (hf.trans h1)]
      · simp only [↓E1,E2,zA,zB,zC,zD,zE,zF,zG,zH,zI,zJ,zK,zL,zM,zN,reduceIte,zO,zP, *]
        have h1 : 0 < f:=by have : ¬ (f : Int) ≤ 0:=(by simpa using hc); omega
        refine Br_intro (λhd=>?_) (λhd=>?_)
        · simp only [↓E1,E2,zA,zB,zC,zD,zE,zF,zG,zH,zI,zJ,zK,zL,zM,zN,reduceIte,zO,zP, *]
          refine hk _ _ _ g1 ?_
          have h2 : (oth me acks 0).length < f:=by simpa using hd
          rw [commF_few (by omega) (by omega)]
        · have h2 : f ≤ (oth me acks 0).length:=Nat.not_lt.1 (of_decide_eq_false hd)
          rcases grow_ints c4 with ⟨_,h3⟩ | ⟨id,rfl,h3,hmk,hes⟩
          · have h9 : (oth me acks 0).length = 0:=by have:=congrArg List.length h3; rwa [List.length_map] at this
            omega
          have hlk : Ev.look mu1 id = some ((oth me acks 0).map (SV.int .i64)):=by
            obtain ⟨h4,h5⟩:=From.el h3
            rw [with_look (hfr.fz id h4)] at h5
            rw [h5,cm_flat]
          have hid : n ≤ id:=From.lt h3
          clear h3 hmk hes c4
          simp only [List.length_map] at e7 xol xos xok xom
          obtain ⟨j,hj⟩ : ∃ j,j = (oth me acks 0).length - f:=⟨_,rfl⟩
          have hj2 : j < (srt (oth me acks 0)).length:=by rw [srt_length]; omega
          have hco:=commF_mid (last:=last) hf h1 h2 hj hj2
          have hw5 : IntKind.i64.wrap (((oth me acks 0).length : Int) - f) = (j : Int):=by rw [wrap64 (by omega) (by omega)]; omega
          have hcall:=hS id (oth me acks 0).length (oth me acks 0) fz mu1 n1
          simp only [↓E1,E2,zA,zB,zC,zD,zE,zF,zG,zH,zI,zJ,zK,zL,zM,zN,reduceIte,zO,zP, *]
          refine hcall _ hlk (by omega) ?_
          have hB : with' (putS mu1 id ((srt (oth me acks 0)).map (SV.int .i64))) fz id = some ((srt (oth me acks 0)).map (SV.int .i64)):=by rw [with_putS hlk,if_pos rfl]
          have hmk:=cm_mkd (srt (oth me acks 0))
          have hbd : j * 1 + 1 ≤ ((srt (oth me acks 0)).map (SV.int .i64)).length:=by rw [List.length_map]; omega
          have hsub:=cm_sub hj2
          have hjl : j < (oth me acks 0).length:=by omega
          have gp:=g1.put hid hlk (c:=(srt (oth me acks 0)).map (SV.int .i64))
          clear hj
          simp only [↓E1,E2,zA,zB,zC,zD,zE,zF,zG,zH,zI,zJ,zK,zL,zM,zN,reduceIte,zO,zP, *]
          simp only [cm_evs_cons,cm_evs_nil]
          simp only [↓E1,E2,zA,zB,zC,zD,zE,zF,zG,zH,zI,zJ,zK,zL,zM,zN,reduceIte,zO,zP]
          try simp only [cm_evs_cons,cm_evs_nil]
          try simp only [↓E1,E2,zA,zB,zC,zD,zE,zF,zG,zH,zI,zJ,zK,zL,zM,zN,reduceIte,zO,zP]
          exact hk _ _ _ gp (by rw [hco])
  · rintro ⟨_,_,_,h⟩; cases h
end Go.Proofs.Ytnnjlnkoomeadaa.Pv
namespace Go.Proofs.Ytnnjlnkoomeadaa.Pv
open Go.Ev Go.Ev.Rp
set_option maxRecDepth 100000
set_option maxHeartbeats 4000000
set_option linter.unusedSimpArgs false
set_option linter.unusedVariables false
set_option linter.unusedSectionVars false
theorem RepSz.s (r : Rep) (h : RepSz r) : r.starts.length ≤ 1152921504606846976 ∧ r.dos.length ≤ 1152921504606846976 ∧ r.acks.length ≤ 1152921504606846976:=⟨by have:=h.starts; omega,by have:=h.dos; omega,by have:=h.acks; omega⟩
variable {P : Program} (H : Fs P)
include H
end Go.Proofs.Ytnnjlnkoomeadaa.Pv
namespace Go.Proofs.Ytnnjlnkoomeadaa.Pv
open Go.Ev Go.Ev.Rp
set_option maxRecDepth 100000
set_option maxHeartbeats 4000000
set_option linter.unusedSimpArgs false
set_option linter.unusedVariables false
set_option linter.unusedSectionVars false
def tx0 : Tx:=⟨0,0,by decide⟩
def newR (me nodes : Int) : Rep:=⟨me,nodes,0,0,0,0,false,⟨0,tx0,[]⟩,List.replicate nodes.toNat 0,[],[]⟩
def frEnt (view : Int) (i : Nat) : Ent:=⟨view,0,0,(i : Int) + 1,[]⟩
def freshR (me nodes view : Int) (many : Nat) (commit : Int) : Rep:=⟨me,nodes,view,view,0,commit,false,⟨0,tx0,(List.range many).map (frEnt view)⟩,List.replicate nodes.toNat 0,[],[]⟩
theorem nodes_cases {b : Int} (h : nodesB b = true) : b = 1 ∨ b = 3 ∨ b = 5 ∨ b = 7:=by
  unfold nodesB at h; simp at h; omega
variable {P : Program} (H : Fs P)
include H
theorem replica_New (me nodes : Int) (hm : meB me nodes = true) : Ctr P n_replica_New [.one (I me),.one (I nodes)] (λ_=>True) (λn _ M v=>∃ xa,v = .tp [.ag (repC (newR me nodes) .nsl xa .nsl .nsl),.one (I 0)] ∧ IntsX (From n M) xa (newR me nodes).acks):=Ctr.of H.mx H.replica_New (λ_=>0) λfz mu n k hfr _ hk=>by
  rw [i_replica_New,dc_at b_replica_New.eq_1]
  have hn : nodesB nodes = true:=by unfold meB at hm; simp at hm; exact hm.1.1
  simp only [↓E1,E2,zA,zB,zC,zD,zE,zF,zG,zH,zI,zJ,zK,zL,zM,zN,reduceIte,zO,zP]
  refine CPr.abs1 hfr λmu0 n0 gg h3 b1=>?_
  refine (repair_Nodes H me nodes).c1 gg.free trivial ?_
  rintro v mu1 n1 g1 rfl
  have hlt:=g1.le
  have c1:=(g1.own n (by omega)).trans b1
  have wc1:=look_with (fz:=fz) c1
  have hne : (n1 = n) = False:=by simp; omega
  have gz:=gg.trans (g1.weaken (by omega))
  clear b1
  rcases nodes_cases hn with rfl | rfl | rfl | rfl
  all_goals
    simp only [↓E1,E2,zA,zB,zC,zD,zE,zF,zG,zH,zI,zJ,zK,zL,zM,zN,reduceIte,zO,zP, *,with_putI,look_putS,Option.isSome_some]
    refine ⟨fits_le (by decide) (by decide) (by decide),?_⟩
    refine hk _ _ _ ((gz.put (Nat.le_refl _) c1).cons (by omega) _) ⟨_,rfl,?_⟩
    exact .inr ⟨n1,rfl,From.at (by omega) (by rw [with_c,if_pos rfl]; rfl),rfl,int_ok⟩
theorem law17_fresh (me nodes view : Int) (many : Nat) (commit : Int) (hm : meB me nodes = true) (hmany : many ≤ 15) : Ctr P n_law17_fresh [.one (I me),.one (I nodes),.one (I view),.one (I many),.one (I commit)] (λ_=>True) (λn _ M v=>∃ xe xa,v = .ag (repC (freshR me nodes view many commit) xe xa .nsl .nsl) ∧ RepS (From n M) (freshR me nodes view many commit) xe xa .nsl .nsl):=Ctr.of H.mx H.law17_fresh (λ_=>17) λfz mu n k hfr _ hk=>by
  rw [i_law17_fresh,dc_at b_law17_fresh.eq_1]
  simp only [↓E1,E2,zA,zB,zC,zD,zE,zF,zG,zH,zI,zJ,zK,zL,zM,zN,reduceIte,zO,zP]
  refine CPr.abs1 hfr λmu0 n0 gg h3 b1=>?_
  refine (replica_New H me nodes hm).c1 gg.free trivial ?_
  rintro v mu1 n1 g1 ⟨xa,rfl,hxa⟩
  have hlt:=g1.le
  have c1:=(g1.own n (by omega)).trans b1
  have wc1:=look_with (fz:=fz) c1
  have hne : (n1 = n) = False:=by simp; omega
  have gz:=gg.trans (g1.weaken (by omega))
  obtain ⟨-,-,xak,xam⟩:=SlX.len hxa
  clear b1
  unfold newR repC
  simp only [↓E1,E2,zA,zB,zC,zD,zE,zF,zG,zH,zI,zJ,zK,zL,zM,zN,reduceIte,zO,zP, *,with_putI,look_putS,putS_putS,Option.isSome_some,Option.map_some]
  have hf1:=g1.free
  refine loopI (x:=0) (L:=many) (p:=λ_=>true) (λi e mu' n'=>∃ xe,Gr n fz mu mu' n n' ∧ n1 + 1 ≤ n' ∧ Ev.look mu' n = some [I 0,I 0,I 0,I 0,I 0,I 0,.bool false,I 0,.str 0 0,.nsl,.nsl,.nsl,.nsl] ∧ Ev.look mu' n1 = some [I me,I nodes,I view,I view,I 0,I 0,.bool false,I 0,tx0.sv,xe,xa,.nsl,.nsl] ∧ Grow (n1 + 1) (with' mu' fz) 5 EntX xe ((List.range i).map (frEnt view)) ∧ (∀ j,j < n1 → with' mu' fz j = with' mu1 fz j) ∧
    e 0 2 = .one (I view) ∧ e 0 3 = .one (I many) ∧ e 0 4 = .one (I commit) ∧ e 0 10 = .one (.optr n 0) ∧ e 0 11 = .one (.optr n1 0) ∧ e 0 13 = .one (.int .i64 i)) (λ_ _ _=>False) ?_ ?_ _ _ _ _ _ (by omega) ?_ ?_ ?_
  · rintro i e mu2 n2 K hi ⟨xe,g2,a0,a1,a2,a3,a4,e2,e3,e4,e10,e11,e13⟩ hy hn
    have hw:=wrap_succ hi (by omega)
    have wa2:=look_with (fz:=fz) a2
    obtain ⟨-,-,zk,zm⟩:=a3.len
    have hne2 : (n2 = n1) = False:=by simp; omega
    rw [dc_at l_law17_fresh_0.eq_1]
    simp only [↓E1,E2,zA,zB,zC,zD,zE,zF,zG,zH,zI,zJ,zK,zL,zM,zN,reduceIte,zO,zP, *]
    refine Grow.more (R:=EntX) (λh g=>EntX.mono h g) (a:=frEnt view i) a3 g2.free a0 (λj hj=>hfr.fz j (by omega)) ((Gr.refl g2.free).cons (Nat.le_refl _) _) ⟨.nsl,by simp [entC,frEnt],.inl ⟨.inl rfl,rfl⟩⟩ ⟨rfl,by simp only [↓E1,E2,zA,zB,zC,zD,zE,zF,zG,zH,zI,zJ,zK,zL,zM,zN,reduceIte,zO,zP]⟩ (fits_le (by simp; omega) (by decide) (by decide)) (λmu3 g3 G3=>?_)
    have b3 : Ev.look mu3 n1 = some [I me,I nodes,I view,I view,I 0,I 0,.bool false,I 0,tx0.sv,xe,xa,.nsl,.nsl]:=by rw [g3.own n1 (by omega)]; exact a2
    have b4:=(g3.own n (by omega)).trans a1
    simp only [↓E1,E2,zA,zB,zC,zD,zE,zF,zG,zH,zI,zJ,zK,zL,zM,zN,reduceIte,zO,zP, *,with_putI,look_putS,putS_putS,Option.isSome_some,Option.map_some]
    refine hy rfl _ _ _ ⟨_,(g2.trans (g3.weaken (by omega))).put (by omega) b3,by omega,by rw [look_putS,if_neg (by omega)]; exact b4,by rw [look_putS,if_pos rfl,b3]; rfl,Grow.mono (R:=EntX) (λh g=>EntX.mono h g) ?_ (From.put (by omega) b3),λj hj=>by rw [with_putS b3,if_neg (by omega),g3.ext j (by omega)]; exact a4 j hj,?_⟩
    · rw [List.range_succ,List.map_append]; exact G3
    · simp [updN,updE, *]
  · rintro e mu2 n2 K ⟨xe,g2,a0,a1,a2,a3,a4,e2,e3,e4,e10,e11,e13⟩ hx
    rw [dc_at l_law17_fresh_0.eq_1]
    have hlt2 : (many < many) = False:=by simp
    simp only [↓E1,E2,zA,zB,zC,zD,zE,zF,zG,zH,zI,zJ,zK,zL,zM,zN,reduceIte,zO,zP, *]
    exact hx _ _ _ ⟨xe,g2,a0,a1,a2,a3,a4,by simp [updN,updE, *]⟩
  · refine ⟨.nsl,gz.cons (by omega) _,Nat.le_refl _,by rw [look_c,if_neg (by omega)]; exact c1,by rw [look_c,if_pos rfl],Grow.nil,λj hj=>by rw [with_c,if_neg (by omega)],by simp [updN,updE,envI]⟩
  · rintro - e1 mu2 n2 ⟨xe,g2,a0,a1,a2,a3,a4,e2,e3,e4,e10,e11,e13⟩
    have wa2:=look_with (fz:=fz) a2
    have wa1:=look_with (fz:=fz) a1
    obtain ⟨-,-,zk,zm⟩:=a3.len
    have hne2 : (n1 = n) = False:=by simp; omega
    have hne3 : (n = n1) = False:=by simp; omega
    have ga:=g2.put (id:=n1) (by omega) a2 (c:=[I me,I nodes,I view,I view,I 0,I commit,.bool false,I 0,tx0.sv,xe,xa,.nsl,.nsl])
    have a5 : Ev.look (putS mu2 n1 [I me,I nodes,I view,I view,I 0,I commit,.bool false,I 0,tx0.sv,xe,xa,.nsl,.nsl]) n = some [I 0,I 0,I 0,I 0,I 0,I 0,.bool false,I 0,.str 0 0,.nsl,.nsl,.nsl,.nsl]:=by rw [look_putS,if_neg (by omega)]; exact a1
    have gb:=ga.put (Nat.le_refl _) a5 (c:=[I me,I nodes,I view,I view,I 0,I commit,.bool false,I 0,tx0.sv,xe,xa,.nsl,.nsl])
    simp only [↓E1,E2,zA,zB,zC,zD,zE,zF,zG,zH,zI,zJ,zK,zL,zM,zN,reduceIte,zO,zP, *,with_putI,look_putS,putS_putS,Option.isSome_some,Option.map_some]
    refine hk _ _ _ gb ⟨xe,xa,rfl,?_,?_,.inl ⟨.inl rfl,rfl⟩,⟨[],.inl ⟨.inl rfl,rfl⟩,trivial⟩⟩
    · exact EntsX.to (EntsX.mono (((From.put (by omega) a2).trans (From.put (by omega) a5)).trans (From.le (by omega))) (growEnts a3))
    · refine IntsX.to (IntsX.mono (λj B hj=>?_) hxa)
      obtain ⟨h1,h2⟩:=From.el hj
      have h4:=hf1.lt h2
      exact From.at (by omega) (by rw [with_putS a5,if_neg (by omega),with_putS a2,if_neg (by omega),a4 j h4]; exact h2)
  · rintro ⟨_,_,_,h⟩; cases h
end Go.Proofs.Ytnnjlnkoomeadaa.Pv
namespace Go.Proofs.Ytnnjlnkoomeadaa.Pv
open Go.Ev Go.Ev.Rp
set_option maxRecDepth 100000
set_option maxHeartbeats 4000000
set_option linter.unusedSimpArgs false
set_option linter.unusedVariables false
set_option linter.unusedSectionVars false
variable {P : Program} (H : Fs P)
include H
end Go.Proofs.Ytnnjlnkoomeadaa.Pv
namespace Go.Proofs.Ytnnjlnkoomeadaa.Pv
open Go.Ev Go.Ev.Rp
set_option maxRecDepth 100000
set_option maxHeartbeats 4000000
set_option linter.unusedSimpArgs false
set_option linter.unusedVariables false
set_option linter.unusedSectionVars false
def askM (r : Rep) (round : Int) (to : Nat) : Msg:=⟨12,r.me,to,r.view,0,0,0,round,0,0,0,0,0,0,tx0,[],⟨0,tx0,[]⟩,tx0⟩
def asks (r : Rep) (round : Int) (i : Nat) : List Msg:=((List.range i).filter λ(j : Nat)=>!decide ((j : Int) = r.me)).map (askM r round)
variable {P : Program} (H : Fs P)
include H
end Go.Proofs.Ytnnjlnkoomeadaa.Pv
namespace Go.Proofs.Ytnnjlnkoomeadaa.Pv
open Go.Ev Go.Ev.Rp
set_option maxRecDepth 100000
set_option maxHeartbeats 4000000
set_option linter.unusedSimpArgs false
set_option linter.unusedVariables false
set_option linter.unusedSectionVars false
theorem ints_flat (l : List Int) : (l.map intC).flatten = l.map I:=by
  induction l with
  | nil=>rfl
  | cons h t ih=>simp [ih,intC]
theorem mkd_I : ∀ (l : List Int),mkd (l.map I ++ [I (-7777),I (-8888)]) = false
  | []=>rfl
  | a :: l=>rfl
theorem over_ints : ∀ (l : List Int) (i : Nat) (x : Int),i < l.length → over (l.map I) i [I x] = (l.set i x).map I
  | [],_,_,h=>absurd h (by simp)
  | a :: l,0,x,_=>by simp [over]
  | a :: l,i + 1,x,h=>by rw [List.map_cons,over_s,over_ints l i x (by simpa using h)]; rfl
def LentI (M : Fz) (id : Nat) (l : List Int) : Prop:=M id = some (l.map I ++ [I (-7777),I (-8888)])
theorem LentI.sl {M : Fz} {id : Nat} {l : List Int} (h : LentI M id l) : IntsR M (.osl id 0 l.length (l.length + 2) 1) l :=
  .inr ⟨id,0,l.length + 2,_,by simp,by simp,h,mkd_I l,by simp,by simp [ints_flat],int_ok⟩
variable {P : Program} (H : Fs P)
include H
end Go.Proofs.Ytnnjlnkoomeadaa.Pv
namespace Go.Proofs.Ytnnjlnkoomeadaa.Pv
open Go.Ev Go.Ev.Rp
set_option maxRecDepth 100000
set_option maxHeartbeats 4000000
set_option linter.unusedSimpArgs false
set_option linter.unusedVariables false
set_option linter.unusedSectionVars false
def mkP : Pt:=⟨⟨0,0,by decide⟩,77777,0⟩
theorem mkd_P : ∀ (l : List Pt),mkd ((l ++ [mkP,mkP]).map ptC).flatten = false
  | []=>rfl
  | a :: l=>rfl
theorem pts_flen (l : List Pt) : (l.map ptC).flatten.length = l.length * 3:=by
  induction l with
  | nil=>rfl
  | cons h t ih=>simp [ih,ptC]; omega
def LentP (M : Fz) (id : Nat) (l : List Pt) : Prop:=M id = some ((l ++ [mkP,mkP]).map ptC).flatten
theorem LentP.sl {M : Fz} {id : Nat} {l : List Pt} (h : LentP M id l) : PtsR M (.osl id 0 l.length (l.length + 2) 3) l:=by
  refine .inr ⟨id,0,l.length + 2,_,by simp,by simp,h,mkd_P l,?_,?_,pt_ok⟩
  · rw [pts_flen]; simp; omega
  · rw [List.map_append,List.flatten_append,List.drop_zero,List.take_left' (by rw [pts_flen]; simp)]
variable {P : Program} (H : Fs P)
include H
end Go.Proofs.Ytnnjlnkoomeadaa.Pv
namespace Go.Proofs.Ytnnjlnkoomeadaa.Pv
open Go.Ev Go.Ev.Rp
set_option maxRecDepth 100000
set_option maxHeartbeats 4000000
set_option linter.unusedSimpArgs false
set_option linter.unusedVariables false
set_option linter.unusedSectionVars false
def EntL (M : Fz) (c : List SV) : Option Ent → Prop
  | some e=>∃ id,c = entC e (.osl id 0 e.batch.length (e.batch.length + 2) 3) ∧ LentP M id e.batch
  | none=>c = [I 77777,I 0,I 0,I 0,.nsl]
theorem EntL.mono {M M' : Fz} {c : List SV} {e : Option Ent} (hs : Sub M M') (h : EntL M c e) : EntL M' c e:=by
  cases e with
  | none=>exact h
  | some e=>obtain ⟨id,h1,h2⟩:=h; exact ⟨id,h1,hs _ _ h2⟩
def LentE (lo : Nat) (M : Fz) (id : Nat) (l : List Ent) : Prop:=Grow lo M 5 EntL (.osl id 0 (l.length + 1) (l.length + 1) 5) (l.map some ++ [none])
variable {P : Program} (H : Fs P)
include H
end Go.Proofs.Ytnnjlnkoomeadaa.Pv
namespace Go.Proofs.Ytnnjlnkoomeadaa.Pv
open Go.Ev Go.Ev.Rp
set_option maxRecDepth 100000
set_option maxHeartbeats 4000000
set_option linter.unusedSimpArgs false
set_option linter.unusedVariables false
set_option linter.unusedSectionVars false
theorem LentE.raw {lo : Nat} {M : Fz} {id : Nat} {l : List Ent} (h : LentE lo M id l) {i : Nat} (hi : i < l.length + 1) : ∃ B c,M id = some B ∧ mkd B = false ∧ i * 5 + 5 ≤ B.length ∧ (B.drop (i * 5)).take 5 = c ∧ EntL M c ((l.map some ++ [none])[i]'(by simpa using hi)):=by
  obtain ⟨cs,h1,h2⟩:=h
  have hl : cs.length = (l.map some ++ [none]).length:=h2.length
  have hl' : cs.length = l.length + 1:=by simpa using hl
  obtain ⟨id',off,cap,B,g1,g2,g3,g4,g5⟩:=h1.to.elem (i:=i) (by omega)
  injection g1 with a b c d e
  subst a b
  have h3:=h2.at (i:=i) (by omega) (by simpa using hi)
  exact ⟨B,_,From.sub _ _ g2,g3,by omega,by rw [Nat.zero_add] at g5; exact g5,h3.mono (Ex.sub.trans From.sub)⟩
theorem LentE.elem {lo : Nat} {M : Fz} {id : Nat} {l : List Ent} (h : LentE lo M id l) {i : Nat} (hi : i < l.length) : ∃ B idp,M id = some B ∧ mkd B = false ∧ i * 5 + 5 ≤ B.length ∧ (B.drop (i * 5)).take 5 = entC l[i] (.osl idp 0 l[i].batch.length (l[i].batch.length + 2) 3) ∧ LentP M idp l[i].batch:=by
  obtain ⟨B,c,g1,g2,g3,g4,g5⟩:=h.raw (i:=i) (by omega)
  have e : ((l.map some ++ [none])[i]'(by simp; omega)) = some l[i]:=by
    rw [List.getElem_append_left (by simpa using hi),List.getElem_map]
  rw [e] at g5
  obtain ⟨idp,h1,h2⟩:=g5
  exact ⟨B,idp,g1,g2,g3,g4.trans h1,h2⟩
theorem LentE.last {lo : Nat} {M : Fz} {id : Nat} {l : List Ent} (h : LentE lo M id l) : ∃ B,M id = some B ∧ mkd B = false ∧ l.length * 5 + 5 ≤ B.length ∧ (B.drop (l.length * 5)).take 5 = [I 77777,I 0,I 0,I 0,.nsl]:=by
  obtain ⟨B,c,g1,g2,g3,g4,g5⟩:=h.raw (i:=l.length) (by omega)
  have e : ((l.map some ++ [none])[l.length]'(by simp)) = none:=by
    rw [List.getElem_append_right (by simp)]; simp
  rw [e] at g5
  exact ⟨B,g1,g2,g3,g4.trans g5⟩
variable {P : Program} (H : Fs P)
include H
end Go.Proofs.Ytnnjlnkoomeadaa.Pv
namespace Go.Proofs.Ytnnjlnkoomeadaa.Pv
open Go.Ev Go.Ev.Rp
set_option maxRecDepth 100000
set_option maxHeartbeats 4000000
set_option linter.unusedSimpArgs false
set_option linter.unusedVariables false
set_option linter.unusedSectionVars false
structure LndLg (l : Lg) : Prop where
  ents : l.ents.length ≤ 2513169434910
  bat : ∀ e ∈ l.ents,e.batch.length ≤ 4398046511102
structure LndSz (r : Rep) : Prop where
  log : LndLg r.log
  acks : r.acks.length ≤ 17592186044413
  starts : r.starts.length ≤ 17592186044413
  dos : r.dos.length ≤ 1954687338267
  dlog : ∀ d ∈ r.dos,LndLg d.log
theorem LentE.up {lo : Nat} {M M' : Fz} {id : Nat} {l : List Ent} (h : LentE lo M id l) (hs : ∀ j B,lo ≤ j → M j = some B → M' j = some B) : LentE lo M' id l :=
  Grow.mono (R:=EntL) EntL.mono h λj B g=>From.at (From.lt g) (hs j B (From.lt g) (From.sub _ _ g))
theorem LentE.mono {lo : Nat} {M M' : Fz} {id : Nat} {l : List Ent} (hs : Sub M M') (h : LentE lo M id l) : LentE lo M' id l:=h.up λj B _ g=>hs j B g
def DvL (M : Fz) (c : List SV) (d : Dv) : Prop:=∃ id lo,c = dvC d (.osl id 0 d.log.ents.length (d.log.ents.length + 1) 5) ∧ LentE lo M id d.log.ents
theorem DvL.mono {M M' : Fz} {c : List SV} {d : Dv} (hs : Sub M M') (h : DvL M c d) : DvL M' c d:=by
  obtain ⟨id,lo,h1,h2⟩:=h; exact ⟨id,lo,h1,h2.mono hs⟩
structure LentR (M : Fz) (r : Rep) (ide ida ids : Nat) (xd : SV) : Prop where
  ents : ∃ lo,LentE lo M ide r.log.ents
  acks : LentI M ida r.acks
  starts : LentI M ids r.starts
  dos : ∃ lo,Grow lo M 6 DvL xd r.dos
theorem LentR.mono {M M' : Fz} {r : Rep} {ide ida ids : Nat} {xd : SV} (hs : Sub M M') (h : LentR M r ide ida ids xd) : LentR M' r ide ida ids xd:=by
  obtain ⟨⟨lo,h1⟩,h2,h3,lo',h4⟩:=h
  exact ⟨⟨lo,h1.mono hs⟩,hs _ _ h2,hs _ _ h3,lo',Grow.mono (R:=DvL) DvL.mono h4 (From.mono hs)⟩
variable {P : Program} (H : Fs P)
include H
end Go.Proofs.Ytnnjlnkoomeadaa.Pv
namespace Go.Proofs.Ytnnjlnkoomeadaa.Pv
open Go.Ev Go.Ev.Rp
set_option maxRecDepth 100000
set_option maxHeartbeats 4000000
set_option linter.unusedSimpArgs false
set_option linter.unusedVariables false
set_option linter.unusedSectionVars false
theorem LentD.elem {lo : Nat} {M : Fz} {x : SV} {l : List Dv} (h : Grow lo M 6 DvL x l) {i : Nat} (hi : i < l.length) : ∃ id off cap B idl lo',x = .osl id off l.length cap 6 ∧ M id = some B ∧ mkd B = false ∧ off + i * 6 + 6 ≤ B.length ∧ (B.drop (off + i * 6)).take 6 = dvC l[i] (.osl idl 0 l[i].log.ents.length (l[i].log.ents.length + 1) 5) ∧ LentE lo' M idl l[i].log.ents:=by
  obtain ⟨cs,h1,h2⟩:=h
  have hl : cs.length = l.length:=h2.length
  obtain ⟨id',off,cap,B,g1,g2,g3,g4,g5⟩:=h1.to.elem (i:=i) (by omega)
  obtain ⟨idl,lo',e1,e2⟩:=h2.at (i:=i) (by omega) hi
  rw [hl] at g1
  exact ⟨id',off,cap,B,idl,lo',g1,From.sub _ _ g2,g3,g4,g5.trans e1,e2.mono (Ex.sub.trans From.sub)⟩
variable {P : Program} (H : Fs P)
include H
end Go.Proofs.Ytnnjlnkoomeadaa.Pv
namespace Go.Proofs.Ytnnjlnkoomeadaa.Pv
open Go.Ev Go.Ev.Rp
set_option maxRecDepth 100000
set_option maxHeartbeats 4000000
set_option linter.unusedSimpArgs false
set_option linter.unusedVariables false
set_option linter.unusedSectionVars false
variable {P : Program} (H : Fs P)
include H
end Go.Proofs.Ytnnjlnkoomeadaa.Pv
namespace Go.Proofs.Ytnnjlnkoomeadaa.Pv
open Go.Ev Go.Ev.Rp
set_option maxRecDepth 100000
set_option maxHeartbeats 4000000
set_option linter.unusedSimpArgs false
set_option linter.unusedVariables false
set_option linter.unusedSectionVars false
variable {P : Program} (H : Fs P)
include H
end Go.Proofs.Ytnnjlnkoomeadaa.Pv
namespace Go.Ev.Rp
def putStep (x : Int) (s : Bool × List Int) (y : Int) : Bool × List Int :=
  let t:=if s.1 = false ∧ x ≤ y then (true,s.2 ++ [x]) else s
  (t.1,if y = x then t.2 else t.2 ++ [y])
def putF (xs : List Int) (x : Int) : Bool × List Int:=xs.foldl (putStep x) (false,[])
end Go.Ev.Rp
namespace Go.Proofs.Ytnnjlnkoomeadaa.Pv
open Go.Ev Go.Ev.Rp
set_option maxRecDepth 100000
set_option maxHeartbeats 4000000
set_option linter.unusedSimpArgs false
set_option linter.unusedVariables false
set_option linter.unusedSectionVars false
variable {P : Program} (H : Fs P)
include H
end Go.Proofs.Ytnnjlnkoomeadaa.Pv
namespace Go.Ev
open Go.Shelf Go.Proofs
section
variable {val : Nat → Int} {fz : Fz} {mu : St} {n : Nat}
end
end Go.Ev
namespace Go.Ev
open Go.Shelf Go.Proofs
section
variable {R : Type} {T : R → Prop} {z : R} {P : Program} {val : Nat → Int}
end
end Go.Ev
namespace Go.Proofs.Ytnnjlnkoomeadaa.Pv
open Go.Ev Go.Ev.Rp
set_option linter.unusedVariables false
set_option linter.unusedSimpArgs false
end Go.Proofs.Ytnnjlnkoomeadaa.Pv
namespace Go.Proofs.Ytnnjlnkoomeadaa.Pv
open Go.Ev Go.Ev.Rp
set_option maxRecDepth 100000
set_option maxHeartbeats 4000000
set_option linter.unusedSimpArgs false
set_option linter.unusedVariables false
set_option linter.unusedSectionVars false
variable {P : Program} (H : Fs P)
include H
end Go.Proofs.Ytnnjlnkoomeadaa.Pv
namespace Go.Proofs.Ytnnjlnkoomeadaa.Pv
open Go.Ev Go.Ev.Rp
set_option maxRecDepth 100000
set_option maxHeartbeats 4000000
set_option linter.unusedSimpArgs false
set_option linter.unusedVariables false
set_option linter.unusedSectionVars false
def andI (a b : Int) : Int:=IntKind.i64.wrap (BitVec.ofInt IntKind.i64.bits a &&& BitVec.ofInt IntKind.i64.bits b).toNat
theorem b_andI {a b : Int} {k : SV → Prop} : binI .and .i64 a b False k = k (.int .i64 (andI a b)):=b_and
variable {P : Program} (H : Fs P)
include H
end Go.Proofs.Ytnnjlnkoomeadaa.Pv
namespace Go.Proofs.Ytnnjlnkoomeadaa.Pv
open Go.Ev Go.Ev.Rp
set_option maxRecDepth 100000
set_option maxHeartbeats 4000000
set_option linter.unusedSimpArgs false
set_option linter.unusedVariables false
set_option linter.unusedSectionVars false
variable {P : Program} (H : Fs P)
include H
end Go.Proofs.Ytnnjlnkoomeadaa.Pv
namespace Go.Proofs.Ytnnjlnkoomeadaa.Pv
open Go.Ev Go.Ev.Rp
set_option maxRecDepth 100000
set_option maxHeartbeats 4000000
set_option linter.unusedSimpArgs false
set_option linter.unusedVariables false
set_option linter.unusedSectionVars false
variable {P : Program} (H : Fs P)
include H
end Go.Proofs.Ytnnjlnkoomeadaa.Pv
namespace Go.Proofs.Ytnnjlnkoomeadaa.Pv
open Go.Ev Go.Ev.Rp
set_option maxRecDepth 100000
set_option maxHeartbeats 4000000
set_option linter.unusedSimpArgs false
set_option linter.unusedVariables false
set_option linter.unusedSectionVars false
variable {P : Program} (H : Fs P)
include H
end Go.Proofs.Ytnnjlnkoomeadaa.Pv
namespace Go.Proofs.Ytnnjlnkoomeadaa.Pv
open Go.Ev Go.Ev.Rp
set_option maxRecDepth 100000
set_option maxHeartbeats 4000000
set_option linter.unusedSimpArgs false
set_option linter.unusedVariables false
set_option linter.unusedSectionVars false
variable {P : Program} (H : Fs P)
include H
end Go.Proofs.Ytnnjlnkoomeadaa.Pv
namespace Go.Proofs.Ytnnjlnkoomeadaa.Pv
open Go.Ev Go.Ev.Rp
set_option maxRecDepth 100000
set_option maxHeartbeats 4000000
set_option linter.unusedSimpArgs false
set_option linter.unusedVariables false
set_option linter.unusedSectionVars false
theorem LentE.rs {lo : Nat} {M : Fz} {id : Nat} {l : List Ent} (h : LentE lo M id l) : EntsR M (.osl id 0 l.length (l.length + 1) 5) l:=by
  obtain ⟨cs,h1,h2⟩:=h
  have hl : cs.length = l.length + 1:=by simpa using h2.length
  rcases h1 with ⟨h | h,_⟩ | ⟨id',e,h3,h4,h5⟩
  · cases h
  · cases h
  · injection e with e1 e2 e3 e4 e5
    subst e1
    have htl : (cs.take l.length).length = l.length:=by simp; omega
    have hu : ∀ e ∈ cs.take l.length,e.length = 5 ∧ knownAll e = true:=λe he=>h5 e (List.mem_of_mem_take he)
    have hfl:=flat_length (s:=5) (es:=cs.take l.length) λe he=>(hu e he).1
    have hsplit : cs.flatten = (cs.take l.length).flatten ++ (cs.drop l.length).flatten:=by rw [← List.flatten_append,List.take_append_drop]
    rw [htl] at hfl
    have hs : Sl M 5 (.osl id 0 (cs.take l.length).length (l.length + 1) 5) (cs.take l.length):=by
      refine .inr ⟨id,0,l.length + 1,cs.flatten,rfl,by omega,From.sub _ _ h3,h4,?_,?_,hu⟩
      · rw [flat_length λe he=>(h5 e he).1,htl,hl]; omega
      · rw [List.drop_zero,hsplit,htl,List.take_left' hfl]
    rw [htl] at hs
    refine ⟨cs.take l.length,hs,All2.of_get (by omega) λi a b ha hb=>?_⟩
    obtain ⟨hi,rfl⟩:=List.getElem?_eq_some_iff.1 ha
    obtain ⟨hi2,rfl⟩:=List.getElem?_eq_some_iff.1 hb
    have h3:=h2.at (i:=i) (by omega) (by simp; omega)
    rw [List.getElem_append_left (by simpa using hi2),List.getElem_map] at h3
    obtain ⟨idp,h6,h7⟩:=h3
    rw [List.getElem_take]
    exact ⟨_,h6,PtsR.mono (Ex.sub.trans From.sub) (LentP.sl h7)⟩
theorem LentR.rs {M : Fz} {r : Rep} {ide ida ids : Nat} {xd : SV} (h : LentR M r ide ida ids xd) : RepS M r (.osl ide 0 r.log.ents.length (r.log.ents.length + 1) 5) (.osl ida 0 r.acks.length (r.acks.length + 2) 1) (.osl ids 0 r.starts.length (r.starts.length + 2) 1) xd:=by
  obtain ⟨⟨lo,h1⟩,h2,h3,lo',cs,h4,h5⟩:=h
  refine ⟨h1.rs,h2.sl,h3.sl,cs,Sl.mono h4.to From.sub,h5.imp λc d g=>?_⟩
  obtain ⟨id,lo2,e1,e2⟩:=g
  exact ⟨_,e1,EntsR.mono (Ex.sub.trans From.sub) e2.rs⟩
theorem LndSz.rs {r : Rep} (h : LndSz r) : RepSz r:=⟨⟨by have:=h.log.ents; omega,λe he=>by have:=h.log.bat e he; omega⟩,by have:=h.acks; omega,by have:=h.starts; omega,h.dos,λd hd=>⟨by have:=(h.dlog d hd).ents; omega,λe he=>by have:=(h.dlog d hd).bat e he; omega⟩⟩
variable {P : Program} (H : Fs P)
include H
end Go.Proofs.Ytnnjlnkoomeadaa.Pv
namespace Go.Proofs.Ytnnjlnkoomeadaa.Pv
open Go.Ev Go.Ev.Rp
set_option maxRecDepth 100000
set_option maxHeartbeats 4000000
set_option linter.unusedSimpArgs false
set_option linter.unusedVariables false
set_option linter.unusedSectionVars false
variable {P : Program} (H : Fs P)
include H
end Go.Proofs.Ytnnjlnkoomeadaa.Pv
namespace Go.Proofs.Ytnnjlnkoomeadaa.Pv
open Go.Ev Go.Ev.Rp
set_option maxRecDepth 100000
set_option maxHeartbeats 4000000
set_option linter.unusedSimpArgs false
set_option linter.unusedVariables false
set_option linter.unusedSectionVars false
theorem nilE (M : Fz) : EntsR M .nsl []:=⟨[],.inl ⟨.inl rfl,rfl⟩,trivial⟩
theorem nilP (M : Fz) : PtsR M .nsl []:=.inl ⟨.inl rfl,rfl⟩
variable {P : Program} (H : Fs P)
include H
end Go.Proofs.Ytnnjlnkoomeadaa.Pv
namespace Go.Ev
set_option linter.unusedVariables false
theorem CallS.forget {P : Program} {f : Nat} {args : List AV} {fz : Fz} {mu : St} {n : Nat} {v : AV} {mu' : St} {n' : Nat} (h : CallS P f args fz mu n v mu' n') {mu2 : St} (hs : ∀ id c,look mu2 id = some c → look mu' id = some c) : CallS P f args fz mu n v mu2 n':=by
  obtain ⟨h1,h2,h3⟩:=h
  have hi : ∀ id,(look mu2 id).isSome = true → (look mu' id).isSome = true:=λid hid=>by
    obtain ⟨c,hc⟩:=Option.isSome_iff_exists.1 hid
    rw [hs id c hc]; rfl
  refine ⟨h1,h2,λρ w xs hr hx hf=>(h3 ρ w xs hr hx hf).mono λe w' ⟨x,he,ρ',p1,p2,p3,p4,p5,p6⟩=>⟨x,he,ρ',p1,⟨p2.rf,λid cs h=>p2.rm id cs (hs id cs h),λid cs h=>p2.dm id cs (hs id cs h),λid id' p p' a b=>p2.dj id id' p p' (hi id a) (b.imp (hi id') λz=>z)⟩,p3,p4,λid p hl hp=>p5 id p (hi id hl) hp,λid hid=>p6 id (hi id hid)⟩⟩
section
variable {P : Program} {f : Nat} {args : List AV} {pre : Fz → Prop} {Q : AV → Prop} {fz : Fz} {mu : St} {n : Nat} {k : KT Prop}
theorem Ctr.q1 (h : Ctr P f args pre λ_ _ _ v=>Q v) {w : WK k} (hf : Free fz mu n) (hp : pre (with' mu fz)) (hk : ∀ v n',n ≤ n' → Q v → k v [] n') : CPr P f args (with' mu fz) [] n k w:=by
  obtain ⟨v,new,n',hQ,hc⟩:=h (with' mu fz) [] n (λv _ _=>Q v) (λj=>hf j) hp (λv _ _ _ hq=>hq)
  exact ⟨v,[],n',hk v n' hc.2.1 hQ,hc.forget λid c h=>by cases h⟩
theorem Ctr.q0 (h : Ctr P f args pre λ_ _ _ v=>Q v) {w : WK k} (hf : Free fz mu n) (hp : pre (with' mu fz)) (hk : ∀ v n',n ≤ n' → Q v → k v mu n') : CPr P f args fz mu n k w:=by
  obtain ⟨v,new,n',hQ,hc⟩:=h (with' mu fz) [] n (λv _ _=>Q v) (λj=>hf j) hp (λv _ _ _ hq=>hq)
  exact ⟨v,[],n',hk v n' hc.2.1 hQ,hc.forget λid c h=>by cases h⟩
end
theorem Free.le {fz : Fz} {mu : St} {n n' : Nat} (h : Free fz mu n) (hn : n ≤ n') : Free fz mu n':=λj=>by
  have:=h.none (show n ≤ n' + j by omega)
  exact this
theorem Gr.le2 {lo : Nat} {fz : Fz} {mu mu' : St} {n n' n2 : Nat} (h : Gr lo fz mu mu' n n') (hn : n' ≤ n2) : Gr lo fz mu mu' n n2:=⟨Nat.le_trans h.le hn,h.ext,h.own,h.free.le hn⟩
end Go.Ev
namespace Go.Proofs.Ytnnjlnkoomeadaa.Pv
open Go.Ev Go.Ev.Rp
set_option maxRecDepth 100000
set_option maxHeartbeats 4000000
set_option linter.unusedSimpArgs false
set_option linter.unusedVariables false
set_option linter.unusedSectionVars false
def MsgX (M : Fz) (c : List SV) (m : Msg) : Prop:=∃ xb xe,c = msgC m xb xe ∧ PtsX M xb m.batch ∧ EntsX M xe m.log.ents
theorem MsgX.mono {M M' : Fz} {c : List SV} {m : Msg} (hm : Sub M M') (h : MsgX M c m) : MsgX M' c m:=let ⟨xb,xe,h1,h2,h3⟩:=h; ⟨xb,xe,h1,PtsX.mono hm h2,EntsX.mono hm h3⟩
def OutT (o : Nat → Nat) (M : Fz) (xo : SV) (out : List Msg) : Prop:=∃ cs,SlX (Tag o 7 M) 20 xo cs ∧ All2 (MsgX (Tag o 8 M)) cs out
theorem RepT.keep {o o' : Nat → Nat} {M M' : Fz} {r : Rep} {xe xa xs xd : SV} (h : ∀ t,1 ≤ t → t ≤ 6 → Sub (Tag o t M) (Tag o' t M')) (g : RepT o M r xe xa xs xd) : RepT o' M' r xe xa xs xd:=by
  obtain ⟨⟨cs,h1,h2⟩,h3,h4,ds,h5,h6⟩:=g
  exact ⟨⟨cs,h1.mono (h 1 (by omega) (by omega)),h2.imp λc a g=>EntX.mono (h 2 (by omega) (by omega)) g⟩,IntsX.mono (h 3 (by omega) (by omega)) h3,IntsX.mono (h 4 (by omega) (by omega)) h4,⟨ds,h5.mono (h 5 (by omega) (by omega)),h6.imp λc a g=>DvX.mono (h 6 (by omega) (by omega)) g⟩⟩
theorem OutT.keep {o o' : Nat → Nat} {M M' : Fz} {xo : SV} {out : List Msg} (h7 : Sub (Tag o 7 M) (Tag o' 7 M')) (h8 : Sub (Tag o 8 M) (Tag o' 8 M')) (g : OutT o M xo out) : OutT o' M' xo out:=by
  obtain ⟨cs,h1,h2⟩:=g
  exact ⟨cs,h1.mono h7,h2.imp λc a g=>MsgX.mono h8 g⟩
structure SW (lo : Nat) (fz : Fz) (s : Nat) (o : Nat → Nat) (mu : St) (n : Nat) (r : Rep) (out : List Msg) (vd : Bool) (xe xa xs xd xo : SV) : Prop where
  cells : Ev.look mu s = some (stepC r xe xa xs xd xo vd)
  rt : RepT o (with' mu fz) r xe xa xs xd
  ot : OutT o (with' mu fz) xo out
  free : Free fz mu n
  los : lo ≤ s
  os : o s = 9
  zero : ∀ j,j < lo → o j = 0
  fzl : ∀ j,lo ≤ j → fz j = none
section
variable {lo : Nat} {fz : Fz} {s : Nat} {o : Nat → Nat} {mu : St} {n : Nat} {r : Rep} {out : List Msg} {vd : Bool} {xe xa xs xd xo : SV}
theorem SW.slt (h : SW lo fz s o mu n r out vd xe xa xs xd xo) : s < n:=h.free.lt (look_with h.cells)
theorem SW.lon (h : SW lo fz s o mu n r out vd xe xa xs xd xo) : lo ≤ n:=Nat.le_of_lt (Nat.lt_of_le_of_lt h.los h.slt)
theorem SW.ge (h : SW lo fz s o mu n r out vd xe xa xs xd xo) {j : Nat} (hj : o j ≠ 0) : lo ≤ j:=by
  rcases Nat.lt_or_ge j lo with h1 | h1
  · exact (hj (h.zero j h1)).elim
  · exact h1
theorem SW.ks (h : SW lo fz s o mu n r out vd xe xa xs xd xo) : (xe.known = true ∧ xe.isMk = false) ∧ (xa.known = true ∧ xa.isMk = false) ∧ (xs.known = true ∧ xs.isMk = false) ∧ (xd.known = true ∧ xd.isMk = false) ∧ (xo.known = true ∧ xo.isMk = false):=by
  obtain ⟨⟨cs,h1,h2⟩,h3,h4,ds,h5,h6⟩:=h.rt
  obtain ⟨es,h7,h8⟩:=h.ot
  exact ⟨(SlX.len h1).2.2,(SlX.len h3).2.2,(SlX.len h4).2.2,(SlX.len h5).2.2,(SlX.len h7).2.2⟩
theorem SW.rs (h : SW lo fz s o mu n r out vd xe xa xs xd xo) : RepS (with' mu fz) r xe xa xs xd:=by
  obtain ⟨⟨cs,h1,h2⟩,h3,h4,ds,h5,h6⟩:=h.rt
  exact ⟨⟨cs,(h1.mono Tag.sub).to,h2.imp λc a g=>(EntX.mono Tag.sub g).to⟩,IntsX.to (IntsX.mono Tag.sub h3),IntsX.to (IntsX.mono Tag.sub h4),⟨ds,(h5.mono Tag.sub).to,h6.imp λc a g=>(DvX.mono Tag.sub g).to⟩⟩
theorem SW.gr (h : SW lo fz s o mu n r out vd xe xa xs xd xo) {mu' : St} {n' : Nat} (g : Gr n fz mu mu' n n') : SW lo fz s o mu' n' r out vd xe xa xs xd xo:=by
  have u : ∀ t,Sub (Tag o t (with' mu fz)) (Tag o t (with' mu' fz)):=λt=>Tag.mono (g.sub h.free (Nat.le_refl _))
  exact ⟨(g.own s h.slt).trans h.cells,h.rt.keep λt _ _=>u t,h.ot.keep (u 7) (u 8),g.free,h.los,h.os,h.zero,h.fzl⟩
theorem SW.le (h : SW lo fz s o mu n r out vd xe xa xs xd xo) {n' : Nat} (g : n ≤ n') : SW lo fz s o mu n' r out vd xe xa xs xd xo:=⟨h.cells,h.rt,h.ot,h.free.le g,h.los,h.os,h.zero,h.fzl⟩
theorem SW.putA (h : SW lo fz s o mu n r out vd xe xa xs xd xo) {l : List Int} {ida : Nat} (hx : xa = .osl ida 0 r.acks.length r.acks.length 1) (ho : o ida = 3) (hl : l.length = r.acks.length) (hk : Ev.look mu ida = some (r.acks.map (SV.int .i64))) : SW lo fz s o (putS mu ida (l.map (SV.int .i64))) n { r with acks:=l } out vd xe xa xs xd xo:=by
  have u : ∀ t,t ≠ 3 → Sub (Tag o t (with' mu fz)) (Tag o t (with' (putS mu ida (l.map (SV.int .i64))) fz)):=λt ht=>Tag.put (lookI hk) (by rw [ho]; omega)
  have hlo : lo ≤ ida:=h.ge (by omega)
  have g:=(Gr.refl (lo:=lo) h.free).put hlo hk (c:=l.map (SV.int .i64))
  have hne : ida ≠ s:=λe=>by have:=h.os; rw [← e,ho] at this; omega
  obtain ⟨⟨cs,h1,h2⟩,h3,h4,ds,h5,h6⟩:=h.rt
  refine ⟨by rw [look_putS,if_neg hne]; exact h.cells,⟨⟨cs,h1.mono (u 1 (by omega)),h2.imp λc a g=>EntX.mono (u 2 (by omega)) g⟩,?_,IntsX.mono (u 4 (by omega)) h4,ds,h5.mono (u 5 (by omega)),h6.imp λc a g=>DvX.mono (u 6 (by omega)) g⟩,h.ot.keep (u 7 (by omega)) (u 8 (by omega)),g.free,h.los,h.os,h.zero,h.fzl⟩
  refine .inr ⟨ida,by rw [hx]; simp [hl],Tag.at ho (by rw [with_putS hk,if_pos rfl,cm_flat]),by rw [cm_flat]; exact cm_mkd l,int_ok⟩
theorem SW.put (h : SW lo fz s o mu n r out vd xe xa xs xd xo) {r' : Rep} {vd' : Bool} (he : r'.log.ents = r.log.ents) (ha : r'.acks = r.acks) (hs : r'.starts = r.starts) (hd : r'.dos = r.dos) : SW lo fz s o (putS mu s (stepC r' xe xa xs xd xo vd')) n r' out vd' xe xa xs xd xo:=by
  have u : ∀ t,t ≠ 9 → Sub (Tag o t (with' mu fz)) (Tag o t (with' (putS mu s (stepC r' xe xa xs xd xo vd')) fz)):=λt ht=>Tag.put (lookI h.cells) (by rw [h.os]; omega)
  have g:=(Gr.refl (lo:=lo) h.free).put h.los h.cells (c:=stepC r' xe xa xs xd xo vd')
  refine ⟨by rw [look_putS,if_pos rfl,h.cells]; rfl,?_,h.ot.keep (u 7 (by omega)) (u 8 (by omega)),g.free,h.los,h.os,h.zero,h.fzl⟩
  obtain ⟨h1,h2,h3,h4⟩:=h.rt.keep (λt _ _=>u t (by omega))
  exact ⟨by rw [he]; exact h1,by rw [ha]; exact h2,by rw [hs]; exact h3,by rw [hd]; exact h4⟩
end
end Go.Proofs.Ytnnjlnkoomeadaa.Pv
namespace Go.Proofs.Ytnnjlnkoomeadaa.Pv
open Go.Ev Go.Ev.Rp
set_option maxRecDepth 100000
set_option maxHeartbeats 4000000
set_option linter.unusedSimpArgs false
set_option linter.unusedVariables false
set_option linter.unusedSectionVars false
def ackL (r : Rep) (i : Nat) (at' : Int) : List Int:=r.acks.set i (max (r.acks[i]?.getD 0) (min at' (last r.log)))
def ackR (r : Rep) (i : Nat) (at' : Int) : Rep:={ r with acks:=ackL r i at',commit:=max r.commit (commF (ackL r i at') r.me (last r.log)) }
def ackedR (r : Rep) (m : Msg) : Rep:=if leadB r && !decide (r.view < m.view) then ackR r m.frm.toNat m.at' else r
variable {P : Program} (H : Fs P)
include H
theorem replica_step_last (id : Nat) (r : Rep) (xe xa xs xd xo : SV) (vd : Bool) : Ctr P n_replica_step_last [.one (.optr id 0)] (λM=>M id = some (stepC r xe xa xs xd xo vd) ∧ EntsR M xe r.log.ents) (λ_ _ _ v=>v = .one (I (last r.log))):=Ctr.of H.mx H.replica_step_last (λ_=>0) λfz mu n k hfr s hk=>by
  obtain ⟨b1,s1⟩:=s
  have hE:=choose_Last H r.log xe
  unfold lgC at hE
  unfold stepC repC at b1
  rw [i_replica_step_last,dc_at b_replica_step_last.eq_1]
  simp only [↓E1,E2,zA,zB,zC,zD,zE,zF,zG,zH,zI,zJ,zK,zL,zM,zN,reduceIte,zO,zP, *]
  refine hE.q0 hfr s1 ?_
  rintro v n' hl rfl
  simp only [↓E1,E2,zA,zB,zC,zD,zE,zF,zG,zH,zI,zJ,zK,zL,zM,zN,reduceIte,zO,zP, *]
  exact hk _ _ _ ((Gr.refl hfr).le2 hl) rfl
theorem step_acked (hS : SortC P) {lo : Nat} {fz : Fz} {s : Nat} {o : Nat → Nat} {mu : St} {n : Nat} {r : Rep} {out : List Msg} {vd : Bool} {xe xa xs xd xo : SV} (S : SW lo fz s o mu n r out vd xe xa xs xd xo) (m : Msg) (yb ye : SV)
    (hm : MsgS (with' mu fz) m yb ye) (h1 : 0 ≤ m.frm) (h2 : m.frm.toNat < r.acks.length) (hl : r.acks.length ≤ 17592186044415) {k : KT Prop} {w : WK k}
    (hk : ∀ mu' n',SW lo fz s o mu' n' (ackedR r m) out vd xe xa xs xd xo → Gr lo fz mu mu' n n' → k noVal mu' n') : CPh P n_replica_step_acked [.one (.optr s 0),.ag (msgC m yb ye)] fz mu n k w:=by
  refine CP_of H.replica_step_acked H.mx 0 ?_
  obtain ⟨-,-,ybk,ybm⟩:=hm.1.len
  obtain ⟨-,-,yek,yem⟩:=hm.2.len
  rw [i_replica_step_acked,dc_at b_replica_step_acked.eq_1]
  obtain ⟨i,hi⟩ : ∃ i : Nat,m.frm = (i : Int):=⟨m.frm.toNat,by omega⟩
  have hii : i < r.acks.length:=by omega
  have gA:=(Gr.refl (lo:=n) S.free).cons (Nat.le_refl _) (msgC m yb ye)
  have S1:=S.gr gA
  have b1 : Ev.look ((n,msgC m yb ye) :: mu) n = some (msgC m yb ye):=by rw [look_c,if_pos rfl]
  have hsn : s < n:=S.slt
  obtain ⟨m1,hm1⟩ : ∃ mz : St,((n,msgC m yb ye) :: mu) = mz:=⟨_,rfl⟩
  rw [hm1] at gA S1 b1
  have wb:=look_with (fz:=fz) b1
  have ws:=look_with (fz:=fz) S1.cells
  have hNo:=replica_step_normal H s r xe xa xs xd xo vd
  have hLa:=replica_step_last H s r xe xa xs xd xo vd
  have gM:=gA.weaken (show lo ≤ n from S.lon)
  unfold msgC at hm1 wb ⊢
  obtain ⟨⟨xek,xem⟩,⟨xak,xam⟩,⟨xsk,xsm⟩,⟨xdk,xdm⟩,xok,xom⟩:=S1.ks
  simp only [↓E1,E2,zA,zB,zC,zD,zE,zF,zG,zH,zI,zJ,zK,zL,zM,zN,reduceIte,zO,zP, *]
  rw [hi] at hm1
  try rw [hm1]
  refine hNo.q1 S1.free ws ?_
  rintro v n2 l2 rfl
  have hacked : ackedR r m = if leadB r && !decide (r.view < m.view) then ackR r i m.at' else r:=by unfold ackedR; rw [hi]; rfl
  rw [hacked] at hk
  unfold stepC repC at ws
  simp only [↓E1,E2,zA,zB,zC,zD,zE,zF,zG,zH,zI,zJ,zK,zL,zM,zN,reduceIte,zO,zP, *]
  refine Br_intro (λhb=>?_) (λhb=>?_)
  · have hb' : leadB r = true:=by simpa using hb
    clear hb
    obtain ⟨ida,hxa,hoa,hra⟩ : ∃ ida,xa = .osl ida 0 r.acks.length r.acks.length 1 ∧ o ida = 3 ∧ Ev.look m1 ida = some (r.acks.map (SV.int .i64)):=by
      rcases S1.rt.acks with ⟨_,h0⟩ | ⟨ida,h3,h4,h5,h6⟩
      · exfalso; have:=congrArg List.length h0; simp at this; rw [this] at hii; simp at hii
      · obtain ⟨h7,h8⟩:=Tag.el h4
        refine ⟨ida,by simpa using h3,h7,?_⟩
        rw [← cm_flat,← with_look (S1.fzl ida (S1.ge (by omega)))]; exact h8
    have hwa:=look_with (fz:=fz) hra
    have hmk:=cm_mkd r.acks
    have hsub:=cm_sub hii
    have hbd : i * 1 + 1 ≤ (r.acks.map (SV.int .i64)).length:=by simp; omega
    have hlenm : (r.acks.map (SV.int .i64)).length = r.acks.length:=by simp
    have S1b:=S1
    rw [hxa] at ws
    have hLa':=hLa
    simp only [↓E1,E2,zA,zB,zC,zD,zE,zF,zG,zH,zI,zJ,zK,zL,zM,zN,reduceIte,zO,zP, *]
    refine Br_intro (λhb=>?_) (λhb=>?_)
    · have hno : (if true = true ∧ (!decide (r.view < m.view)) = true then ackR r i m.at' else r) = r:=by rw [if_neg]; simp [of_decide_eq_true hb]
      simp only [↓E1,E2,zA,zB,zC,zD,zE,zF,zG,zH,zI,zJ,zK,zL,zM,zN,reduceIte,zO,zP, *]
      refine hk _ _ ?_ ((gM.le2 l2))
      have : (if (leadB r && !decide (r.view < m.view)) = true then ackR r i m.at' else r) = r:=by rw [if_neg]; simp [of_decide_eq_true hb]
      first | exact S1.le l2 | (rw [this]; exact S1.le l2) | (simp only [hb',hb] ; exact S1.le l2)
    · simp only [↓E1,E2,zA,zB,zC,zD,zE,zF,zG,zH,zI,zJ,zK,zL,zM,zN,reduceIte,zO,zP, *]
      refine ⟨by simpa using hbd,?_⟩
      refine hLa.q1 (S1.free.le l2) ⟨look_with S1.cells,S1.rs.1⟩ ?_
      rintro v n3 l3 rfl
      have hil : (i < r.acks.length) = True:=by simp [hii]
      have hbd' : i * 1 + 1 ≤ r.acks.length:=by omega
      obtain ⟨l2',hl2⟩ : ∃ l2,r.acks.set i (max r.acks[i] (min m.at' (last r.log))) = l2:=⟨_,rfl⟩
      have hll : l2'.length = r.acks.length:=by rw [← hl2]; simp
      have hov : over (r.acks.map (SV.int .i64)) (i * 1) [SV.int .i64 (max r.acks[i] (min m.at' (last r.log)))] = l2'.map (SV.int .i64):=by rw [Nat.mul_one,← hl2]; exact over_ints r.acks i _ hii
      have S3:=((S1.le l2).le l3).putA (l:=l2') hxa hoa hll hra
      have g3:=(((gM.le2 l2).le2 l3)).put (S1.ge (j:=ida) (by omega)) hra (c:=l2'.map (SV.int .i64))
      have hack : ackR r i m.at' = { r with acks:=l2',commit:=max r.commit (commF l2' r.me (last r.log)) }:=by
        unfold ackR ackL
        rw [List.getElem?_eq_getElem hii,Option.getD_some,hl2]
      have hyes : (if (leadB r && !decide (r.view < m.view)) = true then ackR r i m.at' else r) = { r with acks:=l2',commit:=max r.commit (commF l2' r.me (last r.log)) }:=by rw [if_pos (by simp [hb',of_decide_eq_false hb]),hack]
      rw [hyes] at hk
      have hC:=replica_Committed H hS (.osl ida 0 r.acks.length r.acks.length 1) l2' r.me (last r.log) (by omega)
      have hLa3:=replica_step_last H s { r with acks:=l2' } xe xa xs xd xo vd
      have hin : IntsR (with' (putS m1 ida (l2'.map (SV.int .i64))) fz) (.osl ida 0 r.acks.length r.acks.length 1) l2':=by rw [← hxa]; exact S3.rs.2.1
      clear hl2 hack hyes hacked
      have ws3:=look_with (fz:=fz) S3.cells
      unfold stepC repC at ws3
      rw [hxa] at ws3
      simp only [↓E1,E2,zA,zB,zC,zD,zE,zF,zG,zH,zI,zJ,zK,zL,zM,zN,reduceIte,zO,zP,cm_evs_cons,cm_evs_nil, *]
      obtain ⟨m3,hm3⟩ : ∃ m3,putS m1 ida (l2'.map (SV.int .i64)) = m3:=⟨_,rfl⟩
      rw [hm3] at S3 g3 hin ws3
      try rw [hm3]
      refine hLa3.q1 S3.free ⟨look_with S3.cells,S3.rs.1⟩ ?_
      rintro v n4 l4 rfl
      simp only [↓E1,E2,zA,zB,zC,zD,zE,zF,zG,zH,zI,zJ,zK,zL,zM,zN,reduceIte,zO,zP,cm_evs_cons,cm_evs_nil, *]
      refine hC.q1 (S3.free.le l4) hin ?_
      rintro v n5 l5 rfl
      have hs3:=S3.cells
      unfold stepC repC at hs3
      rw [hxa] at hs3
      simp only [↓E1,E2,zA,zB,zC,zD,zE,zF,zG,zH,zI,zJ,zK,zL,zM,zN,reduceIte,zO,zP,cm_evs_cons,cm_evs_nil, *]
      have S9:=(S3.le (Nat.le_trans l4 l5)).put (r':={ r with acks:=l2',commit:=max r.commit (commF l2' r.me (last r.log)) }) (vd':=vd) rfl rfl rfl rfl
      have g9:=(g3.le2 (Nat.le_trans l4 l5)).put S.los S3.cells (c:=stepC { r with acks:=l2',commit:=max r.commit (commF l2' r.me (last r.log)) } xe xa xs xd xo vd)
      refine hk _ _ ?_ ?_
      · unfold stepC repC at S9
        rw [hxa] at S9 ⊢
        exact S9
      · unfold stepC repC at g9
        rw [hxa] at g9
        exact g9
  · have hb' : leadB r = false:=by simpa using hb
    clear hb
    simp only [↓E1,E2,zA,zB,zC,zD,zE,zF,zG,zH,zI,zJ,zK,zL,zM,zN,reduceIte,zO,zP, *]
    refine hk _ _ ?_ (gM.le2 l2)
    simp only [hb',Bool.false_and]
    exact S1.le l2
end Go.Proofs.Ytnnjlnkoomeadaa.Pv
namespace Go.Proofs.Ytnnjlnkoomeadaa.Pv
open Go.Ev Go.Ev.Rp
set_option maxRecDepth 100000
set_option maxHeartbeats 4000000
set_option linter.unusedSimpArgs false
set_option linter.unusedVariables false
set_option linter.unusedSectionVars false
structure BegP (n : Nat) (M : Fz) (v : AV) (r : Rep) (s : Nat) (o : Nat → Nat) (xe xa xs xd : SV) : Prop where
  val : v = .one (.optr s 0)
  le : n ≤ s
  os : o s = 9
  zero : ∀ j,j < n → o j = 0
  cells : M s = some (stepC r xe xa xs xd .nsl false)
  rt : RepT o M r xe xa xs xd
theorem BegP.sw {n : Nat} {fz : Fz} {mu mu' : St} {n' : Nat} {v : AV} {r : Rep} {s : Nat} {o : Nat → Nat} {xe xa xs xd : SV} (h : BegP n (with' mu' fz) v r s o xe xa xs xd) (hf : Free fz mu n) (g : Gr n fz mu mu' n n') : SW n fz s o mu' n' r [] false xe xa xs xd .nsl :=
  ⟨own_of_free hf h.le h.cells,h.rt,⟨[],.inl ⟨.inl rfl,rfl⟩,trivial⟩,g.free,h.le,h.os,h.zero,λj hj=>by
    have h0:=hf.none hj
    rw [with_eq] at h0
    cases e : Ev.look mu j with
    | none=>rw [e] at h0; exact h0
    | some c=>rw [e] at h0; cases h0⟩
theorem _root_.Go.Ev.Gr.sub_lo {lo : Nat} {fz : Fz} {mu0 mu mu' : St} {n n' : Nat} (g : Gr lo fz mu mu' n n') (hf : Free fz mu0 lo) (u : Sub (with' mu0 fz) (with' mu fz)) : Sub (with' mu0 fz) (with' mu' fz):=λid B h=>(g.ext id (hf.lt h)).trans (u _ _ h)
variable {P : Program} (H : Fs P)
include H
theorem replica_begin (r : Rep) (xe xa xs xd : SV) (hz : RepSz r) : Ctr P n_replica_begin [.ag (repC r xe xa xs xd)] (λM=>RepS M r xe xa xs xd) (λn _ M v=>∃ s o xe' xa' xs' xd',BegP n M v r s o xe' xa' xs' xd'):=Ctr.of H.mx H.replica_begin (λ_=>0) λfz mu n k hfr s1 hk=>by
  obtain ⟨-,-,xek,xem⟩:=s1.1.len
  obtain ⟨-,-,xak,xam⟩:=s1.2.1.len
  obtain ⟨-,-,xsk,xsm⟩:=s1.2.2.1.len
  obtain ⟨-,-,xdk,xdm⟩:=s1.2.2.2.len
  have hC:=replica_Clone H r xe xa xs xd hz
  rw [i_replica_begin,dc_at b_replica_begin.eq_1]
  unfold repC at hC ⊢
  simp only [↓E1,E2,zA,zB,zC,zD,zE,zF,zG,zH,zI,zJ,zK,zL,zM,zN,reduceIte,zO,zP, *]
  refine CPr.abs1 hfr λm1 n1 g1 l1 b1=>?_
  refine hC.c1 g1.free (RepS.mono (g1.sub hfr (Nat.le_refl _)) s1) ?_
  rintro v m2 n2 g2 ⟨xe',xa',xs',xd',o,rfl,ho,hT⟩
  have l2:=g2.le
  have gg:=g1.trans (g2.weaken (by omega))
  obtain ⟨⟨es,q1,q2⟩,q3,q4,ds,q5,q6⟩:=hT
  have hT : RepT o (with' m2 fz) r xe' xa' xs' xd':=⟨⟨es,q1,q2⟩,q3,q4,ds,q5,q6⟩
  obtain ⟨-,-,yek,yem⟩:=q1.len
  obtain ⟨-,-,yak,yam⟩:=SlX.len q3
  obtain ⟨-,-,ysk,ysm⟩:=SlX.len q4
  obtain ⟨-,-,ydk,ydm⟩:=SlX.len q5
  simp only [↓E1,E2,zA,zB,zC,zD,zE,zF,zG,zH,zI,zJ,zK,zL,zM,zN,reduceIte,zO,zP, *]
  have gB:=gg.cons (by omega) (stepC r xe' xa' xs' xd' .nsl false)
  refine hk _ _ _ gB ⟨n2,λj=>if j = n2 then 9 else o j,xe',xa',xs',xd',rfl,by omega,by simp,λj hj=>by rw [if_neg (by omega)]; exact ho j (by omega),by rw [with_c,if_pos rfl]; rfl,?_⟩
  refine hT.keep λt _ _ j B hj=>?_
  obtain ⟨h1,h2⟩:=Tag.el hj
  have h3:=gg.free.lt h2
  refine Tag.at (by rw [if_neg (by omega)]; exact h1) ?_
  rw [with_c,if_neg (by omega)]; exact h2
theorem replica_step_end (s : Nat) (r r0 : Rep) (xe xa xs xd xo ye ya ys yd : SV) (hk1 : xe.known = true ∧ xa.known = true ∧ xs.known = true ∧ xd.known = true ∧ xo.known = true) : Ctr P n_replica_step_end [.one (.optr s 0),.ag (repC r0 ye ya ys yd)] (λM=>M s = some (stepC r xe xa xs xd xo false) ∧ RepS M r0 ye ya ys yd) (λ_ _ _ v=>v = .tp [.ag (repC r xe xa xs xd),.one xo]):=Ctr.of H.mx H.replica_step_end (λ_=>0) λfz mu n k hfr h hk=>by
  obtain ⟨b1,s1⟩:=h
  obtain ⟨xek,xak,xsk,xdk,xok⟩:=hk1
  have xem:=known_mk xek
  have xam:=known_mk xak
  have xsm:=known_mk xsk
  have xdm:=known_mk xdk
  have xom:=known_mk xok
  obtain ⟨-,-,yek,yem⟩:=s1.1.len
  obtain ⟨-,-,yak,yam⟩:=s1.2.1.len
  obtain ⟨-,-,ysk,ysm⟩:=s1.2.2.1.len
  obtain ⟨-,-,ydk,ydm⟩:=s1.2.2.2.len
  have hs : s < n:=hfr.lt b1
  have hne : (n = s) = False:=by simp; omega
  have hne2 : (n + 1 = s) = False:=by simp; omega
  have hne3 : (n + 1 = n) = False:=by simp
  unfold stepC repC at b1
  rw [i_replica_step_end,dc_at b_replica_step_end.eq_1]
  unfold repC
  simp only [↓E1,E2,zA,zB,zC,zD,zE,zF,zG,zH,zI,zJ,zK,zL,zM,zN,reduceIte,zO,zP, *]
  rw [saP_some (show Ev.look ((n + 1,_) :: _) (n + 1) = some _ by rw [look_c,if_pos rfl]) rfl]
  have hw:=(with_congr (fz:=fz) (show Ev.look (killS mu (n + 1)) s = Ev.look mu s by rw [look_killS,if_neg (by omega)])).trans b1
  simp only [↓E1,E2,zA,zB,zC,zD,zE,zF,zG,zH,zI,zJ,zK,zL,zM,zN,reduceIte,zO,zP, *]
  have hno : Ev.look mu (n + 1) = none:=by
    have h0:=hfr.none (show n ≤ n + 1 by omega)
    rw [with_eq] at h0
    cases e : Ev.look mu (n + 1) with
    | none=>rfl
    | some c=>rw [e] at h0; cases h0
  exact hk _ _ _ ((((Gr.refl hfr).congr (λid=>by
    rw [look_killS]
    by_cases e : n + 1 = id
    · rw [if_pos e,← e,hno]
    · rw [if_neg e])).cons (Nat.le_refl _) _).cons (by omega) _) rfl
theorem replica_Receive_ack (hS : SortC P) (r : Rep) (xe xa xs xd : SV) (m : Msg) (yb ye : SV) (hz : RepSz r) (h1 : repB r = true) (h2 : msgB m = true) (h3 : decide (m.frm = r.me) = false) (h4 : decide (r.nodes ≤ m.frm) = false) (h5 : decide (m.to = r.me) = true) (h6 : decide (m.view < r.view) = false) (h7 : m.kind = 5) (h8 : 0 ≤ m.frm) (h9 : m.frm.toNat < r.acks.length) :
    Ctr P n_replica_Receive [.ag (repC r xe xa xs xd),.ag (msgC m yb ye)] (λM=>RepS M r xe xa xs xd ∧ MsgS M m yb ye)
    (λn _ M v=>∃ xe' xa' xs' xd' o,v = .tp [.ag (repC (ackedR r m) xe' xa' xs' xd'),.one .nsl] ∧ (∀ j,j < n → o j = 0) ∧ RepT o M (ackedR r m) xe' xa' xs' xd'):=Ctr.of H.mx H.replica_Receive (λ_=>0) λfz mu n k hfr s hk=>by
  obtain ⟨s1,s2⟩:=s
  obtain ⟨-,-,xek,xem⟩:=s1.1.len
  obtain ⟨-,-,xak,xam⟩:=s1.2.1.len
  obtain ⟨-,-,xsk,xsm⟩:=s1.2.2.1.len
  obtain ⟨-,-,xdk,xdm⟩:=s1.2.2.2.len
  obtain ⟨-,-,ybk,ybm⟩:=s2.1.len
  obtain ⟨-,-,yek,yem⟩:=s2.2.len
  have hM:=replica_May H r xe xa xs xd (RepSz.s r hz).1 (RepSz.s r hz).2.1 (RepSz.s r hz).2.2
  have hN:=message_May H m yb ye
  have hB:=replica_begin H r xe xa xs xd hz
  rw [h1] at hM
  rw [h2] at hN
  rw [i_replica_Receive,dc_at b_replica_Receive.eq_1]
  unfold msgC at hN ⊢
  unfold repC at hM hB ⊢
  rw [h7] at hN ⊢
  simp only [↓E1,E2,zA,zB,zC,zD,zE,zF,zG,zH,zI,zJ,zK,zL,zM,zN,reduceIte,zO,zP, *]
  refine CPr.abs3 hfr λmu1 n1 gg l1 b1 b2 b3=>?_
  have hfr0:=hfr
  replace s1:=RepS.mono (gg.sub hfr0 (Nat.le_refl _)) s1
  replace s2:=MsgS.mono (gg.sub hfr0 (Nat.le_refl _)) s2
  have wb1:=look_with (fz:=fz) b1
  have wb2:=look_with (fz:=fz) b2
  have wb3:=look_with (fz:=fz) b3
  refine hM.q0 gg.free s1 ?_
  rintro v n2 l2 rfl
  simp only [↓E1,E2,zA,zB,zC,zD,zE,zF,zG,zH,zI,zJ,zK,zL,zM,zN,reduceIte,zO,zP, *]
  refine hN.q0 (gg.free.le l2) s2 ?_
  rintro v n3 l3 rfl
  simp only [↓E1,E2,zA,zB,zC,zD,zE,zF,zG,zH,zI,zJ,zK,zL,zM,zN,reduceIte,zO,zP, *]
  have hf3:=(gg.free.le l2).le l3
  refine hB.c1 hf3 s1 ?_
  rintro v m4 n4 g4 ⟨s,o,xe',xa',xs',xd',hP⟩
  have hS0:=hP.sw ((gg.free.le l2).le l3) g4
  obtain rfl:=hP.val
  have l4:=g4.le
  replace gg:=(gg.le2 (Nat.le_trans l2 l3)).trans (g4.weaken (by omega))
  have c1:=(g4.own n (by omega)).trans b1
  have c2:=(g4.own (n + 1) (by omega)).trans b2
  have c3:=(g4.own (n + 1 + 1) (by omega)).trans b3
  have wc1:=look_with (fz:=fz) c1
  have wc2:=look_with (fz:=fz) c2
  have wc3:=look_with (fz:=fz) c3
  have ws:=look_with (fz:=fz) hS0.cells
  obtain ⟨⟨xek',xem'⟩,⟨xak',xam'⟩,⟨xsk',xsm'⟩,⟨xdk',xdm'⟩,xok',xom'⟩:=hS0.ks
  unfold stepC repC at ws
  clear wb1 wb2 wb3 b1 b2 b3
  simp only [↓E1,E2,zA,zB,zC,zD,zE,zF,zG,zH,zI,zJ,zK,zL,zM,zN,reduceIte,zO,zP, *]
  refine (replica_Primary H _ _).q1 hS0.free trivial ?_
  rintro v n5 l5 rfl
  simp only [↓E1,E2,zA,zB,zC,zD,zE,zF,zG,zH,zI,zJ,zK,zL,zM,zN,reduceIte,zO,zP, *]
  have u4:=g4.sub hf3 (Nat.le_refl _)
  have hAc:=λ(k : KT Prop) (w : WK k)=>step_acked H hS (hS0.le l5) m yb ye (MsgS.mono u4 s2) h8 h9 (by have:=hz.acks; omega) (k:=k) (w:=w)
  unfold msgC at hAc
  rw [h7] at hAc
  refine hAc _ _ λm6 n6 S6 g6=>?_
  have l6:=g6.le
  have d1:=(g6.own n (by omega)).trans c1
  have d3:=(g6.own (n + 1 + 1) (by omega)).trans c3
  replace gg:=(gg.le2 l5).trans (g6.weaken (by omega))
  replace s1:=RepS.mono (g6.sub_lo hf3 u4) (s1)
  have hE:=replica_step_end H s (ackedR r m) r xe' xa' xs' xd' .nsl xe xa xs xd ⟨xek',xak',xsk',xdk',rfl⟩
  clear wc1 wc2 wc3 ws hAc
  have wd1:=look_with (fz:=fz) d1
  have wd3:=look_with (fz:=fz) d3
  unfold repC at hE
  simp only [↓E1,E2,zA,zB,zC,zD,zE,zF,zG,zH,zI,zJ,zK,zL,zM,zN,reduceIte,zO,zP, *]
  refine hE.q0 S6.free ⟨look_with S6.cells,s1⟩ ?_
  rintro v n7 l7 rfl
  have ho2 : o (n + 1 + 1) = 0:=hP.zero _ (by omega)
  have hlt:=S6.slt
  have gz:=(gg.le2 l7).put (id:=n + 1 + 1) (by omega) d3 (c:=repC (ackedR r m) xe' xa' xs' xd')
  have hT:=S6.rt.keep (M':=with' (putS m6 (n + 1 + 1) (repC (ackedR r m) xe' xa' xs' xd')) fz) (o':=o) λt h1 h2=>Tag.put (lookI d3) (by rw [ho2]; omega)
  have hq : ∀ (q : Rep),q = ackedR r m → repC q xe' xa' xs' xd' = [I q.me,I q.nodes,I q.view,I q.normal,I q.status,I q.commit,.bool q.sent,I q.log.base,q.log.snap.sv,xe',xa',xs',xd']:=λq _=>rfl
  have hk2:=hk _ _ _ gz ⟨xe',xa',xs',xd',o,rfl,λj hj=>hP.zero j (by omega),hT⟩
  clear hk hT hq
  unfold repC at hk2
  simp only [↓E1,E2,zA,zB,zC,zD,zE,zF,zG,zH,zI,zJ,zK,zL,zM,zN,reduceIte,zO,zP, *,with_putI,look_putS,putS_putS,Option.isSome_some,Option.map_some]
end Go.Proofs.Ytnnjlnkoomeadaa.Pv
namespace Go.Proofs.Ytnnjlnkoomeadaa.Pv
open Go.Ev Go.Ev.Rp
set_option maxRecDepth 100000
set_option maxHeartbeats 4000000
set_option linter.unusedSimpArgs false
set_option linter.unusedVariables false
set_option linter.unusedSectionVars false
theorem andI_mask (a : Int) (m : Nat) (hm : m < 2 ^ 62) : ∃ k : Nat,k ≤ m ∧ andI a m = k:=by
  obtain ⟨k,h1,h2⟩:=mask_cases a m hm
  refine ⟨k,h1,?_⟩
  have : numOp .and .i64 a (m : Int) = some (.int .i64 (andI a m)):=rfl
  rw [this] at h2
  injection h2 with h2
  injection h2
theorem rem_range (x : Int) (v : Nat) (h0 : 0 < v) (h1 : v ≤ 1000) : ∃ k : Nat,k < v ∧ IntKind.i64.wrap ((IntKind.u64.wrap x).tmod (IntKind.u64.wrap v)) = k:=by
  have h2 : IntKind.u64.wrap (v : Int) = v:=by simp [IntKind.wrap,IntKind.bits,IntKind.signed]; omega
  have h3 : 0 ≤ IntKind.u64.wrap x:=by simp [IntKind.wrap,IntKind.bits,IntKind.signed]; omega
  rw [h2,Int.tmod_eq_emod_of_nonneg h3]
  have h4:=Int.emod_nonneg (IntKind.u64.wrap x) (show (v : Int) ≠ 0 by omega)
  have h5:=Int.emod_lt_of_pos (IntKind.u64.wrap x) (show 0 < (v : Int) by omega)
  refine ⟨(IntKind.u64.wrap x % v).toNat,by omega,?_⟩
  rw [wrap64 (by omega) (by omega)]; omega
variable {P : Program} (H : Fs P)
include H
end Go.Proofs.Ytnnjlnkoomeadaa.Pv
namespace Go.Proofs.Ytnnjlnkoomeadaa.Pv
open Go.Ev Go.Ev.Rp
set_option maxRecDepth 100000
set_option maxHeartbeats 4000000
set_option linter.unusedSimpArgs false
set_option linter.unusedVariables false
set_option linter.unusedSectionVars false
theorem oth_mono (me t : Int) : ∀ (l l' : List Int) (i : Nat),l.length = l'.length → (∀ j (h : j < l.length) (h' : j < l'.length),l[j] ≤ l'[j]) → (oth me l i).countP (λx=>decide (t ≤ x)) ≤ (oth me l' i).countP (λx=>decide (t ≤ x))
  | [],[],_,_,_=>Nat.le_refl _
  | [],_ :: _,_,h,_=>by simp at h
  | _ :: _,[],_,h,_=>by simp at h
  | a :: l,b :: l',i,h,hle=>by
    have ih:=oth_mono me t l l' (i + 1) (by simpa using h) (λj h1 h2=>hle (j + 1) (by simpa using h1) (by simpa using h2))
    have h0 : a ≤ b:=hle 0 (by simp) (by simp)
    unfold oth
    by_cases hm : (i : Int) = me
    · rw [if_pos hm,if_pos hm]; exact ih
    · rw [if_neg hm,if_neg hm,List.countP_cons,List.countP_cons]
      by_cases ht : t ≤ a
      · have : t ≤ b:=by omega
        simp [ht,this]; exact ih
      · simp [ht]; omega
theorem many_mono (me t : Int) {l l' : List Int} (h : l.length = l'.length) (hle : ∀ j (h : j < l.length) (h' : j < l'.length),l[j] ≤ l'[j]) : manyL me l t ≤ manyL me l' t:=oth_mono me t l l' 0 h hle
structure Best (f : Nat) (p : Int → Nat) (m : Nat) (g : Nat) : Prop where
  le : g ≤ m
  is : g = 0 ∨ f ≤ p g
  no : ∀ u : Int,(g : Int) < u → u ≤ m → p u < f
theorem best_ex (f : Nat) (p : Int → Nat) : ∀ m,∃ g,Best f p m g
  | 0=>⟨0,⟨Nat.le_refl _,.inl rfl,λu h1 h2=>by omega⟩⟩
  | m + 1=>by
    by_cases h : f ≤ p ((m + 1 : Nat) : Int)
    · exact ⟨m + 1,⟨Nat.le_refl _,.inr h,λu h1 h2=>by omega⟩⟩
    · obtain ⟨g,h1,h2,h3⟩:=best_ex f p m
      refine ⟨g,⟨by omega,h2,λu h4 h5=>?_⟩⟩
      rcases Int.lt_or_le (m : Int) u with h6 | h6
      · have : u = ((m + 1 : Nat) : Int):=by omega
        subst this; omega
      · exact h3 u h4 h6
theorem best_comm {acks : List Int} {me : Int} {m g : Nat} (h : Best ((acks.length - 1) / 2) (manyL me acks) m g) : commF acks me (m : Int) = (g : Int):=by
  obtain ⟨h1,h2,h3⟩:=h
  rcases h2 with rfl | h2
  · rw [comm_none]; rfl
    intro u h4 h5; exact h3 u (by omega) h5
  · rcases Nat.eq_zero_or_pos g with rfl | h0
    · rw [comm_none]; rfl
      intro u h4 h5; exact h3 u (by omega) h5
    · exact comm_at (by omega) (by omega) (λu h4 h5=>h3 u h4 h5) h2
theorem comm_best (acks : List Int) (me : Int) (m : Nat) : ∃ g,Best ((acks.length - 1) / 2) (manyL me acks) m g ∧ commF acks me (m : Int) = (g : Int):=by
  obtain ⟨g,h⟩:=best_ex ((acks.length - 1) / 2) (manyL me acks) m
  exact ⟨g,h,best_comm h⟩
theorem comm_mono {l l' : List Int} (me : Int) (m : Nat) (h : l.length = l'.length) (hle : ∀ j (h : j < l.length) (h' : j < l'.length),l[j] ≤ l'[j]) : commF l me (m : Int) ≤ commF l' me (m : Int):=by
  obtain ⟨g,⟨a1,a2,a3⟩,e⟩:=comm_best l me m
  obtain ⟨g',⟨b1,b2,b3⟩,e'⟩:=comm_best l' me m
  rw [e,e']
  rcases Nat.lt_or_ge g' g with h1 | h1
  · exfalso
    have h2:=many_mono me (g : Int) h hle
    have h3:=b3 g (by omega) (by omega)
    rw [← h] at h3
    rcases a2 with rfl | a2
    · omega
    · omega
  · omega
def akR (k M : Nat) (T : List Int) (c : Int) : Rep:=⟨0,(k : Int),0,0,0,c,false,⟨0,tx0,(List.range M).map (frEnt 0)⟩,T,[],[]⟩
def akM (who at' : Nat) : Msg:=⟨5,(who : Int),0,0,0,(at' : Int),0,0,0,0,0,0,0,0,tx0,[],⟨0,tx0,[]⟩,tx0⟩
structure AkI (k M : Nat) (T : List Int) : Prop where
  len : T.length = k
  lo : ∀ t ∈ T,0 ≤ t
  hi : ∀ t ∈ T,t ≤ (M : Int)
theorem ak_rc (k M : Nat) (T : List Int) (c : Int) (xe xa xs xd : SV) : repC (akR k M T c) xe xa xs xd = [I 0,I k,I 0,I 0,I 0,I c,.bool false,I 0,.str 0 0,xe,xa,xs,xd]:=rfl
theorem ak_mc (who at' : Nat) : msgC (akM who at') .nsl .nsl = [I 5,I who,I 0,I 0,I 0,I at',I 0,I 0,I 0,I 0,I 0,I 0,I 0,I 0,.str 0 0,.nsl,I 0,.str 0 0,.nsl,.str 0 0]:=rfl
theorem ak_last {k M : Nat} {T : List Int} {c : Int} (hM : M ≤ 15) : last (akR k M T c).log = (M : Int):=by unfold last; simp [akR]; rw [wrap64 (by omega) (by omega)]
theorem ak_lead {k M : Nat} {T : List Int} {c : Int} (hk : k = 3 ∨ k = 5) : leadB (akR k M T c) = true:=by rcases hk with rfl | rfl <;> rfl
theorem ak_mb {who at' : Nat} (h1 : who ≤ 4) (h2 : at' ≤ 31) : msgB (akM who at') = true:=by
  have key : ((List.range 5).all λw=>(List.range 32).all λa=>msgB (akM w a)) = true:=by decide +kernel
  exact List.all_eq_true.1 (List.all_eq_true.1 key who (by simp; omega)) at' (by simp; omega)
theorem ak_b {k M : Nat} {T : List Int} (hk : k = 3 ∨ k = 5) (hM : M ≤ 15) (h : AkI k M T) {g : Nat} (hg : g ≤ M) : repB (akR k M T (g : Int)) = true:=by
  have hlg : lgB (akR k M T (g : Int)).log = true:=by
    have key : ((List.range 16).all λM=>lgB ⟨0,tx0,(List.range M).map (frEnt 0)⟩) = true:=by decide +kernel
    exact List.all_eq_true.1 key M (by simp; omega)
  have hac : (akR k M T (g : Int)).acks.all countB = true:=by
    rw [List.all_eq_true]
    intro t ht
    have h1:=h.lo t ht
    have h2:=h.hi t ht
    unfold countB; simp; omega
  have hlen:=h.len
  have hla:=ak_last (k:=k) (T:=T) (c:=(g : Int)) hM
  unfold repB
  rw [hlg,hac,hla]
  have hn : nodesB (k : Int) = true:=by rcases hk with rfl | rfl <;> rfl
  have hc : countB (g : Int) = true:=by unfold countB; simp; omega
  simp [akR,hn,hc,hlen,countB,risesB,dosB]
  exact ⟨⟨by rcases hk with rfl | rfl <;> omega,decide_eq_true (by omega)⟩,hg⟩
theorem ak_sz (k M : Nat) (T : List Int) (c : Int) (h : T.length ≤ 5) (hM : M ≤ 15) : RepSz (akR k M T c):=⟨⟨by simp [akR]; omega,λe he=>by simp [akR,frEnt] at he; rcases he with ⟨a,_,rfl⟩; simp⟩,by simp [akR]; omega,by simp [akR],by simp [akR],λd hd=>by simp [akR] at hd⟩
def akT (T : List Int) (who at' M : Nat) : List Int:=T.set who (max (T[who]?.getD 0) (min (at' : Int) (M : Int)))
theorem AkI.next {k M : Nat} {T : List Int} (h : AkI k M T) {who : Nat} (at' : Nat) (hw : who < k) : AkI k M (akT T who at' M) ∧ ∀ j (h : j < T.length) (h' : j < (akT T who at' M).length),T[j] ≤ (akT T who at' M)[j]:=by
  have hwl : who < T.length:=by rw [h.len]; exact hw
  have e : T[who]?.getD 0 = T[who]:=by rw [List.getElem?_eq_getElem hwl]; rfl
  have h1:=h.lo _ (List.getElem_mem hwl)
  have h2:=h.hi _ (List.getElem_mem hwl)
  refine ⟨⟨by unfold akT; simp [h.len],λt ht=>?_,λt ht=>?_⟩,λj hj hj'=>?_⟩
  · unfold akT at ht
    rcases List.mem_or_eq_of_mem_set ht with ht | rfl
    · exact h.lo t ht
    · rw [e]; omega
  · unfold akT at ht
    rcases List.mem_or_eq_of_mem_set ht with ht | rfl
    · exact h.hi t ht
    · rw [e]; omega
  · have hs : (akT T who at' M)[j] = if who = j then max (T[who]?.getD 0) (min (at' : Int) (M : Int)) else T[j]:=List.getElem_set ..
    rw [hs]
    split
    · rename_i hh; subst hh; rw [e]; omega
    · exact Int.le_refl _
theorem ak_acked {k M : Nat} {T : List Int} (hk : k = 3 ∨ k = 5) (hM : M ≤ 15) (h : AkI k M T) {who at' : Nat} (hw : who < k) : ackedR (akR k M T (commF T 0 M)) (akM who at') = akR k M (akT T who at' M) (commF (akT T who at' M) 0 M):=by
  have hl:=ak_lead (M:=M) (T:=T) (c:=commF T 0 M) hk
  obtain ⟨h1,h2⟩:=h.next at' hw
  have hm:=comm_mono 0 M (by rw [h1.len,h.len]) h2
  have hc : max (commF T 0 (M : Int)) (commF (akT T who at' M) 0 (M : Int)) = commF (akT T who at' M) 0 (M : Int):=by omega
  unfold ackedR
  rw [hl,if_pos (by simp [akR,akM])]
  unfold ackR ackL
  rw [ak_last hM]
  show Rep.mk _ _ _ _ _ (max (commF T 0 (M : Int)) (commF (akT T who at' M) 0 (M : Int))) _ _ _ _ _ = _
  rw [hc]; rfl
end Go.Proofs.Ytnnjlnkoomeadaa.Pv
namespace Go.Proofs.Ytnnjlnkoomeadaa.Pv
open Go.Ev Go.Ev.Rp
set_option maxRecDepth 100000
set_option maxHeartbeats 4000000
set_option linter.unusedSimpArgs false
set_option linter.unusedVariables false
set_option linter.unusedSectionVars false
variable {P : Program} (H : Fs P)
include H
end Go.Proofs.Ytnnjlnkoomeadaa.Pv
namespace Go.Proofs.Ytnnjlnkoomeadaa.Pv
open Go.Ev Go.Ev.Rp
set_option maxRecDepth 100000
set_option maxHeartbeats 4000000
set_option linter.unusedSimpArgs false
set_option linter.unusedVariables false
set_option linter.unusedSectionVars false
variable {P : Program} (H : Fs P)
include H
theorem acks_reach {k M : Nat} {T : List Int} (hk : k = 3 ∨ k = 5) (hT : T.length = k) (hM : M ≤ 15) {many : Int} (hmany : andI many 15 = (M : Int)) {fz : Fz} {mu : St} {n idt : Nat} (hlt : Ev.look mu idt = some (T.map (SV.int .i64))) (hfr : Free fz mu n) (e : Env) (K : LK) (w)
    (e01 : e 0 1 = .one (I many)) (e07 : e 0 7 = .one (I (k : Nat))) (e09 : e 0 9 = .one (.osl idt 0 k k 1)) (e015 : e 0 15 = .one (I 0)) (e10 : e 1 0 = .one (I 1))
    (hK : ∀ e' : Env,(∀ q r,(q = 0 ∧ r < 15) → e' q r = e q r) → e' 0 15 = .one (I (commF T 0 M)) → K (.exit 2) (tmE 108 e') mu n) :
    Lp (dcode pOrc False (CP P) fz 20 l_law17_ReplicaAcks_1) 20 (tmE 108 e) mu n K w:=by
  have hf : (T.length - 1) / 2 = (k - 1) / 2:=by rw [hT]
  obtain ⟨f,hf2⟩ : ∃ f,(k - 1) / 2 = f:=⟨_,rfl⟩
  have hwk : IntKind.i64.wrap ((k : Int) - 1) = ((k - 1 : Nat) : Int):=by rcases hk with rfl | rfl <;> rfl
  have hwf : IntKind.i64.wrap (((k - 1 : Nat) : Int).tdiv 2) = (f : Int):=by rcases hk with rfl | rfl <;> subst hf2 <;> rfl
  refine loopI (x:=2) (L:=M) (p:=λ_=>true) (λi e' mu' n'=>mu' = mu ∧ n' = n ∧ (∀ q r,(q = 0 ∧ r < 15) → e' q r = e q r) ∧ (∃ g,Best f (manyL 0 T) i g ∧ e' 0 15 = .one (I (g : Nat))) ∧ e' 1 0 = .one (.int .i64 ((i + 1 : Nat) : Int))) (λ_ _ _=>False) ?_ ?_ _ _ _ _ _ (by omega) ?_ ?_ (by rintro ⟨_,_,_,h⟩; cases h)
  · rintro i e1 mu1 n1 K hi ⟨rfl,rfl,hsame,⟨g,hg,h15⟩,h10⟩ hY hn
    have f01:=(hsame 0 1 ⟨rfl,by omega⟩).trans e01
    have f07:=(hsame 0 7 ⟨rfl,by omega⟩).trans e07
    have f09:=(hsame 0 9 ⟨rfl,by omega⟩).trans e09
    have hle : (((i + 1 : Nat) : Int) ≤ (M : Int)) = True:=by simp; omega
    have hY':=Hide.mk hY
    have hle2 : (i + 1 ≤ M) = True:=by simp; omega
    have hw1 : IntKind.i64.wrap (((i + 1 : Nat) : Int) + 1) = ((i + 1 + 1 : Nat) : Int):=by rw [wrap64 (by omega) (by omega)]; omega
    clear hY hn hK
    rw [dc_at l_law17_ReplicaAcks_1.eq_1]
    simp only [↓E1,E2,zA,zB,zC,zD,zE,zF,zG,zH,zI,zJ,zK,zL,zM,zN,reduceIte,zO,zP,↓b_andI, *]
    refine loopI (x:=4) (L:=k - 1) (p:=λ_=>true) (λj e' mu' n'=>mu' = mu1 ∧ n' = n1 ∧ (∀ q r,(q = 0 ∧ r < 15) → e' q r = e q r) ∧ e' 0 15 = .one (I (g : Nat)) ∧ e' 1 0 = .one (.int .i64 ((i + 1 : Nat) : Int)) ∧ e' 1 1 = .one (.int .i64 (manyL 0 (T.take (j + 1)) ((i + 1 : Nat) : Int) : Nat)) ∧ e' 1 2 = .one (.int .i64 ((j + 1 : Nat) : Int))) (λ_ _ _=>False) ?_ ?_ _ _ _ _ _ (by omega) ?_ ?_ (by rintro ⟨_,_,_,h⟩; cases h)
    · rintro j e2 mu2 n2 K2 hj ⟨rfl,rfl,hs2,h15,h10,h11,h12⟩ hY2 hn2
      have f07:=(hs2 0 7 ⟨rfl,by omega⟩).trans e07
      have f09:=(hs2 0 9 ⟨rfl,by omega⟩).trans e09
      have hjT : j + 1 < T.length:=by omega
      have hjk : (((j + 1 : Nat) : Int) < (k : Int)) = True:=by simp; omega
      have hjk2 : (j + 1 < k) = True:=by simp; omega
      have hw2 : IntKind.i64.wrap (((j + 1 : Nat) : Int) + 1) = ((j + 1 + 1 : Nat) : Int):=by rw [wrap64 (by omega) (by omega)]; omega
      have hwl:=look_with (fz:=fz) hlt
      have hmk:=cm_mkd T
      have hsub:=cm_sub hjT
      have hbd : (j + 1) * 1 + 1 ≤ (T.map (SV.int .i64)).length:=by simp; omega
      have hmt:=many_take 0 ((i + 1 : Nat) : Int) hjT
      have hne : ((j + 1 : Nat) : Int) ≠ 0:=by omega
      have hml:=many_le 0 (T.take (j + 1)) ((i + 1 : Nat) : Int)
      have hml2 : (T.take (j + 1)).length ≤ T.length:=by rw [List.length_take]; omega
      have hw9 : IntKind.i64.wrap ((manyL 0 (T.take (j + 1)) ((i + 1 : Nat) : Int) : Int) + 1) = ((manyL 0 (T.take (j + 1)) ((i + 1 : Nat) : Int) + 1 : Nat) : Int):=by rw [wrap64 (by omega) (by omega)]; omega
      have hY2':=Hide.mk hY2
      clear hY2 hn2
      rw [dc_at l_law17_ReplicaAcks_0.eq_1]
      simp only [↓E1,E2,zA,zB,zC,zD,zE,zF,zG,zH,zI,zJ,zK,zL,zM,zN,reduceIte,zO,zP, *]
      have hz : ∀ r : Nat,r < 15 → (r = 15) = False:=λr h=>by simp; omega
      refine Br_intro (λhb=>?_) (λhb=>?_)
      · have hb':=of_decide_eq_true hb
        rw [if_pos ⟨hne,hb'⟩] at hmt
        clear hb'
        simp only [↓E1,E2,zA,zB,zC,zD,zE,zF,zG,zH,zI,zJ,zK,zL,zM,zN,reduceIte,zO,zP, *]
        refine hY2'.out rfl _ _ _ ⟨rfl,rfl,λq r h=>?_,?_,?_,?_,?_⟩
        · have h3:=hs2 q r h
          obtain ⟨rfl,h4⟩:=h
          simp [updN,updE,h3]
        all_goals first | (simp [updN,updE, *]; done) | (simp [updN,updE]; have h9:=hmt; push_cast at h9; first | omega | (rw [h9]; exact h11))
      · have hb':=of_decide_eq_false hb
        rw [if_neg (λh=>hb' h.2)] at hmt
        clear hb'
        simp only [↓E1,E2,zA,zB,zC,zD,zE,zF,zG,zH,zI,zJ,zK,zL,zM,zN,reduceIte,zO,zP, *]
        refine hY2'.out rfl _ _ _ ⟨rfl,rfl,λq r h=>?_,?_,?_,?_,?_⟩
        · have h3:=hs2 q r h
          obtain ⟨rfl,h4⟩:=h
          simp [updN,updE,h3]
        all_goals first | (simp [updN,updE, *]; done) | (simp [updN,updE]; have h9:=hmt; push_cast at h9; first | omega | (rw [h9]; exact h11))
    · rintro e2 mu2 n2 K2 ⟨rfl,rfl,hs2,h15,h10,h11,h12⟩ hx2
      have f07:=(hs2 0 7 ⟨rfl,by omega⟩).trans e07
      have hkk : ((k - 1 + 1 : Nat) : Int) = (k : Int):=by rcases hk with rfl | rfl <;> rfl
      have hx2':=Hide.mk hx2
      clear hx2
      rw [hkk] at h12
      rw [dc_at l_law17_ReplicaAcks_0.eq_1]
      have hlt : ((k : Int) < k) = False:=by simp
      have hlt2 : (k < k) = False:=by simp
      simp only [↓E1,E2,zA,zB,zC,zD,zE,zF,zG,zH,zI,zJ,zK,zL,zM,zN,reduceIte,zO,zP, *]
      refine hx2'.out _ _ _ ⟨rfl,rfl,λq r h=>?_,?_,?_,?_,?_⟩
      · have h3:=hs2 q r h
        obtain ⟨rfl,h4⟩:=h
        simp [updN,updE,h3]
      all_goals simp [updN,updE,hkk, *]
    · refine ⟨rfl,rfl,λq r h=>?_,?_,?_,?_,?_⟩
      · have h3:=hsame q r h
        obtain ⟨rfl,h4⟩:=h
        simp [updN,updE,h3]
      · simp [updN,updE,h15]
      · simp [updN,updE,h10]
      · have h0 : manyL 0 (T.take (0 + 1)) ((i + 1 : Nat) : Int) = 0 := by
          rw [many_take 0 _ (show 0 < T.length by omega),if_neg (by simp)]; rfl
        rw [h0]; simp [updN,updE]
      · simp [updN,updE]
    · rintro - e2 mu2 n2 ⟨rfl,rfl,hs2,h15,h10,h11,h12⟩
      have f07:=(hs2 0 7 ⟨rfl,by omega⟩).trans e07
      rw [show k - 1 + 1 = T.length by omega,List.take_length] at h11
      simp only [↓E1,E2,zA,zB,zC,zD,zE,zF,zG,zH,zI,zJ,zK,zL,zM,zN,reduceIte,zO,zP, *]
      refine Br_intro (λhb=>?_) (λhb=>?_)
      · have hb' : f ≤ manyL 0 T ((i + 1 : Nat) : Int):=of_decide_eq_true hb
        have hg2 : Best f (manyL 0 T) (i + 1) (i + 1):=⟨Nat.le_refl _,.inr hb',λu h1 h2=>by omega⟩
        clear hb'
        simp only [↓E1,E2,zA,zB,zC,zD,zE,zF,zG,zH,zI,zJ,zK,zL,zM,zN,reduceIte,zO,zP, *]
        refine hY'.out rfl _ _ _ ⟨rfl,rfl,λq r h=>?_,⟨i + 1,hg2,?_⟩,?_⟩
        · have h3:=hs2 q r h
          obtain ⟨rfl,h4⟩:=h
          have h5 : (r = 15) = False:=by simp; omega
          simp [updN,updE,h3,h5]
        all_goals simp [updN,updE, *]
      · have hb' : ¬ f ≤ manyL 0 T ((i + 1 : Nat) : Int):=of_decide_eq_false hb
        have hg2 : Best f (manyL 0 T) (i + 1) g:=⟨by have:=hg.le; omega,hg.is,λu h1 h2=>by
          rcases Int.lt_or_le (i : Int) u with h3 | h3
          · have : u = ((i + 1 : Nat) : Int):=by omega
            subst this; omega
          · exact hg.no u h1 h3⟩
        clear hb'
        simp only [↓E1,E2,zA,zB,zC,zD,zE,zF,zG,zH,zI,zJ,zK,zL,zM,zN,reduceIte,zO,zP, *]
        refine hY'.out rfl _ _ _ ⟨rfl,rfl,λq r h=>?_,⟨g,hg2,?_⟩,?_⟩
        · have h3:=hs2 q r h
          obtain ⟨rfl,h4⟩:=h
          simp [updN,updE,h3]
        all_goals simp [updN,updE, *]
  · rintro e1 mu1 n1 K ⟨rfl,rfl,hsame,⟨g,hg,h15⟩,h10⟩ hx
    have f01:=(hsame 0 1 ⟨rfl,by omega⟩).trans e01
    have hx':=Hide.mk hx
    clear hx
    have hle : (((M + 1 : Nat) : Int) ≤ (M : Int)) = False:=by simp; omega
    have hle2 : (M + 1 ≤ M) = False:=by simp
    rw [dc_at l_law17_ReplicaAcks_1.eq_1]
    simp only [↓E1,E2,zA,zB,zC,zD,zE,zF,zG,zH,zI,zJ,zK,zL,zM,zN,reduceIte,zO,zP,↓b_andI, *]
    refine hx'.out _ _ _ ⟨rfl,rfl,λq r h=>?_,⟨g,hg,?_⟩,?_⟩
    · have h3:=hsame q r h
      obtain ⟨rfl,h4⟩:=h
      simp [updN,updE,h3]
    all_goals simp [updN,updE, *]
  · exact ⟨rfl,rfl,λq r _=>rfl,⟨0,⟨Nat.le_refl _,.inl rfl,λu h1 h2=>by omega⟩,e015⟩,e10⟩
  · rintro - e' mu' n' ⟨rfl,rfl,hsame,⟨g,hg,h15⟩,h10⟩
    refine hK e' hsame ?_
    rw [h15,best_comm (by rw [hf,hf2]; exact hg)]
end Go.Proofs.Ytnnjlnkoomeadaa.Pv
namespace Go.Proofs.Ytnnjlnkoomeadaa.Pv
open Go.Ev Go.Ev.Rp
set_option linter.unusedVariables false
end Go.Proofs.Ytnnjlnkoomeadaa.Pv
namespace Go.Proofs.Ytnnjlnkoomeadaa.Pv
open Go.Ev Go.Ev.Rp
set_option maxRecDepth 100000
set_option maxHeartbeats 4000000
set_option linter.unusedSimpArgs false
set_option linter.unusedVariables false
set_option linter.unusedSectionVars false
structure SeL (k : Nat) (l : List Int) : Prop where
  up : l.Pairwise (· < ·)
  lo : ∀ y ∈ l,0 < y
  hi : ∀ y ∈ l,y < (k : Int)
theorem SeL.length {k : Nat} {l : List Int} (h : SeL k l) : l.length ≤ k:=by
  have key : ∀ (l : List Int) (a : Int),(a :: l).Pairwise (· < ·) → (∀ y ∈ l,y < (k : Int)) → a < k → (l.length : Int) + a < k:=by
    intro l
    induction l with
    | nil=>intro a _ _ h; simpa using h
    | cons b l ih =>
      intro a h1 h2 h3
      rw [List.pairwise_cons] at h1
      have h4:=ih b h1.2 (λy hy=>h2 y (List.mem_cons_of_mem _ hy)) (h2 b List.mem_cons_self)
      have h5:=h1.1 b List.mem_cons_self
      simp only [List.length_cons]; omega
  cases l with
  | nil=>exact Nat.zero_le _
  | cons a l =>
    have h4:=key l a h.up (λy hy=>h.hi y (List.mem_cons_of_mem _ hy)) (h.hi a List.mem_cons_self)
    have h5:=h.lo a List.mem_cons_self
    simp only [List.length_cons]; omega
end Go.Proofs.Ytnnjlnkoomeadaa.Pv
namespace Go.Proofs.Ytnnjlnkoomeadaa.Pv
open Go.Ev Go.Ev.Rp
set_option maxRecDepth 100000
set_option maxHeartbeats 4000000
set_option linter.unusedSimpArgs false
set_option linter.unusedVariables false
set_option linter.unusedSectionVars false
def Ex2 (a b : Nat) (M : Fz) : Fz:=λj=>if j = a ∨ j = b then none else M j
theorem Ex2.el {a b j : Nat} {M : Fz} {B : List SV} (h : Ex2 a b M j = some B) : j ≠ a ∧ j ≠ b ∧ M j = some B:=by
  unfold Ex2 at h
  split at h
  · cases h
  · rename_i hn; exact ⟨λe=>hn (.inl e),λe=>hn (.inr e),h⟩
theorem Ex2.at {a b j : Nat} {M : Fz} {B : List SV} (h1 : j ≠ a) (h2 : j ≠ b) (h : M j = some B) : Ex2 a b M j = some B:=by
  unfold Ex2; rw [if_neg (by omega)]; exact h
theorem Ex2.sub {a b : Nat} {M : Fz} : Sub (Ex2 a b M) M:=λ_ _ h=>(Ex2.el h).2.2
theorem Ex2.mono {a b : Nat} {M M' : Fz} (h : Sub M M') : Sub (Ex2 a b M) (Ex2 a b M'):=λ_ _ g=>Ex2.at (Ex2.el g).1 (Ex2.el g).2.1 (h _ _ (Ex2.el g).2.2)
theorem Ex2.put {a b id : Nat} {fz : Fz} {mu : St} {c d : List SV} (hi : id = a ∨ id = b) (h : Ev.look mu id = some d) : Sub (Ex2 a b (with' mu fz)) (Ex2 a b (with' (putS mu id c) fz)):=λj B g=>by
  obtain ⟨h1,h2,h3⟩:=Ex2.el g
  exact Ex2.at h1 h2 (by rw [with_putS h,if_neg (by omega)]; exact h3)
theorem Ex2.from {a b n : Nat} {M : Fz} (h1 : a < n) (h2 : b < n) : Sub (From n M) (Ex2 a b M):=λj B g=>by
  obtain ⟨h3,h4⟩:=From.el g
  exact Ex2.at (by omega) (by omega) h4
variable {P : Program} (H : Fs P)
include H
end Go.Proofs.Ytnnjlnkoomeadaa.Pv
namespace Go.Proofs.Ytnnjlnkoomeadaa.Pv
open Go.Ev Go.Ev.Rp
set_option maxRecDepth 100000
set_option maxHeartbeats 4000000
set_option linter.unusedSimpArgs false
set_option linter.unusedVariables false
set_option linter.unusedSectionVars false
theorem RepT.rs {o : Nat → Nat} {M G : Fz} {r : Rep} {xe xa xs xd : SV} (h : RepT o M r xe xa xs xd) (u : ∀ t,t ≠ 0 → Sub (Tag o t M) G) : RepS G r xe xa xs xd:=by
  obtain ⟨⟨cs,h1,h2⟩,h3,h4,ds,h5,h6⟩:=h
  exact ⟨⟨cs,(h1.mono (u 1 (by omega))).to,h2.imp λc a g=>(EntX.mono (u 2 (by omega)) g).to⟩,IntsX.to (IntsX.mono (u 3 (by omega)) h3),IntsX.to (IntsX.mono (u 4 (by omega)) h4),⟨ds,(h5.mono (u 5 (by omega))).to,h6.imp λc a g=>(DvX.mono (u 6 (by omega)) g).to⟩⟩
structure AkS (fz : Fz) (x : SV) (many : Int) (k M nr idt n0 : Nat) (mu0 : St) (i : Nat) (e : Env) (mu : St) (n : Nat) (T : List Int) (xe xa xs xd : SV) : Prop where
  hT : AkI k M T
  gg : Gr n0 fz mu0 mu n0 n
  h0 : n0 ≤ nr
  h1 : nr < idt
  h2 : idt < n
  br : Ev.look mu nr = some [I 0,I (k : Nat),I 0,I 0,I 0,I (commF T 0 M),.bool false,I 0,.str 0 0,xe,xa,xs,xd]
  bt : Ev.look mu idt = some (T.map (SV.int .i64))
  rs : RepS (Ex2 nr idt (with' mu fz)) (akR k M T (commF T 0 M)) xe xa xs xd
  e01 : e 0 1 = .one (I many)
  e02 : e 0 2 = .one x
  e07 : e 0 7 = .one (I (k : Nat))
  e08 : e 0 8 = .one (.optr nr 0)
  e09 : e 0 9 = .one (.osl idt 0 k k 1)
  e010 : e 0 10 = .one (.int .i64 i)
variable {P : Program} (H : Fs P)
include H
theorem acks_loop (hS : SortC P) {k M : Nat} (hk : k = 3 ∨ k = 5) (hM : M ≤ 15) {many : Int} (hmany : andI many 15 = (M : Int)) {fz : Fz} {mu0 : St} {n0 : Nat} (hfr : Free fz mu0 n0) (x : SV) (ac : List Int) (hac : ac.length ≤ 4611686018427387904) (s : IntsR (with' mu0 fz) x ac)
    {nr idt : Nat} (e : Env) (mu : St) (n : Nat) (K : LK) (w) (T : List Int) (xe xa xs xd : SV) (hi : AkS fz x many k M nr idt n0 mu0 0 e mu n T xe xa xs xd)
    (hK : ∀ i e mu n T xe xa xs xd,AkS fz x many k M nr idt n0 mu0 i e mu n T xe xa xs xd → K (.exit 0) (tmE 108 e) mu n) : Lp (dcode pOrc False (CP P) fz 20 l_law17_ReplicaAcks_2) 20 (tmE 108 e) mu n K w:=by
  obtain ⟨xl,xss,xk,xm⟩:=s.len
  refine loopI (x:=0) (L:=min ac.length 12) (p:=λ_=>true) (λi e mu n=>∃ T xe xa xs xd,AkS fz x many k M nr idt n0 mu0 i e mu n T xe xa xs xd) (λ_ _ _=>False) ?_ ?_ _ _ _ _ _ (by omega) ⟨_,_,_,_,_,hi⟩ (λ_ e' mu' n' ⟨T,a1,a2,a3,a4,h⟩=>hK _ _ _ _ _ _ _ _ _ h) (by rintro ⟨_,_,_,h⟩; cases h)
  · rintro i e mu n K hi ⟨T,xe,xa,xs,xd,D⟩ hy hn
    have hY:=Hide.mk hy
    clear hy hn hK
    obtain ⟨w,hw,ew⟩:=rem_range ac[i] (k - 1) (by omega) (by omega)
    obtain ⟨a,ha,ea⟩:=andI_mask (IntKind.i64.wrap (ac[i].tdiv 8)) 31 (by decide)
    have ea : andI (IntKind.i64.wrap (ac[i].tdiv 8)) 31 = (a : Int):=ea
    obtain ⟨hT,gg,h0,h1,h2,br,bt,rs,e01,e02,e07,e08,e09,e010⟩:=D
    obtain ⟨-,-,xek,xem⟩:=rs.1.len
    obtain ⟨-,-,xak,xam⟩:=rs.2.1.len
    obtain ⟨-,-,xsk,xsm⟩:=rs.2.2.1.len
    obtain ⟨-,-,xdk,xdm⟩:=rs.2.2.2.len
    have hi1 : i < ac.length:=by omega
    have hi2 : ((i : Int) < 12) = True:=by simp; omega
    have hwi:=wrap_succ hi1 hac
    have hkk : IntKind.i64.wrap ((k : Int) - 1) = ((k - 1 : Nat) : Int):=by rcases hk with rfl | rfl <;> rfl
    have hw1 : IntKind.i64.wrap (1 + (w : Int)) = ((w + 1 : Nat) : Int):=by rw [wrap64 (by omega) (by omega)]; omega
    have hr0 : (IntKind.u64.wrap ((k - 1 : Nat) : Int) = 0) = False:=by rcases hk with rfl | rfl <;> simp [IntKind.wrap,IntKind.bits,IntKind.signed]
    obtain ⟨id,off,cap,B,rfl,hB,hmk,hbd,hsub⟩:=(IntsR.mono (gg.sub hfr (Nat.le_refl _)) s).elem hi1
    have wr:=look_with (fz:=fz) br
    have hRA:=replica_Receive_ack H hS (akR k M T (commF T 0 M)) xe xa xs xd (akM (w + 1) a) .nsl .nsl
    obtain ⟨g,hg,ecg⟩:=comm_best T 0 M
    have hrb:=ak_b hk hM hT hg.le
    rw [← ecg] at hrb
    clear ecg hg g
    have hwk : w + 1 < k:=by omega
    replace hRA:=hRA (ak_sz k M T _ (by have:=hT.len; omega) hM) hrb (ak_mb (by omega) ha) (decide_eq_false (show ¬ ((w + 1 : Nat) : Int) = 0 by omega)) (decide_eq_false (show ¬ (k : Int) ≤ ((w + 1 : Nat) : Int) by omega)) rfl rfl rfl (by simp [akM]; omega) (by simp [akM,akR]; rw [hT.len]; exact hwk)
    rw [ak_acked hk hM hT hwk,ak_rc,ak_mc] at hRA
    obtain ⟨hT2,-⟩:=hT.next a hwk
    have hwT : w + 1 < T.length:=by rw [hT.len]; exact hwk
    have hT2e : akT T (w + 1) a M = T.set (w + 1) (max T[w + 1] (min (a : Int) (M : Int))):=by unfold akT; rw [List.getElem?_eq_getElem hwT]; rfl
    obtain ⟨T2,hT2d⟩ : ∃ T2,akT T (w + 1) a M = T2:=⟨_,rfl⟩
    rw [hT2d] at hRA hT2 hT2e
    rw [dc_at l_law17_ReplicaAcks_2.eq_1]
    simp only [↓E1,E2,zA,zB,zC,zD,zE,zF,zG,zH,zI,zJ,zK,zL,zM,zN,reduceIte,zO,zP,↓b_andI, *]
    refine hRA.c1 gg.free ⟨⟨EntsR.mono Ex2.sub rs.1,IntsR.mono Ex2.sub rs.2.1,IntsR.mono Ex2.sub rs.2.2.1,DvsR.mono Ex2.sub rs.2.2.2⟩,nilP _,nilE _⟩ ?_
    rintro v m5 n5 g5 ⟨ye,ya,ys,yd,o,rfl,ho,hR⟩
    have l5:=g5.le
    rw [ak_rc]
    have c5r:=(g5.own nr (by omega)).trans br
    have c5t:=(g5.own idt (by omega)).trans bt
    obtain ⟨⟨cs,q1,q2⟩,q3,q4,ds,q5,q6⟩:=hR
    have hR : RepT o (with' m5 fz) (akR k M T2 (commF T2 0 M)) ye ya ys yd:=⟨⟨cs,q1,q2⟩,q3,q4,ds,q5,q6⟩
    obtain ⟨-,-,yek,yem⟩:=SlX.len q1
    obtain ⟨-,-,yak,yam⟩:=SlX.len q3
    obtain ⟨-,-,ysk,ysm⟩:=SlX.len q4
    obtain ⟨-,-,ydk,ydm⟩:=SlX.len q5
    have gA:=(gg.trans (g5.weaken (by omega))).cons (by omega) [I 0,I (k : Nat),I 0,I 0,I 0,I (commF T2 0 M),.bool false,I 0,.str 0 0,ye,ya,ys,yd]
    obtain ⟨m6,hm6⟩ : ∃ m6 : St,((n5,[I 0,I (k : Nat),I 0,I 0,I 0,I (commF T2 0 M),.bool false,I 0,.str 0 0,ye,ya,ys,yd]) :: m5) = m6:=⟨_,rfl⟩
    have d6r : Ev.look m6 nr = some [I 0,I (k : Nat),I 0,I 0,I 0,I (commF T 0 M),.bool false,I 0,.str 0 0,xe,xa,xs,xd]:=by rw [← hm6,look_c,if_neg (by omega)]; exact c5r
    have d6t : Ev.look m6 idt = some (T.map (SV.int .i64)):=by rw [← hm6,look_c,if_neg (by omega)]; exact c5t
    have d6n : Ev.look m6 n5 = some [I 0,I (k : Nat),I 0,I 0,I 0,I (commF T2 0 M),.bool false,I 0,.str 0 0,ye,ya,ys,yd]:=by rw [← hm6,look_c,if_pos rfl]
    have u6 : ∀ t,t ≠ 0 → Sub (Tag o t (with' m5 fz)) (Ex2 nr idt (with' m6 fz)):=λt ht j B hj=>by
      obtain ⟨p1,p2⟩:=Tag.el hj
      have p3 : n ≤ j:=by
        rcases Nat.lt_or_ge j n with h | h
        · exact (ht (p1.symm.trans (ho j h))).elim
        · exact h
      have p4:=g5.free.lt p2
      exact Ex2.at (by omega) (by omega) (by rw [← hm6,with_c,if_neg (by omega)]; exact p2)
    have hR6:=RepT.rs hR u6
    rw [hm6] at gA
    have w6r:=look_with (fz:=fz) d6r
    have w6t:=look_with (fz:=fz) d6t
    have w6n:=look_with (fz:=fz) d6n
    have hne1 : (nr = idt) = False:=by simp; omega
    have hne2 : (nr = n5) = False:=by simp; omega
    have hne3 : (idt = nr) = False:=by simp; omega
    have hmkT:=cm_mkd T
    have hsubT:=cm_sub hwT
    have hbdT : (w + 1) * 1 + 1 ≤ (T.map (SV.int .i64)).length:=by simp; omega
    have hkT : (w + 1 < k) = True:=by simp; exact hwk
    have hov : over (T.map (SV.int .i64)) ((w + 1) * 1) [SV.int .i64 (max T[w + 1] (min (a : Int) (M : Int)))] = T2.map (SV.int .i64):=by rw [Nat.mul_one,hT2e]; exact over_ints T (w + 1) _ hwT
    clear hRA hT2d hT2e hB wr c5r c5t hR q1 q2 q3 q4 q5 q6
    simp only [↓E1,E2,zA,zB,zC,zD,zE,zF,zG,zH,zI,zJ,zK,zL,zM,zN,reduceIte,zO,zP,↓b_andI,cm_evs_cons,cm_evs_nil,with_putI,look_putS,putS_putS,Option.isSome_some,Option.map_some, *]
    have g7:=gA.put (id:=nr) (by omega) d6r (c:=[I 0,I (k : Nat),I 0,I 0,I 0,I (commF T2 0 M),.bool false,I 0,.str 0 0,ye,ya,ys,yd])
    have u7:=Ex2.put (a:=nr) (b:=idt) (fz:=fz) (c:=[I 0,I (k : Nat),I 0,I 0,I 0,I (commF T2 0 M),.bool false,I 0,.str 0 0,ye,ya,ys,yd]) (.inl rfl) d6r
    have d7r : Ev.look (putS m6 nr [I 0,I (k : Nat),I 0,I 0,I 0,I (commF T2 0 M),.bool false,I 0,.str 0 0,ye,ya,ys,yd]) nr = some [I 0,I (k : Nat),I 0,I 0,I 0,I (commF T2 0 M),.bool false,I 0,.str 0 0,ye,ya,ys,yd]:=by rw [look_putS,if_pos rfl,d6r]; rfl
    have d7t : Ev.look (putS m6 nr [I 0,I (k : Nat),I 0,I 0,I 0,I (commF T2 0 M),.bool false,I 0,.str 0 0,ye,ya,ys,yd]) idt = some (T.map (SV.int .i64)):=by rw [look_putS,if_neg (by omega)]; exact d6t
    obtain ⟨m7,hm7⟩ : ∃ m7,putS m6 nr [I 0,I (k : Nat),I 0,I 0,I 0,I (commF T2 0 M),.bool false,I 0,.str 0 0,ye,ya,ys,yd] = m7:=⟨_,rfl⟩
    rw [hm7] at g7 u7 d7r d7t
    rw [hm7]
    have g8:=g7.put (id:=idt) (by omega) d7t (c:=T2.map (SV.int .i64))
    have u8:=Ex2.put (a:=nr) (b:=idt) (fz:=fz) (c:=T2.map (SV.int .i64)) (.inr rfl) d7t
    have d8r : Ev.look (putS m7 idt (T2.map (SV.int .i64))) nr = some [I 0,I (k : Nat),I 0,I 0,I 0,I (commF T2 0 M),.bool false,I 0,.str 0 0,ye,ya,ys,yd]:=by rw [look_putS,if_neg (by omega)]; exact d7r
    have d8t : Ev.look (putS m7 idt (T2.map (SV.int .i64))) idt = some (T2.map (SV.int .i64)):=by rw [look_putS,if_pos rfl,d7t]; rfl
    have hR8:=RepS.mono (u7.trans u8) hR6
    obtain ⟨m8,hm8⟩ : ∃ m8,putS m7 idt (T2.map (SV.int .i64)) = m8:=⟨_,rfl⟩
    rw [hm8] at g8 d8r d8t hR8
    rw [hm8]
    clear hm6 hm7 hm8 u6 u7 u8 g7 w6r w6t w6n d6r d6t d6n d7r d7t hR6 hov
    refine acks_reach H hk hT2.len hM hmany (idt:=idt) d8t g8.free _ _ _ ?_ ?_ ?_ ?_ ?_ (λe' hs h15=>?_)
    · simp [updN,updE, *]
    · simp [updN,updE, *]
    · simp [updN,updE, *]
    · simp [updN,updE, *]
    · simp [updN,updE, *]
    have f01:=hs 0 1 ⟨rfl,by omega⟩
    have f02:=hs 0 2 ⟨rfl,by omega⟩
    have f07:=hs 0 7 ⟨rfl,by omega⟩
    have f08:=hs 0 8 ⟨rfl,by omega⟩
    have f09:=hs 0 9 ⟨rfl,by omega⟩
    have f010:=hs 0 10 ⟨rfl,by omega⟩
    clear hs
    simp [updN,updE,e01,e02,e07,e08,e09,e010] at f01 f02 f07 f08 f09 f010
    have w8r:=look_with (fz:=fz) d8r
    have hcc : (commF T2 0 (M : Int) = commF T2 0 (M : Int)) = True:=by simp
    clear e01 e02 e07 e08 e09 e010
    simp only [↓E1,E2,zA,zB,zC,zD,zE,zF,zG,zH,zI,zJ,zK,zL,zM,zN,reduceIte,zO,zP, *]
    refine hY.out rfl _ _ _ ⟨T2,ye,ya,ys,yd,⟨hT2,g8,h0,h1,by omega,d8r,d8t,hR8,?_,?_,?_,?_,?_,?_⟩⟩
    all_goals simp [updN,updE, *]
  · rintro e mu n K ⟨T,xe,xa,xs,xd,D⟩ hx
    have hX:=Hide.mk hx
    clear hx
    obtain ⟨hT,gg,h0,h1,h2,br,bt,rs,e01,e02,e07,e08,e09,e010⟩:=D
    rw [dc_at l_law17_ReplicaAcks_2.eq_1]
    rcases Nat.lt_or_ge 12 ac.length with hl | hl
    · have hm : min ac.length 12 = 12:=by omega
      rw [hm] at e010
      have hc1 : ((12 : Int) < (ac.length : Int)) = True:=by simp; omega
      have hc2 : (12 < ac.length) = True:=by simp; omega
      simp only [↓E1,E2,zA,zB,zC,zD,zE,zF,zG,zH,zI,zJ,zK,zL,zM,zN,reduceIte,zO,zP, *]
      refine hX.out _ _ _ ⟨T,xe,xa,xs,xd,⟨hT,gg,h0,h1,h2,br,bt,rs,?_,?_,?_,?_,?_,?_⟩⟩
      all_goals simp [updN,updE, *]
    · have hm : min ac.length 12 = ac.length:=by omega
      rw [hm] at e010
      have hc2 : (ac.length < ac.length) = False:=by simp
      simp only [↓E1,E2,zA,zB,zC,zD,zE,zF,zG,zH,zI,zJ,zK,zL,zM,zN,reduceIte,zO,zP, *]
      refine hX.out _ _ _ ⟨T,xe,xa,xs,xd,⟨hT,gg,h0,h1,h2,br,bt,rs,?_,?_,?_,?_,?_,?_⟩⟩
      all_goals simp [updN,updE, *]
end Go.Proofs.Ytnnjlnkoomeadaa.Pv
namespace Go.Proofs.Ytnnjlnkoomeadaa.Pv
open Go.Ev Go.Ev.Rp
set_option maxRecDepth 100000
set_option maxHeartbeats 4000000
set_option linter.unusedSimpArgs false
set_option linter.unusedVariables false
set_option linter.unusedSectionVars false
theorem oth_zero (me t : Int) (h : 0 < t) : ∀ (k i : Nat),(oth me (List.replicate k 0) i).countP (λx=>decide (t ≤ x)) = 0
  | 0,i=>rfl
  | k + 1,i=>by
    rw [List.replicate_succ]
    unfold oth
    split
    · exact oth_zero me t h k (i + 1)
    · rw [List.countP_cons,oth_zero me t h k (i + 1)]
      have : ¬ t ≤ 0:=by omega
      simp [this]
theorem comm_zero {k : Nat} (hk : k = 3 ∨ k = 5) (M : Nat) : commF (List.replicate k 0) 0 (M : Int) = 0:=comm_none λu h1 h2=>by
  unfold manyL
  rw [oth_zero 0 u h1]
  rcases hk with rfl | rfl <;> simp
theorem rep_zero (k : Nat) : rep [I 0] k = (List.replicate k (0 : Int)).map (SV.int .i64):=by
  induction k with
  | zero=>rfl
  | succ k ih=>rw [rep_s,ih,List.replicate_succ]; rfl
theorem ak_fresh {k : Nat} (hk : k = 3 ∨ k = 5) (M : Nat) : freshR 0 (k : Nat) 0 M 0 = akR k M (List.replicate k 0) (commF (List.replicate k 0) 0 M):=by
  rw [comm_zero hk]; rfl
variable {P : Program} (H : Fs P)
include H
theorem law17_ReplicaAcks (aw : BoolC P n_law17_awake [] (λ_=>True) true) (hS : SortC P) (five : Bool) (many : Int) (x : SV) (ac : List Int) (hac : ac.length ≤ 4611686018427387904) : BoolC P n_law17_ReplicaAcks [.one (.bool five),.one (I many),.one x] (λM=>IntsR M x ac) true:=boolC H.mx H.law17_ReplicaAcks 20 λfz mu n k hfr g0 s h=>by
  obtain ⟨xl,xss,xk,xm⟩:=s.len
  obtain ⟨M,hM,eM⟩:=andI_mask many 15 (by decide)
  have eM : andI many 15 = (M : Int):=eM
  rw [i_law17_ReplicaAcks,dc_at b_law17_ReplicaAcks.eq_1]
  simp only [↓E1,E2,zA,zB,zC,zD,zE,zF,zG,zH,zI,zJ,zK,zL,zM,zN,reduceIte,zO,zP]
  refine aw.q0 hfr trivial ?_
  rintro v n1 l1 rfl
  have hK : ∃ kk : Nat,(kk = 3 ∨ kk = 5) ∧ (five = true ∧ kk = 5 ∨ five = false ∧ kk = 3):=by cases five; exact ⟨3,.inl rfl,.inr ⟨rfl,rfl⟩⟩; exact ⟨5,.inr rfl,.inl ⟨rfl,rfl⟩⟩
  obtain ⟨kk,hkk,hfv⟩:=hK
  have hF:=law17_fresh H 0 (kk : Nat) 0 M 0 (by rcases hkk with rfl | rfl <;> rfl) hM
  rw [ak_fresh hkk] at hF
  have hfits : fits kk 8 = true:=fits_le (by omega) (by decide) (by decide)
  have hkd : (kk < kk) = False:=by simp
  have hf1:=hfr.le l1
  rcases hfv with ⟨rfl,hk5⟩ | ⟨rfl,hk3⟩
  all_goals
    first
      | (have hv : (5 : Int) = ((kk : Nat) : Int) := by rw [hk5]; rfl
         clear hk5)
      | (have hv : (3 : Int) = ((kk : Nat) : Int) := by rw [hk3]; rfl
         clear hk3)
    simp only [↓E1,E2,zA,zB,zC,zD,zE,zF,zG,zH,zI,zJ,zK,zL,zM,zN,reduceIte,zO,zP,↓b_andI, *]
    clear hv
    refine hF.c1 hf1 trivial ?_
    rintro v m2 n2 g2 ⟨xe,xa,rfl,hR⟩
    have l2:=g2.le
    have g02:=(g0.le2 l1).trans (g2.weaken l1)
    rw [ak_rc]
    obtain ⟨-,-,xek,xem⟩:=hR.1.len
    obtain ⟨-,-,xak,xam⟩:=hR.2.1.len
    simp only [↓E1,E2,zA,zB,zC,zD,zE,zF,zG,zH,zI,zJ,zK,zL,zM,zN,reduceIte,zO,zP,↓b_andI, *,with_putI,look_putS,putS_putS,Option.isSome_some,Option.map_some]
    refine acks_loop H hS hkk hM eM hfr x ac hac s (nr:=n2) (idt:=n2 + 1) _ _ _ _ _ (List.replicate kk 0) xe xa .nsl .nsl ⟨?_,(g02.cons (by omega) _).cons (by omega) _,by omega,by omega,by omega,by rw [look_c,if_neg (by omega),look_c,if_pos rfl],by rw [look_c,if_pos rfl,rep_zero],?_,?_,?_,?_,?_,?_,?_⟩ ?_
    · exact ⟨by simp,λt ht=>by rw [List.eq_of_mem_replicate ht]; omega,λt ht=>by rw [List.eq_of_mem_replicate ht]; omega⟩
    · refine RepS.mono (λj B hj=>?_) hR
      obtain ⟨h1,h2⟩:=From.el hj
      have h3:=g2.free.lt h2
      exact Ex2.at (by omega) (by omega) (by rw [with_c,if_neg (by omega),with_c,if_neg (by omega)]; exact h2)
    · simp [updN,updE,envI]
    · simp [updN,updE,envI]
    · simp [updN,updE,envI]
    · simp [updN,updE,envI]
    · simp [updN,updE,envI]
    · simp [updN,updE,envI]
    · intro i e' mu' n' T ye ya ys yd D
      have gD:=D.gg
      simp only [↓E1,E2,zA,zB,zC,zD,zE,zF,zG,zH,zI,zJ,zK,zL,zM,zN,reduceIte,zO,zP, *]
      try exact h _ _ gD
end Go.Proofs.Ytnnjlnkoomeadaa.Pv
namespace Go.Ev
abbrev PC:=List (Nat × Nat)
abbrev RR:=PC → Bool
def zz : RR:=λ_=>false
def PcOk (m : Nat → Nat) (pc : PC) : Prop:=∀ (j : Nat) (p : Nat × Nat),pc[j]? = some p → p.1 ≤ m j ∧ m j ≤ p.2
def TT (m : Nat → Nat) (r : RR) : Prop:=∃ pc,PcOk m pc ∧ r pc = true
theorem zz_not {m : Nat → Nat} : ¬ TT m zz:=λ⟨_,_,h⟩=>by cases h
section
variable {m : Nat → Nat}
end
section
variable {raw : Nat → Int} {m : Nat → Nat}
end
noncomputable def isR (v : AV) (_ : St) (_ : Nat) : RR:=v.onOne zz λs=>s.onBool zz λb _=>b
theorem isR_elim {m : Nat → Nat} (v : AV) (mu : St) (n : Nat) (h : TT m (isR v mu n)) : v = .one (.bool true):=by
  obtain ⟨s,rfl,h1⟩:=onOne_elim zz_not h
  obtain ⟨b,rfl,pc,_,h2⟩:=onBool_elim zz_not h1
  have h3 : b = true:=h2
  rw [h3]
end Go.Ev
namespace Go.Ev
inductive S16 where
  | s0
  | s1
  | s2
  | s3
  | s4
  | s5
  | s6
  | s7
  | s8
  | s9
  | s10
  | s11
  | s12
  | s13
  | s14
  | s15
def S16.n : S16 → Nat
  | .s0=>0
  | .s1=>1
  | .s2=>2
  | .s3=>3
  | .s4=>4
  | .s5=>5
  | .s6=>6
  | .s7=>7
  | .s8=>8
  | .s9=>9
  | .s10=>10
  | .s11=>11
  | .s12=>12
  | .s13=>13
  | .s14=>14
  | .s15=>15
inductive Row where
  | mk (a0 a1 a2 a3 a4 a5 a6 a7 a8 a9 a10 a11 a12 a13 a14 a15 : AV)
inductive T2 where
  | mk (r0 r1 r2 r3 r4 r5 r6 r7 r8 r9 r10 r11 r12 r13 r14 r15 : Row)
noncomputable def rg (s : S16) (r : Row) : AV:=S16.rec (motive:=λ_=>Row → AV)
  (λr=>Row.rec (motive:=λ_=>AV) (λa0 _ _ _ _ _ _ _ _ _ _ _ _ _ _ _=>a0) r)
  (λr=>Row.rec (motive:=λ_=>AV) (λ_ a1 _ _ _ _ _ _ _ _ _ _ _ _ _ _=>a1) r)
  (λr=>Row.rec (motive:=λ_=>AV) (λ_ _ a2 _ _ _ _ _ _ _ _ _ _ _ _ _=>a2) r)
  (λr=>Row.rec (motive:=λ_=>AV) (λ_ _ _ a3 _ _ _ _ _ _ _ _ _ _ _ _=>a3) r)
  (λr=>Row.rec (motive:=λ_=>AV) (λ_ _ _ _ a4 _ _ _ _ _ _ _ _ _ _ _=>a4) r)
  (λr=>Row.rec (motive:=λ_=>AV) (λ_ _ _ _ _ a5 _ _ _ _ _ _ _ _ _ _=>a5) r)
  (λr=>Row.rec (motive:=λ_=>AV) (λ_ _ _ _ _ _ a6 _ _ _ _ _ _ _ _ _=>a6) r)
  (λr=>Row.rec (motive:=λ_=>AV) (λ_ _ _ _ _ _ _ a7 _ _ _ _ _ _ _ _=>a7) r)
  (λr=>Row.rec (motive:=λ_=>AV) (λ_ _ _ _ _ _ _ _ a8 _ _ _ _ _ _ _=>a8) r)
  (λr=>Row.rec (motive:=λ_=>AV) (λ_ _ _ _ _ _ _ _ _ a9 _ _ _ _ _ _=>a9) r)
  (λr=>Row.rec (motive:=λ_=>AV) (λ_ _ _ _ _ _ _ _ _ _ a10 _ _ _ _ _=>a10) r)
  (λr=>Row.rec (motive:=λ_=>AV) (λ_ _ _ _ _ _ _ _ _ _ _ a11 _ _ _ _=>a11) r)
  (λr=>Row.rec (motive:=λ_=>AV) (λ_ _ _ _ _ _ _ _ _ _ _ _ a12 _ _ _=>a12) r)
  (λr=>Row.rec (motive:=λ_=>AV) (λ_ _ _ _ _ _ _ _ _ _ _ _ _ a13 _ _=>a13) r)
  (λr=>Row.rec (motive:=λ_=>AV) (λ_ _ _ _ _ _ _ _ _ _ _ _ _ _ a14 _=>a14) r)
  (λr=>Row.rec (motive:=λ_=>AV) (λ_ _ _ _ _ _ _ _ _ _ _ _ _ _ _ a15=>a15) r)
  s r
noncomputable def rs (s : S16) (r : Row) (v : AV) (k : Row → RR) : RR:=S16.rec (motive:=λ_=>Row → AV → (Row → RR) → RR)
  (λr v k=>Row.rec (motive:=λ_=>AV → (Row → RR) → RR) (λ_ a1 a2 a3 a4 a5 a6 a7 a8 a9 a10 a11 a12 a13 a14 a15 v k=>k (.mk v a1 a2 a3 a4 a5 a6 a7 a8 a9 a10 a11 a12 a13 a14 a15)) r v k)
  (λr v k=>Row.rec (motive:=λ_=>AV → (Row → RR) → RR) (λa0 _ a2 a3 a4 a5 a6 a7 a8 a9 a10 a11 a12 a13 a14 a15 v k=>k (.mk a0 v a2 a3 a4 a5 a6 a7 a8 a9 a10 a11 a12 a13 a14 a15)) r v k)
  (λr v k=>Row.rec (motive:=λ_=>AV → (Row → RR) → RR) (λa0 a1 _ a3 a4 a5 a6 a7 a8 a9 a10 a11 a12 a13 a14 a15 v k=>k (.mk a0 a1 v a3 a4 a5 a6 a7 a8 a9 a10 a11 a12 a13 a14 a15)) r v k)
  (λr v k=>Row.rec (motive:=λ_=>AV → (Row → RR) → RR) (λa0 a1 a2 _ a4 a5 a6 a7 a8 a9 a10 a11 a12 a13 a14 a15 v k=>k (.mk a0 a1 a2 v a4 a5 a6 a7 a8 a9 a10 a11 a12 a13 a14 a15)) r v k)
  (λr v k=>Row.rec (motive:=λ_=>AV → (Row → RR) → RR) (λa0 a1 a2 a3 _ a5 a6 a7 a8 a9 a10 a11 a12 a13 a14 a15 v k=>k (.mk a0 a1 a2 a3 v a5 a6 a7 a8 a9 a10 a11 a12 a13 a14 a15)) r v k)
  (λr v k=>Row.rec (motive:=λ_=>AV → (Row → RR) → RR) (λa0 a1 a2 a3 a4 _ a6 a7 a8 a9 a10 a11 a12 a13 a14 a15 v k=>k (.mk a0 a1 a2 a3 a4 v a6 a7 a8 a9 a10 a11 a12 a13 a14 a15)) r v k)
  (λr v k=>Row.rec (motive:=λ_=>AV → (Row → RR) → RR) (λa0 a1 a2 a3 a4 a5 _ a7 a8 a9 a10 a11 a12 a13 a14 a15 v k=>k (.mk a0 a1 a2 a3 a4 a5 v a7 a8 a9 a10 a11 a12 a13 a14 a15)) r v k)
  (λr v k=>Row.rec (motive:=λ_=>AV → (Row → RR) → RR) (λa0 a1 a2 a3 a4 a5 a6 _ a8 a9 a10 a11 a12 a13 a14 a15 v k=>k (.mk a0 a1 a2 a3 a4 a5 a6 v a8 a9 a10 a11 a12 a13 a14 a15)) r v k)
  (λr v k=>Row.rec (motive:=λ_=>AV → (Row → RR) → RR) (λa0 a1 a2 a3 a4 a5 a6 a7 _ a9 a10 a11 a12 a13 a14 a15 v k=>k (.mk a0 a1 a2 a3 a4 a5 a6 a7 v a9 a10 a11 a12 a13 a14 a15)) r v k)
  (λr v k=>Row.rec (motive:=λ_=>AV → (Row → RR) → RR) (λa0 a1 a2 a3 a4 a5 a6 a7 a8 _ a10 a11 a12 a13 a14 a15 v k=>k (.mk a0 a1 a2 a3 a4 a5 a6 a7 a8 v a10 a11 a12 a13 a14 a15)) r v k)
  (λr v k=>Row.rec (motive:=λ_=>AV → (Row → RR) → RR) (λa0 a1 a2 a3 a4 a5 a6 a7 a8 a9 _ a11 a12 a13 a14 a15 v k=>k (.mk a0 a1 a2 a3 a4 a5 a6 a7 a8 a9 v a11 a12 a13 a14 a15)) r v k)
  (λr v k=>Row.rec (motive:=λ_=>AV → (Row → RR) → RR) (λa0 a1 a2 a3 a4 a5 a6 a7 a8 a9 a10 _ a12 a13 a14 a15 v k=>k (.mk a0 a1 a2 a3 a4 a5 a6 a7 a8 a9 a10 v a12 a13 a14 a15)) r v k)
  (λr v k=>Row.rec (motive:=λ_=>AV → (Row → RR) → RR) (λa0 a1 a2 a3 a4 a5 a6 a7 a8 a9 a10 a11 _ a13 a14 a15 v k=>k (.mk a0 a1 a2 a3 a4 a5 a6 a7 a8 a9 a10 a11 v a13 a14 a15)) r v k)
  (λr v k=>Row.rec (motive:=λ_=>AV → (Row → RR) → RR) (λa0 a1 a2 a3 a4 a5 a6 a7 a8 a9 a10 a11 a12 _ a14 a15 v k=>k (.mk a0 a1 a2 a3 a4 a5 a6 a7 a8 a9 a10 a11 a12 v a14 a15)) r v k)
  (λr v k=>Row.rec (motive:=λ_=>AV → (Row → RR) → RR) (λa0 a1 a2 a3 a4 a5 a6 a7 a8 a9 a10 a11 a12 a13 _ a15 v k=>k (.mk a0 a1 a2 a3 a4 a5 a6 a7 a8 a9 a10 a11 a12 a13 v a15)) r v k)
  (λr v k=>Row.rec (motive:=λ_=>AV → (Row → RR) → RR) (λa0 a1 a2 a3 a4 a5 a6 a7 a8 a9 a10 a11 a12 a13 a14 _ v k=>k (.mk a0 a1 a2 a3 a4 a5 a6 a7 a8 a9 a10 a11 a12 a13 a14 v)) r v k)
  s r v k
noncomputable def rset (s : S16) (r : Row) (v : AV) : Row:=S16.rec (motive:=λ_=>Row)
  (Row.rec (motive:=λ_=>Row) (λ_ a1 a2 a3 a4 a5 a6 a7 a8 a9 a10 a11 a12 a13 a14 a15=>.mk v a1 a2 a3 a4 a5 a6 a7 a8 a9 a10 a11 a12 a13 a14 a15) r)
  (Row.rec (motive:=λ_=>Row) (λa0 _ a2 a3 a4 a5 a6 a7 a8 a9 a10 a11 a12 a13 a14 a15=>.mk a0 v a2 a3 a4 a5 a6 a7 a8 a9 a10 a11 a12 a13 a14 a15) r)
  (Row.rec (motive:=λ_=>Row) (λa0 a1 _ a3 a4 a5 a6 a7 a8 a9 a10 a11 a12 a13 a14 a15=>.mk a0 a1 v a3 a4 a5 a6 a7 a8 a9 a10 a11 a12 a13 a14 a15) r)
  (Row.rec (motive:=λ_=>Row) (λa0 a1 a2 _ a4 a5 a6 a7 a8 a9 a10 a11 a12 a13 a14 a15=>.mk a0 a1 a2 v a4 a5 a6 a7 a8 a9 a10 a11 a12 a13 a14 a15) r)
  (Row.rec (motive:=λ_=>Row) (λa0 a1 a2 a3 _ a5 a6 a7 a8 a9 a10 a11 a12 a13 a14 a15=>.mk a0 a1 a2 a3 v a5 a6 a7 a8 a9 a10 a11 a12 a13 a14 a15) r)
  (Row.rec (motive:=λ_=>Row) (λa0 a1 a2 a3 a4 _ a6 a7 a8 a9 a10 a11 a12 a13 a14 a15=>.mk a0 a1 a2 a3 a4 v a6 a7 a8 a9 a10 a11 a12 a13 a14 a15) r)
  (Row.rec (motive:=λ_=>Row) (λa0 a1 a2 a3 a4 a5 _ a7 a8 a9 a10 a11 a12 a13 a14 a15=>.mk a0 a1 a2 a3 a4 a5 v a7 a8 a9 a10 a11 a12 a13 a14 a15) r)
  (Row.rec (motive:=λ_=>Row) (λa0 a1 a2 a3 a4 a5 a6 _ a8 a9 a10 a11 a12 a13 a14 a15=>.mk a0 a1 a2 a3 a4 a5 a6 v a8 a9 a10 a11 a12 a13 a14 a15) r)
  (Row.rec (motive:=λ_=>Row) (λa0 a1 a2 a3 a4 a5 a6 a7 _ a9 a10 a11 a12 a13 a14 a15=>.mk a0 a1 a2 a3 a4 a5 a6 a7 v a9 a10 a11 a12 a13 a14 a15) r)
  (Row.rec (motive:=λ_=>Row) (λa0 a1 a2 a3 a4 a5 a6 a7 a8 _ a10 a11 a12 a13 a14 a15=>.mk a0 a1 a2 a3 a4 a5 a6 a7 a8 v a10 a11 a12 a13 a14 a15) r)
  (Row.rec (motive:=λ_=>Row) (λa0 a1 a2 a3 a4 a5 a6 a7 a8 a9 _ a11 a12 a13 a14 a15=>.mk a0 a1 a2 a3 a4 a5 a6 a7 a8 a9 v a11 a12 a13 a14 a15) r)
  (Row.rec (motive:=λ_=>Row) (λa0 a1 a2 a3 a4 a5 a6 a7 a8 a9 a10 _ a12 a13 a14 a15=>.mk a0 a1 a2 a3 a4 a5 a6 a7 a8 a9 a10 v a12 a13 a14 a15) r)
  (Row.rec (motive:=λ_=>Row) (λa0 a1 a2 a3 a4 a5 a6 a7 a8 a9 a10 a11 _ a13 a14 a15=>.mk a0 a1 a2 a3 a4 a5 a6 a7 a8 a9 a10 a11 v a13 a14 a15) r)
  (Row.rec (motive:=λ_=>Row) (λa0 a1 a2 a3 a4 a5 a6 a7 a8 a9 a10 a11 a12 _ a14 a15=>.mk a0 a1 a2 a3 a4 a5 a6 a7 a8 a9 a10 a11 a12 v a14 a15) r)
  (Row.rec (motive:=λ_=>Row) (λa0 a1 a2 a3 a4 a5 a6 a7 a8 a9 a10 a11 a12 a13 _ a15=>.mk a0 a1 a2 a3 a4 a5 a6 a7 a8 a9 a10 a11 a12 a13 v a15) r)
  (Row.rec (motive:=λ_=>Row) (λa0 a1 a2 a3 a4 a5 a6 a7 a8 a9 a10 a11 a12 a13 a14 _=>.mk a0 a1 a2 a3 a4 a5 a6 a7 a8 a9 a10 a11 a12 a13 a14 v) r)
  s
noncomputable def tg (s : S16) (t : T2) : Row:=S16.rec (motive:=λ_=>T2 → Row)
  (λt=>T2.rec (motive:=λ_=>Row) (λr0 _ _ _ _ _ _ _ _ _ _ _ _ _ _ _=>r0) t)
  (λt=>T2.rec (motive:=λ_=>Row) (λ_ r1 _ _ _ _ _ _ _ _ _ _ _ _ _ _=>r1) t)
  (λt=>T2.rec (motive:=λ_=>Row) (λ_ _ r2 _ _ _ _ _ _ _ _ _ _ _ _ _=>r2) t)
  (λt=>T2.rec (motive:=λ_=>Row) (λ_ _ _ r3 _ _ _ _ _ _ _ _ _ _ _ _=>r3) t)
  (λt=>T2.rec (motive:=λ_=>Row) (λ_ _ _ _ r4 _ _ _ _ _ _ _ _ _ _ _=>r4) t)
  (λt=>T2.rec (motive:=λ_=>Row) (λ_ _ _ _ _ r5 _ _ _ _ _ _ _ _ _ _=>r5) t)
  (λt=>T2.rec (motive:=λ_=>Row) (λ_ _ _ _ _ _ r6 _ _ _ _ _ _ _ _ _=>r6) t)
  (λt=>T2.rec (motive:=λ_=>Row) (λ_ _ _ _ _ _ _ r7 _ _ _ _ _ _ _ _=>r7) t)
  (λt=>T2.rec (motive:=λ_=>Row) (λ_ _ _ _ _ _ _ _ r8 _ _ _ _ _ _ _=>r8) t)
  (λt=>T2.rec (motive:=λ_=>Row) (λ_ _ _ _ _ _ _ _ _ r9 _ _ _ _ _ _=>r9) t)
  (λt=>T2.rec (motive:=λ_=>Row) (λ_ _ _ _ _ _ _ _ _ _ r10 _ _ _ _ _=>r10) t)
  (λt=>T2.rec (motive:=λ_=>Row) (λ_ _ _ _ _ _ _ _ _ _ _ r11 _ _ _ _=>r11) t)
  (λt=>T2.rec (motive:=λ_=>Row) (λ_ _ _ _ _ _ _ _ _ _ _ _ r12 _ _ _=>r12) t)
  (λt=>T2.rec (motive:=λ_=>Row) (λ_ _ _ _ _ _ _ _ _ _ _ _ _ r13 _ _=>r13) t)
  (λt=>T2.rec (motive:=λ_=>Row) (λ_ _ _ _ _ _ _ _ _ _ _ _ _ _ r14 _=>r14) t)
  (λt=>T2.rec (motive:=λ_=>Row) (λ_ _ _ _ _ _ _ _ _ _ _ _ _ _ _ r15=>r15) t)
  s t
noncomputable def ts (s : S16) (t : T2) (r : Row) (k : T2 → RR) : RR:=S16.rec (motive:=λ_=>T2 → Row → (T2 → RR) → RR)
  (λt r k=>T2.rec (motive:=λ_=>Row → (T2 → RR) → RR) (λ_ r1 r2 r3 r4 r5 r6 r7 r8 r9 r10 r11 r12 r13 r14 r15 r k=>k (.mk r r1 r2 r3 r4 r5 r6 r7 r8 r9 r10 r11 r12 r13 r14 r15)) t r k)
  (λt r k=>T2.rec (motive:=λ_=>Row → (T2 → RR) → RR) (λr0 _ r2 r3 r4 r5 r6 r7 r8 r9 r10 r11 r12 r13 r14 r15 r k=>k (.mk r0 r r2 r3 r4 r5 r6 r7 r8 r9 r10 r11 r12 r13 r14 r15)) t r k)
  (λt r k=>T2.rec (motive:=λ_=>Row → (T2 → RR) → RR) (λr0 r1 _ r3 r4 r5 r6 r7 r8 r9 r10 r11 r12 r13 r14 r15 r k=>k (.mk r0 r1 r r3 r4 r5 r6 r7 r8 r9 r10 r11 r12 r13 r14 r15)) t r k)
  (λt r k=>T2.rec (motive:=λ_=>Row → (T2 → RR) → RR) (λr0 r1 r2 _ r4 r5 r6 r7 r8 r9 r10 r11 r12 r13 r14 r15 r k=>k (.mk r0 r1 r2 r r4 r5 r6 r7 r8 r9 r10 r11 r12 r13 r14 r15)) t r k)
  (λt r k=>T2.rec (motive:=λ_=>Row → (T2 → RR) → RR) (λr0 r1 r2 r3 _ r5 r6 r7 r8 r9 r10 r11 r12 r13 r14 r15 r k=>k (.mk r0 r1 r2 r3 r r5 r6 r7 r8 r9 r10 r11 r12 r13 r14 r15)) t r k)
  (λt r k=>T2.rec (motive:=λ_=>Row → (T2 → RR) → RR) (λr0 r1 r2 r3 r4 _ r6 r7 r8 r9 r10 r11 r12 r13 r14 r15 r k=>k (.mk r0 r1 r2 r3 r4 r r6 r7 r8 r9 r10 r11 r12 r13 r14 r15)) t r k)
  (λt r k=>T2.rec (motive:=λ_=>Row → (T2 → RR) → RR) (λr0 r1 r2 r3 r4 r5 _ r7 r8 r9 r10 r11 r12 r13 r14 r15 r k=>k (.mk r0 r1 r2 r3 r4 r5 r r7 r8 r9 r10 r11 r12 r13 r14 r15)) t r k)
  (λt r k=>T2.rec (motive:=λ_=>Row → (T2 → RR) → RR) (λr0 r1 r2 r3 r4 r5 r6 _ r8 r9 r10 r11 r12 r13 r14 r15 r k=>k (.mk r0 r1 r2 r3 r4 r5 r6 r r8 r9 r10 r11 r12 r13 r14 r15)) t r k)
  (λt r k=>T2.rec (motive:=λ_=>Row → (T2 → RR) → RR) (λr0 r1 r2 r3 r4 r5 r6 r7 _ r9 r10 r11 r12 r13 r14 r15 r k=>k (.mk r0 r1 r2 r3 r4 r5 r6 r7 r r9 r10 r11 r12 r13 r14 r15)) t r k)
  (λt r k=>T2.rec (motive:=λ_=>Row → (T2 → RR) → RR) (λr0 r1 r2 r3 r4 r5 r6 r7 r8 _ r10 r11 r12 r13 r14 r15 r k=>k (.mk r0 r1 r2 r3 r4 r5 r6 r7 r8 r r10 r11 r12 r13 r14 r15)) t r k)
  (λt r k=>T2.rec (motive:=λ_=>Row → (T2 → RR) → RR) (λr0 r1 r2 r3 r4 r5 r6 r7 r8 r9 _ r11 r12 r13 r14 r15 r k=>k (.mk r0 r1 r2 r3 r4 r5 r6 r7 r8 r9 r r11 r12 r13 r14 r15)) t r k)
  (λt r k=>T2.rec (motive:=λ_=>Row → (T2 → RR) → RR) (λr0 r1 r2 r3 r4 r5 r6 r7 r8 r9 r10 _ r12 r13 r14 r15 r k=>k (.mk r0 r1 r2 r3 r4 r5 r6 r7 r8 r9 r10 r r12 r13 r14 r15)) t r k)
  (λt r k=>T2.rec (motive:=λ_=>Row → (T2 → RR) → RR) (λr0 r1 r2 r3 r4 r5 r6 r7 r8 r9 r10 r11 _ r13 r14 r15 r k=>k (.mk r0 r1 r2 r3 r4 r5 r6 r7 r8 r9 r10 r11 r r13 r14 r15)) t r k)
  (λt r k=>T2.rec (motive:=λ_=>Row → (T2 → RR) → RR) (λr0 r1 r2 r3 r4 r5 r6 r7 r8 r9 r10 r11 r12 _ r14 r15 r k=>k (.mk r0 r1 r2 r3 r4 r5 r6 r7 r8 r9 r10 r11 r12 r r14 r15)) t r k)
  (λt r k=>T2.rec (motive:=λ_=>Row → (T2 → RR) → RR) (λr0 r1 r2 r3 r4 r5 r6 r7 r8 r9 r10 r11 r12 r13 _ r15 r k=>k (.mk r0 r1 r2 r3 r4 r5 r6 r7 r8 r9 r10 r11 r12 r13 r r15)) t r k)
  (λt r k=>T2.rec (motive:=λ_=>Row → (T2 → RR) → RR) (λr0 r1 r2 r3 r4 r5 r6 r7 r8 r9 r10 r11 r12 r13 r14 _ r k=>k (.mk r0 r1 r2 r3 r4 r5 r6 r7 r8 r9 r10 r11 r12 r13 r14 r)) t r k)
  s t r k
noncomputable def tset (s : S16) (t : T2) (r : Row) : T2:=S16.rec (motive:=λ_=>T2)
  (T2.rec (motive:=λ_=>T2) (λ_ r1 r2 r3 r4 r5 r6 r7 r8 r9 r10 r11 r12 r13 r14 r15=>.mk r r1 r2 r3 r4 r5 r6 r7 r8 r9 r10 r11 r12 r13 r14 r15) t)
  (T2.rec (motive:=λ_=>T2) (λr0 _ r2 r3 r4 r5 r6 r7 r8 r9 r10 r11 r12 r13 r14 r15=>.mk r0 r r2 r3 r4 r5 r6 r7 r8 r9 r10 r11 r12 r13 r14 r15) t)
  (T2.rec (motive:=λ_=>T2) (λr0 r1 _ r3 r4 r5 r6 r7 r8 r9 r10 r11 r12 r13 r14 r15=>.mk r0 r1 r r3 r4 r5 r6 r7 r8 r9 r10 r11 r12 r13 r14 r15) t)
  (T2.rec (motive:=λ_=>T2) (λr0 r1 r2 _ r4 r5 r6 r7 r8 r9 r10 r11 r12 r13 r14 r15=>.mk r0 r1 r2 r r4 r5 r6 r7 r8 r9 r10 r11 r12 r13 r14 r15) t)
  (T2.rec (motive:=λ_=>T2) (λr0 r1 r2 r3 _ r5 r6 r7 r8 r9 r10 r11 r12 r13 r14 r15=>.mk r0 r1 r2 r3 r r5 r6 r7 r8 r9 r10 r11 r12 r13 r14 r15) t)
  (T2.rec (motive:=λ_=>T2) (λr0 r1 r2 r3 r4 _ r6 r7 r8 r9 r10 r11 r12 r13 r14 r15=>.mk r0 r1 r2 r3 r4 r r6 r7 r8 r9 r10 r11 r12 r13 r14 r15) t)
  (T2.rec (motive:=λ_=>T2) (λr0 r1 r2 r3 r4 r5 _ r7 r8 r9 r10 r11 r12 r13 r14 r15=>.mk r0 r1 r2 r3 r4 r5 r r7 r8 r9 r10 r11 r12 r13 r14 r15) t)
  (T2.rec (motive:=λ_=>T2) (λr0 r1 r2 r3 r4 r5 r6 _ r8 r9 r10 r11 r12 r13 r14 r15=>.mk r0 r1 r2 r3 r4 r5 r6 r r8 r9 r10 r11 r12 r13 r14 r15) t)
  (T2.rec (motive:=λ_=>T2) (λr0 r1 r2 r3 r4 r5 r6 r7 _ r9 r10 r11 r12 r13 r14 r15=>.mk r0 r1 r2 r3 r4 r5 r6 r7 r r9 r10 r11 r12 r13 r14 r15) t)
  (T2.rec (motive:=λ_=>T2) (λr0 r1 r2 r3 r4 r5 r6 r7 r8 _ r10 r11 r12 r13 r14 r15=>.mk r0 r1 r2 r3 r4 r5 r6 r7 r8 r r10 r11 r12 r13 r14 r15) t)
  (T2.rec (motive:=λ_=>T2) (λr0 r1 r2 r3 r4 r5 r6 r7 r8 r9 _ r11 r12 r13 r14 r15=>.mk r0 r1 r2 r3 r4 r5 r6 r7 r8 r9 r r11 r12 r13 r14 r15) t)
  (T2.rec (motive:=λ_=>T2) (λr0 r1 r2 r3 r4 r5 r6 r7 r8 r9 r10 _ r12 r13 r14 r15=>.mk r0 r1 r2 r3 r4 r5 r6 r7 r8 r9 r10 r r12 r13 r14 r15) t)
  (T2.rec (motive:=λ_=>T2) (λr0 r1 r2 r3 r4 r5 r6 r7 r8 r9 r10 r11 _ r13 r14 r15=>.mk r0 r1 r2 r3 r4 r5 r6 r7 r8 r9 r10 r11 r r13 r14 r15) t)
  (T2.rec (motive:=λ_=>T2) (λr0 r1 r2 r3 r4 r5 r6 r7 r8 r9 r10 r11 r12 _ r14 r15=>.mk r0 r1 r2 r3 r4 r5 r6 r7 r8 r9 r10 r11 r12 r r14 r15) t)
  (T2.rec (motive:=λ_=>T2) (λr0 r1 r2 r3 r4 r5 r6 r7 r8 r9 r10 r11 r12 r13 _ r15=>.mk r0 r1 r2 r3 r4 r5 r6 r7 r8 r9 r10 r11 r12 r13 r r15) t)
  (T2.rec (motive:=λ_=>T2) (λr0 r1 r2 r3 r4 r5 r6 r7 r8 r9 r10 r11 r12 r13 r14 _=>.mk r0 r1 r2 r3 r4 r5 r6 r7 r8 r9 r10 r11 r12 r13 r14 r) t)
  s
noncomputable def get2 (q r : S16) (t : T2) : AV:=rg r (tg q t)
noncomputable def set2 (q r : S16) (t : T2) (v : AV) (k : T2 → RR) : RR:=rs r (tg q t) v λrow=>ts q t row k
noncomputable def set2p (q r : S16) (t : T2) (v : AV) : T2:=tset q t (rset r (tg q t) v)
theorem rs_eq (s : S16) (r : Row) (v : AV) (k : Row → RR) : rs s r v k = k (rset s r v):=by cases s <;> cases r <;> rfl
theorem ts_eq (s : S16) (t : T2) (r : Row) (k : T2 → RR) : ts s t r k = k (tset s t r):=by cases s <;> cases t <;> rfl
theorem set2_eq (q r : S16) (t : T2) (v : AV) (k : T2 → RR) : set2 q r t v k = k (set2p q r t v):=by unfold set2; rw [rs_eq,ts_eq]; rfl
theorem rg_same (s : S16) (r : Row) (v : AV) : rg s (rset s r v) = v:=by cases s <;> cases r <;> rfl
theorem tg_same (s : S16) (t : T2) (r : Row) : tg s (tset s t r) = r:=by cases s <;> cases t <;> rfl
theorem rg_ne {s s' : S16} (h : s ≠ s') (r : Row) (v : AV) : rg s (rset s' r v) = rg s r:=by cases r; cases s <;> cases s' <;> first | rfl | exact (h rfl).elim
theorem tg_ne {s s' : S16} (h : s ≠ s') (t : T2) (r : Row) : tg s (tset s' t r) = tg s t:=by cases t; cases s <;> cases s' <;> first | rfl | exact (h rfl).elim
theorem S16.inj {s s' : S16} (h : s.n = s'.n) : s = s':=by cases s <;> cases s' <;> first | rfl | (cases h; done)
theorem S16.lt (s : S16) : s.n < 16:=by cases s <;> decide
def S16.of (n : Nat) : S16:=match n with
  | 0=>.s0
  | 1=>.s1
  | 2=>.s2
  | 3=>.s3
  | 4=>.s4
  | 5=>.s5
  | 6=>.s6
  | 7=>.s7
  | 8=>.s8
  | 9=>.s9
  | 10=>.s10
  | 11=>.s11
  | 12=>.s12
  | 13=>.s13
  | 14=>.s14
  | _=>.s15
theorem S16.n_of {n : Nat} (h : n < 16) : (S16.of n).n = n:=by
  rcases (show n = 0 ∨ n = 1 ∨ n = 2 ∨ n = 3 ∨ n = 4 ∨ n = 5 ∨ n = 6 ∨ n = 7 ∨ n = 8 ∨ n = 9 ∨ n = 10 ∨ n = 11 ∨ n = 12 ∨ n = 13 ∨ n = 14 ∨ n = 15 by omega) with h | h | h | h | h | h | h | h | h | h | h | h | h | h | h | h <;> subst h <;> rfl
end Go.Ev
