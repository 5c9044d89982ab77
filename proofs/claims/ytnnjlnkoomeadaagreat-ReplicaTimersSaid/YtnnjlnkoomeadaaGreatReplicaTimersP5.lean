/-
  ReplicaTimers: part 5 of what the proof is made of.
-/
import Derived.Test.YtnnjlnkoomeadaaGreatReplicaTimersP4
set_option linter.unusedVariables false
set_option linter.unusedSimpArgs false
set_option linter.unusedSectionVars false
noncomputable section
open Int renaming reduceEq → zA,reduceNe → zB,reduceLT → zC,reduceLE → zD,reduceNeg → zE,reduceAdd → zF,reduceSub → zG,reduceToNat → zH
open Nat renaming reduceEqDiff → zI,reduceAdd → zJ,reduceMul → zK,reduceSub → zL,reduceLeDiff → zM,reduceBEq → zN,reduceLT → zO,reduceBneDiff → zP
namespace Go.Ev.Rp
open Go.Ev
structure Tx where
 l : Nat
 n : Nat
 wf : n < 256 ^ l
 deriving DecidableEq
abbrev Tx.sv (t : Tx) : SV:=.str t.l t.n
structure Pt where
 series : Tx
 time : Int
 value : Int
 deriving DecidableEq
structure Ent where
 view : Int
 client : Int
 session : Int
 number : Int
 batch : List Pt
 deriving DecidableEq
structure Lg where
 base : Int
 snap : Tx
 ents : List Ent
 deriving DecidableEq
structure Dv where
 frm : Int
 normal : Int
 commit : Int
 log : Lg
 deriving DecidableEq
structure Rep where
 me : Int
 nodes : Int
 view : Int
 normal : Int
 status : Int
 commit : Int
 sent : Bool
 log : Lg
 acks : List Int
 starts : List Int
 dos : List Dv
 deriving DecidableEq
structure Msg where
 kind : Int
 frm : Int
 to : Int
 view : Int
 normal : Int
 at' : Int
 commit : Int
 round : Int
 client : Int
 session : Int
 number : Int
 code : Int
 agg : Int
 until' : Int
 series : Tx
 batch : List Pt
 log : Lg
 text : Tx
 deriving DecidableEq
abbrev I (n : Int) : SV:=.int .i64 n
def ptC (p : Pt) : List SV:=[p.series.sv,I p.time,I p.value]
def intC (n : Int) : List SV:=[I n]
def PtsR (M : Fz) (x : SV) (l : List Pt) : Prop:=Sl M 3 x (l.map ptC)
def IntsR (M : Fz) (x : SV) (l : List Int) : Prop:=Sl M 1 x (l.map intC)
def entC (e : Ent) (b : SV) : List SV:=[I e.view,I e.client,I e.session,I e.number,b]
def EntR (M : Fz) (c : List SV) (e : Ent) : Prop:=∃ b,c = entC e b ∧ PtsR M b e.batch
def EntsR (M : Fz) (x : SV) (l : List Ent) : Prop:=∃ cs,Sl M 5 x cs ∧ All2 (EntR M) cs l
def lgC (l : Lg) (x : SV) : List SV:=[I l.base,l.snap.sv,x]
def dvC (d : Dv) (x : SV) : List SV:=[I d.frm,I d.normal,I d.commit,I d.log.base,d.log.snap.sv,x]
def DvR (M : Fz) (c : List SV) (d : Dv) : Prop:=∃ x,c = dvC d x ∧ EntsR M x d.log.ents
def DvsR (M : Fz) (x : SV) (l : List Dv) : Prop:=∃ cs,Sl M 6 x cs ∧ All2 (DvR M) cs l
def repC (r : Rep) (xe xa xs xd : SV) : List SV :=
 [I r.me,I r.nodes,I r.view,I r.normal,I r.status,I r.commit,.bool r.sent,I r.log.base,r.log.snap.sv,xe,xa,xs,xd]
def msgC (m : Msg) (xb xe : SV) : List SV :=
 [I m.kind,I m.frm,I m.to,I m.view,I m.normal,I m.at',I m.commit,I m.round,I m.client,I m.session,I m.number,I m.code,I m.agg,I m.until',m.series.sv,xb,I m.log.base,m.log.snap.sv,xe,m.text.sv]
def MsgR (M : Fz) (c : List SV) (m : Msg) : Prop:=∃ xb xe,c = msgC m xb xe ∧ PtsR M xb m.batch ∧ EntsR M xe m.log.ents
def MsgsR (M : Fz) (x : SV) (l : List Msg) : Prop:=∃ cs,Sl M 20 x cs ∧ All2 (MsgR M) cs l
section
variable {M M' : Fz} (hm : ∀ id B,M id = some B → M' id = some B)
include hm
theorem PtsR.mono {x : SV} {l : List Pt} (h : PtsR M x l) : PtsR M' x l:=Sl.mono h hm
theorem IntsR.mono {x : SV} {l : List Int} (h : IntsR M x l) : IntsR M' x l:=Sl.mono h hm
theorem EntR.mono {c : List SV} {e : Ent} (h : EntR M c e) : EntR M' c e:=let ⟨b,h1,h2⟩:=h; ⟨b,h1,PtsR.mono hm h2⟩
theorem EntsR.mono {x : SV} {l : List Ent} (h : EntsR M x l) : EntsR M' x l:=let ⟨cs,h1,h2⟩:=h; ⟨cs,h1.mono hm,h2.imp λ_ _ h=>EntR.mono hm h⟩
theorem DvR.mono {c : List SV} {d : Dv} (h : DvR M c d) : DvR M' c d:=let ⟨x,h1,h2⟩:=h; ⟨x,h1,EntsR.mono hm h2⟩
theorem DvsR.mono {x : SV} {l : List Dv} (h : DvsR M x l) : DvsR M' x l:=let ⟨cs,h1,h2⟩:=h; ⟨cs,h1.mono hm,h2.imp λ_ _ h=>DvR.mono hm h⟩
theorem MsgR.mono {c : List SV} {m : Msg} (h : MsgR M c m) : MsgR M' c m:=let ⟨xb,xe,h1,h2,h3⟩:=h; ⟨xb,xe,h1,PtsR.mono hm h2,EntsR.mono hm h3⟩
theorem MsgsR.mono {x : SV} {l : List Msg} (h : MsgsR M x l) : MsgsR M' x l:=let ⟨cs,h1,h2⟩:=h; ⟨cs,h1.mono hm,h2.imp λ_ _ h=>MsgR.mono hm h⟩
end
theorem PtsR.elem {M : Fz} {x : SV} {l : List Pt} (h : PtsR M x l) {i : Nat} (hi : i < l.length) : ∃ id off cap B,x = .osl id off l.length cap 3 ∧ M id = some B ∧ mkd B = false ∧ off + i * 3 + 3 ≤ B.length ∧ (B.drop (off + i * 3)).take 3 = ptC l[i]:=by
 obtain ⟨id,off,cap,B,h1,h2,h3,h4,h5⟩:=Sl.elem h (i:=i) (by simpa using hi)
 exact ⟨id,off,cap,B,by simpa using h1,h2,h3,h4,by simpa using h5⟩
theorem IntsR.elem {M : Fz} {x : SV} {l : List Int} (h : IntsR M x l) {i : Nat} (hi : i < l.length) : ∃ id off cap B,x = .osl id off l.length cap 1 ∧ M id = some B ∧ mkd B = false ∧ off + i * 1 + 1 ≤ B.length ∧ (B.drop (off + i * 1)).take 1 = [I l[i]]:=by
 obtain ⟨id,off,cap,B,h1,h2,h3,h4,h5⟩:=Sl.elem h (i:=i) (by simpa using hi)
 exact ⟨id,off,cap,B,by simpa using h1,h2,h3,h4,by simpa [intC] using h5⟩
theorem EntsR.elem {M : Fz} {x : SV} {l : List Ent} (h : EntsR M x l) {i : Nat} (hi : i < l.length) : ∃ id off cap B b,x = .osl id off l.length cap 5 ∧ M id = some B ∧ mkd B = false ∧ off + i * 5 + 5 ≤ B.length ∧ (B.drop (off + i * 5)).take 5 = entC l[i] b ∧ PtsR M b l[i].batch:=by
 obtain ⟨cs,h1,h2⟩:=h
 have hl:=h2.length
 obtain ⟨id,off,cap,B,g1,g2,g3,g4,g5⟩:=h1.elem (i:=i) (by omega)
 obtain ⟨b,e1,e2⟩:=h2.at (i:=i) (by omega) hi
 exact ⟨id,off,cap,B,b,by rw [← hl]; exact g1,g2,g3,g4,by rw [g5,e1],e2⟩
theorem DvsR.elem {M : Fz} {x : SV} {l : List Dv} (h : DvsR M x l) {i : Nat} (hi : i < l.length) : ∃ id off cap B b,x = .osl id off l.length cap 6 ∧ M id = some B ∧ mkd B = false ∧ off + i * 6 + 6 ≤ B.length ∧ (B.drop (off + i * 6)).take 6 = dvC l[i] b ∧ EntsR M b l[i].log.ents:=by
 obtain ⟨cs,h1,h2⟩:=h
 have hl:=h2.length
 obtain ⟨id,off,cap,B,g1,g2,g3,g4,g5⟩:=h1.elem (i:=i) (by omega)
 obtain ⟨b,e1,e2⟩:=h2.at (i:=i) (by omega) hi
 exact ⟨id,off,cap,B,b,by rw [← hl]; exact g1,g2,g3,g4,by rw [g5,e1],e2⟩
theorem PtsR.len {M : Fz} {x : SV} {l : List Pt} (h : PtsR M x l) : (∀ k,onLen x k = k l.length) ∧ x.isStr = false ∧ x.known = true ∧ x.isMk = false :=
 ⟨λk=>by have:=(Sl.len h (k:=k)).1; simpa using this,(Sl.len h (k:=λ_=>True)).2,(Sl.known h).1,(Sl.known h).2⟩
theorem IntsR.len {M : Fz} {x : SV} {l : List Int} (h : IntsR M x l) : (∀ k,onLen x k = k l.length) ∧ x.isStr = false ∧ x.known = true ∧ x.isMk = false :=
 ⟨λk=>by have:=(Sl.len h (k:=k)).1; simpa using this,(Sl.len h (k:=λ_=>True)).2,(Sl.known h).1,(Sl.known h).2⟩
theorem EntsR.len {M : Fz} {x : SV} {l : List Ent} (h : EntsR M x l) : (∀ k,onLen x k = k l.length) ∧ x.isStr = false ∧ x.known = true ∧ x.isMk = false:=by
 obtain ⟨cs,h1,h2⟩:=h
 exact ⟨λk=>by have:=(Sl.len h1 (k:=k)).1; rw [h2.length] at this; exact this,(Sl.len h1 (k:=λ_=>True)).2,(Sl.known h1).1,(Sl.known h1).2⟩
theorem DvsR.len {M : Fz} {x : SV} {l : List Dv} (h : DvsR M x l) : (∀ k,onLen x k = k l.length) ∧ x.isStr = false ∧ x.known = true ∧ x.isMk = false:=by
 obtain ⟨cs,h1,h2⟩:=h
 exact ⟨λk=>by have:=(Sl.len h1 (k:=k)).1; rw [h2.length] at this; exact this,(Sl.len h1 (k:=λ_=>True)).2,(Sl.known h1).1,(Sl.known h1).2⟩
def Qno (b : Nat) : Bool:=decide (97 ≤ b) && decide (b ≤ 122) || decide (48 ≤ b) && decide (b ≤ 57) || decide (b = 95)
def Qnc (l n i : Nat) : Nat:=n / 256 ^ (l - 1 - i) % 256
def nameB (t : Tx) : Bool:=decide (1 ≤ t.l) && decide (t.l ≤ 12) && (List.range t.l).all λi=>Qno (Qnc t.l t.n i)
def Qjy (x : Int) : Bool:=decide (-2147483648 ≤ x) && decide (x ≤ 2147483647)
def countB (x : Int) : Bool:=decide (0 ≤ x) && decide (x ≤ 2147483647)
def ptB (p : Pt) : Bool:=nameB p.series && Qjy p.time && Qjy p.value
def Qix (l : List Pt) : Bool:=decide (l.length ≤ 8) && l.all ptB
def entB (e : Ent) : Bool:=countB e.view && countB e.client && countB e.session && countB e.number && Qix e.batch && (decide (0 < e.session) || decide (e.batch.length = 0))
def lgB (l : Lg) : Bool:=countB l.base && decide (l.snap.l ≤ 65536) && (decide (l.base ≠ 0) || decide (l.snap.l = 0)) && decide (l.ents.length ≤ 4096) && l.ents.all entB
def last (l : Lg) : Int:=IntKind.i64.wrap (l.base + l.ents.length)
def Qid (k : Int) : Bool:=decide (k = 1) || decide (k = 3) || decide (k = 5) || decide (k = 7)
def Qfa (me k : Int) : Int → List Int → Bool
 | _,[]=>true
 | p,x :: l=>decide (p < x) && decide (x < k) && decide (x ≠ me) && Qfa me k x l
def dosB (r : Rep) : Bool:=r.dos.all λd=>lgB d.log && decide (0 ≤ d.normal) && decide (d.normal < r.view) && decide (0 ≤ d.commit)
def repB (r : Rep) : Bool :=
 Qid r.nodes && decide (0 ≤ r.me) && decide (r.me < r.nodes) && decide (0 ≤ r.status) && decide (r.status ≤ 2) && countB r.view && countB r.normal && countB r.commit &&
 decide (r.normal ≤ r.view) && (decide (r.status ≠ 0) || decide (r.normal = r.view)) && lgB r.log && decide (r.log.base ≤ r.commit) && decide (r.commit ≤ last r.log) &&
 decide ((r.acks.length : Int) = r.nodes) && r.acks.all countB && (decide (r.status = 1) || decide (r.starts.length = 0) && decide (r.dos.length = 0) && !r.sent) &&
 Qfa r.me r.nodes (-1) r.starts && Qfa r.me r.nodes (-1) (r.dos.map (·.frm)) && dosB r
end Go.Ev.Rp
namespace Go.Proofs.YtnnjlnkoomeadaaGreat.Pv
open Go.Ev Go.Ev.Rp
set_option maxRecDepth 100000
theorem small_eq (x : Int) : decide (x = IntKind.i64.wrap (IntKind.i32.wrap x)) = Qjy x:=by
 unfold Qjy
 have h1 : IntKind.i32.wrap x = (x + 2147483648) % 4294967296 - 2147483648:=by simp [IntKind.wrap,IntKind.bits,IntKind.signed]; omega
 have h2 : IntKind.i64.wrap (IntKind.i32.wrap x) = IntKind.i32.wrap x:=wrap64 (by rw [h1]; omega) (by rw [h1]; omega)
 rw [h2,h1,Bool.eq_iff_iff]
 simp; omega
abbrev BoolC (P : Program) (f : Nat) (args : List AV) (pre : Fz → Prop) (b : Bool) : Prop:=Ctr P f args pre λ_ _ _ v=>v = .one (.bool b)
theorem boolC {P : Program} {f : Nat} {af : AFunc} {args : List AV} {pre : Fz → Prop} {b : Bool} (hmx : P.follows .mixedOrders = true) (hf : FOk P f af) (fu : Nat) (h : ∀ fz mu n k,Free fz mu n → Gr n fz mu mu n n → pre (with' mu fz) → (∀ mu' n',Gr n fz mu mu' n n' → k (.one (.bool b)) mu' n') → textP P fu af args fz mu n k) : BoolC P f args pre b :=
 Ctr.of hmx hf (λ_=>fu) λfz mu n k h1 h2 h3=>h fz mu n k h1 (Gr.refl h1) h2 λmu' n' g=>h3 _ mu' n' g rfl
theorem Qsh (b : Nat) : Qno b = (decide ((97 : Int) ≤ b) && decide ((b : Int) ≤ 122) || (decide ((48 : Int) ≤ b) && decide ((b : Int) ≤ 57) || decide ((b : Int) = 95))):=by
 unfold Qno
 rw [Bool.eq_iff_iff]; simp; omega
theorem Qgr (t : Tx) : strEq t.l t.n 0 0 = decide (t.l = 0):=by
 rw [Bool.eq_iff_iff,Qgh,decide_eq_true_iff]
 refine ⟨λh=>h.1,λh=>⟨h,?_⟩⟩
 have:=t.wf
 rw [h] at this; simpa using this
theorem Qmq (b : Int) : Qid b = (decide (1 ≤ b) && decide (b ≤ 7) && decide (b.tmod 2 = 1)):=by
 unfold Qid
 rw [Bool.eq_iff_iff]
 simp only [Bool.or_eq_true,Bool.and_eq_true,decide_eq_true_eq]
 constructor
 ·rintro (((rfl | rfl) | rfl) | rfl) <;> decide
 ·rintro ⟨⟨h1,h2⟩,h3⟩
  rw [Int.tmod_eq_emod_of_nonneg (by omega)] at h3; omega
def meB (a b : Int) : Bool:=Qid b && decide (0 ≤ a) && decide (a < b)
variable {P : Program} (H : Fs P)
include H
theorem point_Small (x : Int) : BoolC P n_Qc3 [.one (I x)] (λ_=>True) (Qjy x):=boolC H.mx H.Qc3 0 λfz mu n k hfr g0 _ h=>by
 rw [i_Qc3,dc_at b_Qc3.eq_1]
 simp only [↓E1,E2,zA,zB,zC,zD,zE,zF,zG,zH,zI,zJ,zK,zL,zM,zN,reduceIte,zO,zP,small_eq]
 exact h _ _ g0
theorem point_Name (t : Tx) : BoolC P n_Qdd [.one t.sv] (fun _ => True) (nameB t) := boolC H.mx H.Qdd 14 fun fz mu n k hfr g0 _ h => by
 rw [i_Qdd,dc_at b_Qdd.eq_1]
 simp only [↓E1,E2,zA,zB,zC,zD,zE,zF,zG,zH,zI,zJ,zK,zL,zM,zN,reduceIte,zO,zP,Qgr]
 repeat' (refine Qdv (λhb=>?_) (λhb=>?_) <;> simp only [↓E1,E2,zA,zB,zC,zD,zE,zF,zG,zH,zI,zJ,zK,zL,zM,zN,reduceIte,zO,zP,hb])
 ·have e : nameB t = false:=by
   unfold nameB; simp at hb; simp [hb]
  rw [← e]; exact h _ _ g0
 ·have e : nameB t = false:=by
   unfold nameB; simp at hb
   have : ¬ t.l ≤ 12:=by omega
   simp [this]
  rw [← e]; exact h _ _ g0
 ·rename_i hb0
  have hl : t.l ≤ 12:=by simp at hb; omega
  have hl1 : 1 ≤ t.l:=by simp at hb0; omega
  refine scan (x:=0) (L:=t.l) (q:=0) (r:=14) (p:=λi=>Qno (Qnc t.l t.n i)) (λe mu n=>Free fz mu n ∧ e 0 0 = .one t.sv ∧ e 0 13 = .one (.int .i64 t.l)) (λe=>e 0 2 = .one (.bool false)) (λ_ _ _ h=>h.1) ?_ ?_ t.l 0 14 _ mu n _ _ (by omega) (by omega) (by omega) ⟨hfr,?_,?_⟩ ?_ ?_ ?_
  ·rintro i e mu n K hi ⟨hf,h0,h13⟩ hc hy hn
   rw [dc_at l_Qdd_0.eq_1]
   have hw:=Qdt hi (by omega)
   obtain ⟨b,hbe⟩ : ∃ b,t.n / 256 ^ (t.l - 1 - i) % 256 = b:=⟨_,rfl⟩
   rw [show Qnc t.l t.n i = b from hbe,Qsh] at hy hn
   simp only [↓E1,E2,zA,zB,zC,zD,zE,zF,zG,zH,zI,zJ,zK,zL,zM,zN,reduceIte,zO,zP,h0,h13,hc,hi,hbe]
   repeat' (refine Qdv (λhb=>?_) (λhb=>?_) <;> simp only [↓E1,E2,zA,zB,zC,zD,zE,zF,zG,zH,zI,zJ,zK,zL,zM,zN,reduceIte,zO,zP,hb,hc,hw,hbe])
   all_goals first
    | (refine hn (by simp only [↓E1,E2,zA,zB,zC,zD,zE,zF,zG,zH,zI,zJ,zK,zL,zM,zN,reduceIte,zO,zP, *]) _ _ _ (Gr.refl hf) ?_; simp [updN,updE]; done)
    | (refine hy (by simp only [↓E1,E2,zA,zB,zC,zD,zE,zF,zG,zH,zI,zJ,zK,zL,zM,zN,reduceIte,zO,zP, *]) _ _ _ (Gr.refl hf) ⟨hf,?_,?_⟩ ?_ <;> simp [updN,updE,h0,h13]; done)
  ·rintro e mu n K ⟨hf,h0,h13⟩ hc hx
   rw [dc_at l_Qdd_0.eq_1]
   have hlt : (t.l < t.l) = False:=by simp
   simp only [↓E1,E2,zA,zB,zC,zD,zE,zF,zG,zH,zI,zJ,zK,zL,zM,zN,reduceIte,zO,zP,h0,h13,hc,hlt]
   exact hx _ _ _ (Gr.refl hf) ⟨hf,by simp [updN,updE,h0],by simp [updN,updE,h13]⟩
  ·simp [updN,updE,envI]
  ·simp [updN,updE]
  ·simp [updN,updE]
  ·intro ha e' mu' n' g hI
   simp only [↓E1,E2,zA,zB,zC,zD,zE,zF,zG,zH,zI,zJ,zK,zL,zM,zN,reduceIte,zO,zP]
   have e : nameB t = true:=by
    unfold nameB; simp [hl,hl1,Qha ha]
   rw [← e]; exact h _ _ g
  ·intro hx e' mu' n' g hR
   simp only [↓E1,E2,zA,zB,zC,zD,zE,zF,zG,zH,zI,zJ,zK,zL,zM,zN,reduceIte,zO,zP,hR]
   have e : nameB t = false:=by
    unfold nameB; rw [Qe5 hx]; simp
   rw [← e]; exact h _ _ g
theorem point_May (p : Pt) : BoolC P n_Qdi [.ag (ptC p)] (λ_=>True) (ptB p):=boolC H.mx H.Qdi 0 λfz mu n k hfr gg _ h=>by
 rw [i_Qdi,dc_at b_Qdi.eq_1]
 unfold ptC
 simp only [↓E1,E2,zA,zB,zC,zD,zE,zF,zG,zH,zI,zJ,zK,zL,zM,zN,reduceIte,zO,zP]
 have hle:=Nat.le_refl n
 repeat' (first | ((with_reducible refine Qdv (λhb=>?_) (λhb=>?_)) <;> simp only [↓E1,E2,zA,zB,zC,zD,zE,zF,zG,zH,zI,zJ,zK,zL,zM,zN,reduceIte,zO,zP, *]) | ((with_reducible refine CPr_f (f:=n_Qdd) ?_); ((first | (refine (point_Name H p.series).d2 hfr (by first | trivial | assumption) ?_; rintro v mu2 n2 g2 rfl) | (refine (point_Name H p.series).d3 hfr (λhm=>by first | trivial) ?_; rintro v mu2 n2 g2 b1 rfl) | (refine (point_Name H p.series).c1 hfr (by first | trivial | assumption) ?_; rintro v mu2 n2 g2 rfl) | (refine (point_Name H p.series).c2 hfr (λhm=>by first | trivial) ?_; rintro v mu2 n2 g2 b1 rfl) | (refine (point_Name H p.series).c3 hfr (λhm=>by first | trivial) ?_; rintro v mu2 n2 g2 b1 b2 rfl)); (try replace b1:=g2.old hfr b1); replace gg:=gg.trans (g2.weaken hle); replace hle:=Nat.le_trans hle g2.le; replace hfr:=g2.free; clear g2; simp only [↓E1,E2,zA,zB,zC,zD,zE,zF,zG,zH,zI,zJ,zK,zL,zM,zN,reduceIte,zO,zP, *])) | ((with_reducible refine CPr_f (f:=n_Qc3) ?_); ((first | (refine (point_Small H _).d2 hfr (by first | trivial | assumption) ?_; rintro v mu2 n2 g2 rfl) | (refine (point_Small H _).d3 hfr (λhm=>by first | trivial) ?_; rintro v mu2 n2 g2 b1 rfl) | (refine (point_Small H _).c1 hfr (by first | trivial | assumption) ?_; rintro v mu2 n2 g2 rfl) | (refine (point_Small H _).c2 hfr (λhm=>by first | trivial) ?_; rintro v mu2 n2 g2 b1 rfl) | (refine (point_Small H _).c3 hfr (λhm=>by first | trivial) ?_; rintro v mu2 n2 g2 b1 b2 rfl)); (try replace b1:=g2.old hfr b1); replace gg:=gg.trans (g2.weaken hle); replace hle:=Nat.le_trans hle g2.le; replace hfr:=g2.free; clear g2; simp only [↓E1,E2,zA,zB,zC,zD,zE,zF,zG,zH,zI,zJ,zK,zL,zM,zN,reduceIte,zO,zP, *])))
 all_goals (refine leafB h (by first | exact gg | exact gg.cons hle _ | exact (gg.cons hle _).cons (Nat.le_succ_of_le hle) _) ?_; (try clear loop); (try clear u); clear h; first | (simp_all [ptB]; done) | (simp_all [ptB]; omega))
theorem point_Batch_1 (p : Pt) : BoolC P n_Qcf [.ag (ptC p)] (λ_=>True) (!ptB p):=boolC H.mx H.Qcf 0 λfz mu n k hfr g0 _ h=>by
 rw [i_Qcf,dc_at b_Qcf.eq_1]
 unfold ptC
 simp only [↓E1,E2,zA,zB,zC,zD,zE,zF,zG,zH,zI,zJ,zK,zL,zM,zN,reduceIte,zO,zP]
 refine (point_May H p).c1 (hfr.cons _) trivial ?_
 rintro v mu1 n1 g1 rfl
 simp only [↓E1,E2,zA,zB,zC,zD,zE,zF,zG,zH,zI,zJ,zK,zL,zM,zN,reduceIte,zO,zP]
 exact h _ _ ((g0.cons (Nat.le_refl _) _).trans (g1.weaken (Nat.le_succ _)))
theorem Qvb (g : Nat) (p : Pt → Bool) (hg : ∀ a,BoolC P g [.ag (ptC a)] (λ_=>True) (p a)) (x : SV) (l : List Pt) (hl : l.length ≤ 4611686018427387904) : Ctr P n_Qac [.one x,.one (.fn g [])] (λM=>PtsR M x l) (λ_ _ _ v=>∃ i : Int,v = .one (I i) ∧ decide (0 ≤ i) = l.any p) :=
 Ctr.of H.mx H.Qac (λ_=>l.length + 1) λfz mu n k hfr hx hk=>by
  obtain ⟨xl,xs,xk,xm⟩:=hx.len
  rw [i_Qac,dc_at b_Qac.eq_1]
  simp only [↓E1,E2,zA,zB,zC,zD,zE,zF,zG,zH,zI,zJ,zK,zL,zM,zN,reduceIte,zO,zP,xl,xs]
  refine scan (x:=0) (L:=l.length) (q:=0) (r:=8) (p:=λi=>!((l[i]?.map p).getD false)) (λe mu n=>Free fz mu n ∧ PtsR (with' mu fz) x l ∧ e 0 0 = .one x ∧ e 0 1 = .one (.fn g []) ∧ e 0 7 = .one (.int .i64 l.length)) (λe=>∃ j : Nat,e 0 4 = .one (I j)) (λ_ _ _ h=>h.1) ?_ ?_ l.length 0 (l.length + 1) _ mu n _ _ (by omega) (by omega) (by omega) ⟨hfr,hx,?_,?_,?_⟩ ?_ ?_ ?_
  ·rintro i e mu n K hi ⟨hf,hx,h0,h1,h7⟩ hc hy hn
   obtain ⟨id,off,cap,B,rfl,hB,hmk,hbd,hsub⟩:=hx.elem hi
   rw [dc_at l_Qac_0.eq_1]
   have hw:=Qdt hi hl
   simp only [↓E1,E2,zA,zB,zC,zD,zE,zF,zG,zH,zI,zJ,zK,zL,zM,zN,reduceIte,zO,zP,h0,h1,h7,hc,hi,hB,hmk,hbd,hsub]
   refine (hg l[i]).c1 hf trivial ?_
   rintro v mu' n' g rfl
   cases hp : p l[i] with
   | true =>
    simp only [↓E1,E2,zA,zB,zC,zD,zE,zF,zG,zH,zI,zJ,zK,zL,zM,zN,reduceIte,zO,zP]
    exact hn (by simp [hi,hp]) _ _ _ g ⟨i,by simp [updN,updE]⟩
   | false =>
    simp only [↓E1,E2,zA,zB,zC,zD,zE,zF,zG,zH,zI,zJ,zK,zL,zM,zN,reduceIte,zO,zP,hc,hw]
    exact hy (by simp [hi,hp]) _ _ _ g ⟨g.free,PtsR.mono (λid B h=>g.old hf h) hx,by simp [updN,updE,h0],by simp [updN,updE,h1],by simp [updN,updE,h7]⟩ (by simp [updN,updE])
  ·rintro e mu n K ⟨hf,hx,h0,h1,h7⟩ hc hy
   rw [dc_at l_Qac_0.eq_1]
   have hlt : (l.length < l.length) = False:=by simp
   simp only [↓E1,E2,zA,zB,zC,zD,zE,zF,zG,zH,zI,zJ,zK,zL,zM,zN,reduceIte,zO,zP,h0,h1,h7,hc,hlt]
   exact hy _ _ _ (Gr.refl hf) ⟨hf,hx,by simp [updN,updE,h0],by simp [updN,updE,h1],by simp [updN,updE,h7]⟩
  ·simp [updN,updE,envI]
  ·simp [updN,updE,envI]
  ·simp [updN,updE]
  ·simp [updN,updE]
  ·intro ha e' mu' n' g hI
   simp only [↓E1,E2,zA,zB,zC,zD,zE,zF,zG,zH,zI,zJ,zK,zL,zM,zN,reduceIte,zO,zP]
   refine hk _ _ _ g ⟨-1,rfl,?_⟩
   rw [any_no ha]; rfl
  ·rintro hx' e' mu' n' g ⟨j,hj⟩
   simp only [↓E1,E2,zA,zB,zC,zD,zE,zF,zG,zH,zI,zJ,zK,zL,zM,zN,reduceIte,zO,zP,hj]
   refine hk _ _ _ g ⟨j,rfl,?_⟩
   rw [Qsj hx']; simp
theorem Qnu (g : Nat) (p : Pt → Bool) (hg : ∀ a,BoolC P g [.ag (ptC a)] (λ_=>True) (p a)) (x : SV) (l : List Pt) (hl : l.length ≤ 4611686018427387904) : BoolC P n_Qaa [.one x,.one (.fn g [])] (λM=>PtsR M x l) (l.any p) :=
 boolC H.mx H.Qaa 0 λfz mu n k hfr g0 hx h=>by
  rw [i_Qaa,dc_at b_Qaa.eq_1]
  simp only [↓E1,E2,zA,zB,zC,zD,zE,zF,zG,zH,zI,zJ,zK,zL,zM,zN,reduceIte,zO,zP]
  refine (Qvb H g p hg x l hl).c1 hfr hx ?_
  rintro v mu1 n1 g1 ⟨i,rfl,hi⟩
  simp only [↓E1,E2,zA,zB,zC,zD,zE,zF,zG,zH,zI,zJ,zK,zL,zM,zN,reduceIte,zO,zP,hi]
  exact h _ _ g1
theorem Qrg (g : Nat) (p : Int → Bool) (hg : ∀ a,BoolC P g [.one (I a)] (λ_=>True) (p a)) (x : SV) (l : List Int) (hl : l.length ≤ 4611686018427387904) : Ctr P n_Qan [.one x,.one (.fn g [])] (λM=>IntsR M x l) (λ_ _ _ v=>∃ i : Int,v = .one (I i) ∧ decide (0 ≤ i) = l.any p) :=
 Ctr.of H.mx H.Qan (λ_=>l.length + 1) λfz mu n k hfr hx hk=>by
  obtain ⟨xl,xs,xk,xm⟩:=hx.len
  rw [i_Qan,dc_at b_Qan.eq_1]
  simp only [↓E1,E2,zA,zB,zC,zD,zE,zF,zG,zH,zI,zJ,zK,zL,zM,zN,reduceIte,zO,zP,xl,xs]
  refine scan (x:=0) (L:=l.length) (q:=0) (r:=8) (p:=λi=>!((l[i]?.map p).getD false)) (λe mu n=>Free fz mu n ∧ IntsR (with' mu fz) x l ∧ e 0 0 = .one x ∧ e 0 1 = .one (.fn g []) ∧ e 0 7 = .one (.int .i64 l.length)) (λe=>∃ j : Nat,e 0 4 = .one (I j)) (λ_ _ _ h=>h.1) ?_ ?_ l.length 0 (l.length + 1) _ mu n _ _ (by omega) (by omega) (by omega) ⟨hfr,hx,?_,?_,?_⟩ ?_ ?_ ?_
  ·rintro i e mu n K hi ⟨hf,hx,h0,h1,h7⟩ hc hy hn
   obtain ⟨id,off,cap,B,rfl,hB,hmk,hbd,hsub⟩:=hx.elem hi
   rw [dc_at l_Qan_0.eq_1]
   have hw:=Qdt hi hl
   simp only [↓E1,E2,zA,zB,zC,zD,zE,zF,zG,zH,zI,zJ,zK,zL,zM,zN,reduceIte,zO,zP,h0,h1,h7,hc,hi,hB,hmk,hbd,hsub]
   refine (hg l[i]).c1 hf trivial ?_
   rintro v mu' n' g rfl
   cases hp : p l[i] with
   | true =>
    simp only [↓E1,E2,zA,zB,zC,zD,zE,zF,zG,zH,zI,zJ,zK,zL,zM,zN,reduceIte,zO,zP]
    exact hn (by simp [hi,hp]) _ _ _ g ⟨i,by simp [updN,updE]⟩
   | false =>
    simp only [↓E1,E2,zA,zB,zC,zD,zE,zF,zG,zH,zI,zJ,zK,zL,zM,zN,reduceIte,zO,zP,hc,hw]
    exact hy (by simp [hi,hp]) _ _ _ g ⟨g.free,IntsR.mono (λid B h=>g.old hf h) hx,by simp [updN,updE,h0],by simp [updN,updE,h1],by simp [updN,updE,h7]⟩ (by simp [updN,updE])
  ·rintro e mu n K ⟨hf,hx,h0,h1,h7⟩ hc hy
   rw [dc_at l_Qan_0.eq_1]
   have hlt : (l.length < l.length) = False:=by simp
   simp only [↓E1,E2,zA,zB,zC,zD,zE,zF,zG,zH,zI,zJ,zK,zL,zM,zN,reduceIte,zO,zP,h0,h1,h7,hc,hlt]
   exact hy _ _ _ (Gr.refl hf) ⟨hf,hx,by simp [updN,updE,h0],by simp [updN,updE,h1],by simp [updN,updE,h7]⟩
  ·simp [updN,updE,envI]
  ·simp [updN,updE,envI]
  ·simp [updN,updE]
  ·simp [updN,updE]
  ·intro ha e' mu' n' g hI
   simp only [↓E1,E2,zA,zB,zC,zD,zE,zF,zG,zH,zI,zJ,zK,zL,zM,zN,reduceIte,zO,zP]
   refine hk _ _ _ g ⟨-1,rfl,?_⟩
   rw [any_no ha]; rfl
  ·rintro hx' e' mu' n' g ⟨j,hj⟩
   simp only [↓E1,E2,zA,zB,zC,zD,zE,zF,zG,zH,zI,zJ,zK,zL,zM,zN,reduceIte,zO,zP,hj]
   refine hk _ _ _ g ⟨j,rfl,?_⟩
   rw [Qsj hx']; simp
theorem Qfu (g : Nat) (p : Int → Bool) (hg : ∀ a,BoolC P g [.one (I a)] (λ_=>True) (p a)) (x : SV) (l : List Int) (hl : l.length ≤ 4611686018427387904) : BoolC P n_Qai [.one x,.one (.fn g [])] (λM=>IntsR M x l) (l.any p) :=
 boolC H.mx H.Qai 0 λfz mu n k hfr g0 hx h=>by
  rw [i_Qai,dc_at b_Qai.eq_1]
  simp only [↓E1,E2,zA,zB,zC,zD,zE,zF,zG,zH,zI,zJ,zK,zL,zM,zN,reduceIte,zO,zP]
  refine (Qrg H g p hg x l hl).c1 hfr hx ?_
  rintro v mu1 n1 g1 ⟨i,rfl,hi⟩
  simp only [↓E1,E2,zA,zB,zC,zD,zE,zF,zG,zH,zI,zJ,zK,zL,zM,zN,reduceIte,zO,zP,hi]
  exact h _ _ g1
theorem point_Batch (x : SV) (l : List Pt) : BoolC P n_Qcz [.one x] (λM=>PtsR M x l) (Qix l):=boolC H.mx H.Qcz 0 λfz mu n k hfr g0 hx h=>by
 obtain ⟨xl,xs,xk,xm⟩:=hx.len
 rw [i_Qcz,dc_at b_Qcz.eq_1]
 simp only [↓E1,E2,zA,zB,zC,zD,zE,zF,zG,zH,zI,zJ,zK,zL,zM,zN,reduceIte,zO,zP,xl,xs]
 refine Qdv (λhb=>?_) (λhb=>?_) <;> simp only [↓E1,E2,zA,zB,zC,zD,zE,zF,zG,zH,zI,zJ,zK,zL,zM,zN,reduceIte,zO,zP,hb]
 ·refine (Qnu H _ _ (point_Batch_1 H) x l (by simp at hb; omega)).c1 hfr hx ?_
  rintro v mu1 n1 g1 rfl
  simp only [↓E1,E2,zA,zB,zC,zD,zE,zF,zG,zH,zI,zJ,zK,zL,zM,zN,reduceIte,zO,zP,hb]
  have e : Qix l = !(l.any λp=>!ptB p):=by
   unfold Qix
   have : l.length ≤ 8:=by simp at hb; omega
   simp [this,List.all_eq_not_any_not]
  rw [← e]; exact h _ _ g1
 ·have e : Qix l = false:=by
   unfold Qix
   have : ¬ l.length ≤ 8:=by simp at hb; omega
   simp [this]
  rw [← e]; exact h _ _ g0
theorem message_MayEntry (e : Ent) (b : SV) : BoolC P n_Qbc [.ag (entC e b)] (λM=>PtsR M b e.batch) (entB e):=boolC H.mx H.Qbc 5 λfz mu n k hfr gg s1 h=>by
 obtain ⟨xl,xs,xk,xm⟩:=s1.len
 have u : ∀ en mu n k,dcode pOrc False (CP P) fz 5 l_Qbc_0 (tmE 40 en) mu n k = _:=λen mu n k=>dc_at l_Qbc_0.eq_1
 rw [i_Qbc,dc_at b_Qbc.eq_1]
 unfold entC
 simp only [↓E1,E2,zA,zB,zC,zD,zE,zF,zG,zH,zI,zJ,zK,zL,zM,zN,reduceIte,zO,zP,xl,xs,xk,xm,↓u,↓Qim]
 have hle:=Nat.le_refl n
 repeat' (first | ((with_reducible refine Qdv (λhb=>?_) (λhb=>?_)) <;> simp only [↓E1,E2,zA,zB,zC,zD,zE,zF,zG,zH,zI,zJ,zK,zL,zM,zN,reduceIte,zO,zP, *,↓u,↓Qim]) | ((with_reducible refine CPr_f (f:=n_Qcz) ?_); ((first | (refine (point_Batch H b e.batch).d2 hfr (by first | trivial | exact s1 | assumption) ?_; rintro v mu2 n2 g2 rfl) | (refine (point_Batch H b e.batch).d3 hfr (λhm=>by first | trivial | exact PtsR.mono hm s1) ?_; rintro v mu2 n2 g2 b1 rfl) | (refine (point_Batch H b e.batch).c1 hfr (by first | trivial | exact s1 | assumption) ?_; rintro v mu2 n2 g2 rfl) | (refine (point_Batch H b e.batch).c2 hfr (λhm=>by first | trivial | exact PtsR.mono hm s1) ?_; rintro v mu2 n2 g2 b1 rfl) | (refine (point_Batch H b e.batch).c3 hfr (λhm=>by first | trivial | exact PtsR.mono hm s1) ?_; rintro v mu2 n2 g2 b1 b2 rfl)); (try replace b1:=g2.old hfr b1); (try replace b2:=g2.old hfr b2); (try replace s1:=PtsR.mono (λ_ _ hh=>g2.old hfr hh) s1); replace gg:=gg.trans (g2.weaken hle); replace hle:=Nat.le_trans hle g2.le; replace hfr:=g2.free; clear g2; simp only [↓E1,E2,zA,zB,zC,zD,zE,zF,zG,zH,zI,zJ,zK,zL,zM,zN,reduceIte,zO,zP, *,↓u,↓Qim])))
 all_goals clear u
 all_goals (refine leafB h (by first | exact gg | exact gg.cons hle _ | exact (gg.cons hle _).cons (Nat.le_succ_of_le hle) _) ?_; (try clear loop); (try clear u); clear h; first | (simp_all [entB,countB]; done) | (simp_all [entB,countB]; omega))
theorem message_MayLog (l : Lg) (x : SV) : BoolC P n_Qb0 [.ag (lgC l x)] (fun M => EntsR M x l.ents) (lgB l) := boolC H.mx H.Qb0 4098 fun fz mu n k hfr gg s1 h => by
 obtain ⟨xl,xs,xk,xm⟩:=s1.len
 have loop : ∀ (e : Env) mu1 n1 (K : LK) w,l.ents.length ≤ 4096 → Gr n fz mu mu1 n n1 → EntsR (with' mu1 fz) x l.ents → e 2 4 = .one x → e 2 5 = .one (.int .i64 l.ents.length) → e 2 6 = .one (.int .i64 0) →
  (l.ents.all entB = true → ∀ e' mu' n',Gr n fz mu mu' n n' → K (.exit 0) (tmE 46 e') mu' n') → (l.ents.all entB = false → ∀ e' mu' n',Gr n fz mu mu' n n' → e' 0 2 = .one (.bool false) → K .ret (tmE 46 e') mu' n') →
  Lp (dcode pOrc False (CP P) fz 4098 l_Qb0_0) 4098 (tmE 46 e) mu1 n1 K w:=by
  intro e mu1 n1 K w hl g1 s1 i1 i2 i3 hd hr
  refine scan (x:=0) (L:=l.ents.length) (p:=λi=>(l.ents[i]?.map entB).getD true) (λe mu n=>Free fz mu n ∧ EntsR (with' mu fz) x l.ents ∧ e 2 4 = .one x ∧ e 2 5 = .one (.int .i64 l.ents.length)) (λe=>e 0 2 = .one (.bool false)) (λ_ _ _ h=>h.1) ?_ ?_ l.ents.length 0 4098 e mu1 n1 K w (by omega) (by omega) (by omega) ⟨g1.free,s1,i1,i2⟩ i3
   (λha e' mu' n' g _=>hd (Qkd ha) e' mu' n' (g1.trans (g.weaken g1.le))) (λha e' mu' n' g hR=>hr (Qgw ha) e' mu' n' (g1.trans (g.weaken g1.le)) hR)
  ·rintro i e mu n K hi ⟨hfr,s1,i1,i2⟩ hc hy hn
   obtain ⟨id,off,cap,B,bx,rfl,hB,hmk,hbd,hsub,s2⟩:=s1.elem hi
   have hw:=Qdt hi (by omega)
   have gg:=Gr.refl (lo:=n) hfr
   have hle:=Nat.le_refl n
   rw [dc_at l_Qb0_0.eq_1]
   obtain ⟨yl,ys,yk,ym⟩:=s2.len; unfold entC at hsub
   simp only [↓E1,E2,zA,zB,zC,zD,zE,zF,zG,zH,zI,zJ,zK,zL,zM,zN,reduceIte,zO,zP, *]
   repeat' (first | ((with_reducible refine Qdv (λhb=>?_) (λhb=>?_)) <;> simp only [↓E1,E2,zA,zB,zC,zD,zE,zF,zG,zH,zI,zJ,zK,zL,zM,zN,reduceIte,zO,zP, *]) | ((with_reducible refine CPr_f (f:=n_Qbc) ?_); ((first | (refine (message_MayEntry H l.ents[i] bx).d2 hfr (by first | trivial | exact s1 | exact s2 | assumption) ?_; rintro v mu2 n2 g2 rfl) | (refine (message_MayEntry H l.ents[i] bx).d3 hfr (λhm=>by first | trivial | exact EntsR.mono hm s1 | exact PtsR.mono hm s2) ?_; rintro v mu2 n2 g2 b1 rfl) | (refine (message_MayEntry H l.ents[i] bx).c1 hfr (by first | trivial | exact s1 | exact s2 | assumption) ?_; rintro v mu2 n2 g2 rfl) | (refine (message_MayEntry H l.ents[i] bx).c2 hfr (λhm=>by first | trivial | exact EntsR.mono hm s1 | exact PtsR.mono hm s2) ?_; rintro v mu2 n2 g2 b1 rfl) | (refine (message_MayEntry H l.ents[i] bx).c3 hfr (λhm=>by first | trivial | exact EntsR.mono hm s1 | exact PtsR.mono hm s2) ?_; rintro v mu2 n2 g2 b1 b2 rfl)); (try replace s1:=EntsR.mono (λ_ _ hh=>g2.old hfr hh) s1); (try replace s2:=PtsR.mono (λ_ _ hh=>g2.old hfr hh) s2); replace gg:=gg.trans (g2.weaken hle); replace hle:=Nat.le_trans hle g2.le; replace hfr:=g2.free; clear g2; simp only [↓E1,E2,zA,zB,zC,zD,zE,zF,zG,zH,zI,zJ,zK,zL,zM,zN,reduceIte,zO,zP, *])))
   all_goals first
    | (refine hy (by simp_all [entB]) _ _ _ (by first | exact gg | exact gg.cons hle _ | exact (gg.cons hle _).cons (Nat.le_succ_of_le hle) _) ⟨(by first | exact hfr | exact hfr.cons _ | exact (hfr.cons _).cons _),(by first | exact s1 | exact EntsR.mono (λ_ _ hh=>((Gr.refl (lo:=_) hfr).cons (Nat.le_refl _) _).old hfr hh) s1 | exact EntsR.mono (λ_ _ hh=>(((Gr.refl (lo:=_) hfr).cons (Nat.le_refl _) _).cons (Nat.le_succ _) _).old hfr hh) s1),by simp [updN,updE, *],by simp [updN,updE, *]⟩ (by simp [updN,updE, *]); done)
    | (refine hn (by simp_all [entB]) _ _ _ (by first | exact gg | exact gg.cons hle _ | exact (gg.cons hle _).cons (Nat.le_succ_of_le hle) _) (by simp [updN,updE, *]); done)
  ·rintro e mu n K ⟨hfr,s1,i1,i2⟩ hc hy
   rw [dc_at l_Qb0_0.eq_1]
   have hlt : (l.ents.length < l.ents.length) = False:=by simp
   simp only [↓E1,E2,zA,zB,zC,zD,zE,zF,zG,zH,zI,zJ,zK,zL,zM,zN,reduceIte,zO,zP, *]
   exact hy _ _ _ (Gr.refl hfr) ⟨hfr,s1,by simp [updN,updE, *],by simp [updN,updE, *]⟩
 rw [i_Qb0,dc_at b_Qb0.eq_1]
 unfold lgC
 simp only [↓E1,E2,zA,zB,zC,zD,zE,zF,zG,zH,zI,zJ,zK,zL,zM,zN,reduceIte,zO,zP,xl,xs,xk,xm,Qgr]
 have hle:=Nat.le_refl n
 repeat' (first | ((with_reducible refine Qdv (λhb=>?_) (λhb=>?_)) <;> simp only [↓E1,E2,zA,zB,zC,zD,zE,zF,zG,zH,zI,zJ,zK,zL,zM,zN,reduceIte,zO,zP, *,Qgr]))
 all_goals try (refine leafB h (gg.cons hle _) ?_; clear loop h; first | (simp_all [lgB,countB]; done) | (simp_all [lgB,countB]; omega))
 all_goals (refine loop _ _ _ _ _ (by clear loop h; first | assumption | (simp_all; omega) | (simp_all; done)) (by first | exact gg | exact gg.cons hle _ | exact (gg.cons hle _).cons (Nat.le_succ_of_le hle) _) (by first | exact s1 | exact EntsR.mono (λ_ _ hh=>((Gr.refl (lo:=_) hfr).cons (Nat.le_refl _) _).old hfr hh) s1 | exact EntsR.mono (λ_ _ hh=>(((Gr.refl (lo:=_) hfr).cons (Nat.le_refl _) _).cons (Nat.le_succ _) _).old hfr hh) s1) (by simp [updN,updE, *]) (by simp [updN,updE, *]) (by simp [updN,updE, *]) (λha e' mu' n' g=>?_) (λha e' mu' n' g hR=>?_) <;> simp only [↓E1,E2,zA,zB,zC,zD,zE,zF,zG,zH,zI,zJ,zK,zL,zM,zN,reduceIte,zO,zP, *] <;> (refine leafB h g ?_; (first | (simp_all [lgB,countB]; done) | (simp_all [lgB,countB]; omega))))
theorem repair_Nodes (a b : Int) : BoolC P n_Qcr [.one (I a),.one (I b)] (λ_=>True) (meB a b):=boolC H.mx H.Qcr 0 λfz mu n k hfr gg _ h=>by
 rw [i_Qcr,dc_at b_Qcr.eq_1]
 simp only [↓E1,E2,zA,zB,zC,zD,zE,zF,zG,zH,zI,zJ,zK,zL,zM,zN,reduceIte,zO,zP,← Qmq]
 have hle:=Nat.le_refl n
 repeat' (first | ((with_reducible refine Qdv (λhb=>?_) (λhb=>?_)) <;> simp only [↓E1,E2,zA,zB,zC,zD,zE,zF,zG,zH,zI,zJ,zK,zL,zM,zN,reduceIte,zO,zP, *]))
 all_goals (refine leafB h (by first | exact gg | exact gg.cons hle _ | exact (gg.cons hle _).cons (Nat.le_succ_of_le hle) _) ?_; (try clear loop); (try clear u); clear h; first | (simp_all [meB,Qmq]; done) | (simp_all [meB,Qmq]; omega))
theorem replica_within (x : Int) : BoolC P n_Qbz [.one (I x)] (λ_=>True) (countB x):=boolC H.mx H.Qbz 0 λfz mu n k hfr g0 _ h=>by
 rw [i_Qbz,dc_at b_Qbz.eq_1]
 simp only [↓E1,E2,zA,zB,zC,zD,zE,zF,zG,zH,zI,zJ,zK,zL,zM,zN,reduceIte,zO,zP]
 repeat' (refine Qdv (λhb=>?_) (λhb=>?_) <;> simp only [↓E1,E2,zA,zB,zC,zD,zE,zF,zG,zH,zI,zJ,zK,zL,zM,zN,reduceIte,zO,zP,hb])
 all_goals (have:=h _ _ g0; simp_all [countB])
theorem replica_May_1 (x : Int) : BoolC P n_Qcb [.one (I x)] (λ_=>True) (!countB x):=boolC H.mx H.Qcb 0 λfz mu n k hfr g0 _ h=>by
 rw [i_Qcb,dc_at b_Qcb.eq_1]
 simp only [↓E1,E2,zA,zB,zC,zD,zE,zF,zG,zH,zI,zJ,zK,zL,zM,zN,reduceIte,zO,zP]
 refine (replica_within H x).c1 hfr trivial ?_
 rintro v mu1 n1 g1 rfl
 simp only [↓E1,E2,zA,zB,zC,zD,zE,zF,zG,zH,zI,zJ,zK,zL,zM,zN,reduceIte,zO,zP]
 exact h _ _ g1
theorem choose_Last (l : Lg) (x : SV) : Ctr P n_Qcy [.ag (lgC l x)] (λM=>EntsR M x l.ents) (λ_ _ _ v=>v = .one (I (last l))):=Ctr.of H.mx H.Qcy (λ_=>0) λfz mu n k hfr hx hk=>by
 obtain ⟨xl,xs,xk,xm⟩:=hx.len
 rw [i_Qcy,dc_at b_Qcy.eq_1]
 unfold lgC
 simp only [↓E1,E2,zA,zB,zC,zD,zE,zF,zG,zH,zI,zJ,zK,zL,zM,zN,reduceIte,zO,zP,xl,xs,xk,xm]
 exact hk _ _ _ ((Gr.refl hfr).cons (Nat.le_refl _) _) rfl
end Go.Proofs.YtnnjlnkoomeadaaGreat.Pv
namespace Go.Ev
def Sub (G M : Fz) : Prop:=∀ id B,G id = some B → M id = some B
theorem Sub.refl (M : Fz) : Sub M M:=λ_ _ h=>h
theorem Sub.trans {A B C : Fz} (h : Sub A B) (k : Sub B C) : Sub A C:=λ_ _ g=>k _ _ (h _ _ g)
def From (n : Nat) (M : Fz) : Fz:=λj=>if n ≤ j then M j else none
theorem From.sub {n : Nat} {M : Fz} : Sub (From n M) M:=λid B h=>by unfold From at h; split at h; exact h; cases h
theorem From.mono {n : Nat} {M M' : Fz} (h : Sub M M') : Sub (From n M) (From n M'):=λid B g=>by
 unfold From at g ⊢
 split at g
 ·rename_i hle; rw [if_pos hle]; exact h _ _ g
 ·cases g
theorem From.le {n m : Nat} {M : Fz} (h : m ≤ n) : Sub (From n M) (From m M):=λid B g=>by
 unfold From at g ⊢
 split at g
 ·rename_i hle; rw [if_pos (by omega)]; exact g
 ·cases g
theorem From.at {n id : Nat} {M : Fz} {B : List SV} (h : n ≤ id) (g : M id = some B) : From n M id = some B:=by unfold From; rw [if_pos h]; exact g
theorem From.lt {n id : Nat} {M : Fz} {B : List SV} (h : From n M id = some B) : n ≤ id:=by
 unfold From at h; split at h
 ·assumption
 ·cases h
theorem Gr.sub {fz : Fz} {mu mu' : St} {n n' lo : Nat} (g : Gr lo fz mu mu' n n') (hf : Free fz mu n) (h : n ≤ lo) : Sub (with' mu fz) (with' mu' fz):=λid B hh=>(g.ext id (by have:=hf.lt hh; omega)).trans hh
theorem Qld {fz : Fz} {mu mu' : St} {n id : Nat} {B : List SV} (hf : Free fz mu n) (hi : n ≤ id) (h : with' mu' fz id = some B) : look mu' id = some B:=by
 have h0 : fz id = none:=by
  have:=hf.none hi
  rw [Qd6] at this
  cases e : look mu id with
  | none=>rw [e] at this; exact this
  | some c=>rw [e] at this; cases this
 rw [Qd6] at h
 cases e : look mu' id with
 | none=>rw [e,h0] at h; cases h
 | some c=>rw [e] at h; exact h
def SlX (M : Fz) (s : Nat) (x : SV) (es : List (List SV)) : Prop :=
 (x = .nsl ∨ x = .esl) ∧ es = [] ∨
 ∃ id,x = .osl id 0 es.length es.length s ∧ M id = some es.flatten ∧ mkd es.flatten = false ∧ ∀ e ∈ es,e.length = s ∧ Qdo e = true
theorem SlX.mono {M M' : Fz} {s : Nat} {x : SV} {es : List (List SV)} (h : SlX M s x es) (hm : Sub M M') : SlX M' s x es:=by
 rcases h with h | ⟨id,h1,h2,h3⟩
 ·exact .inl h
 ·exact .inr ⟨id,h1,hm id _ h2,h3⟩
theorem SlX.to {M : Fz} {s : Nat} {x : SV} {es : List (List SV)} (h : SlX M s x es) : Sl M s x es:=by
 rcases h with ⟨h,he⟩ | ⟨id,h1,h2,h3,h4⟩
 ·refine .inl ⟨?_,he⟩
  rcases h with h | h
  ·exact .inl h
  ·exact .inr (.inl h)
 ·refine .inr ⟨id,0,es.length,_,h1,Nat.le_refl _,h2,h3,?_,?_,h4⟩
  ·rw [Qen λe he=>(h4 e he).1]; omega
  ·rw [List.drop_zero,List.take_of_length_le]; rw [Qen λe he=>(h4 e he).1]; omega
theorem SlX.len {M : Fz} {s : Nat} {x : SV} {es : List (List SV)} (h : SlX M s x es) : (∀ k,onLen x k = k es.length) ∧ x.isStr = false ∧ x.known = true ∧ x.isMk = false :=
 ⟨λk=>(Sl.len h.to (k:=k)).1,(Sl.len h.to (k:=λ_=>True)).2,(Sl.known h.to).1,(Sl.known h.to).2⟩
theorem Qd5 {s : Nat} : ∀ {es : List (List SV)},(∀ e ∈ es,e.length = s ∧ Qdo e = true) → Qdo es.flatten = true
 | [],_=>rfl
 | e :: es,h=>by
  rw [List.flatten_cons,Qj6,(h e (by simp)).2,Qd5 (es:=es) λx hx=>h x (by simp [hx])]; rfl
theorem Qgx : ∀ {s : SV},s.known = true → s.isMk = false:=fun {s} h=>by cases s <;> first | rfl | cases h
theorem Qeq : ∀ {l : List SV},Qdo l = true → mkd l = false
 | [],_=>rfl
 | s :: l,h=>by
  rw [Qe8,Bool.and_eq_true] at h
  exact Qgx h.1
theorem Qf4 {M : Fz} {s : Nat} {x : SV} {es : List (List SV)} (h : Sl M s x es) {k : List SV → Nat → Prop} : onSrc M s x k = k es.flatten es.length ∧ Qdo es.flatten = true:=by
 rcases h with ⟨h,rfl⟩ | ⟨id,off,cap,B,rfl,h2,h3,h4,h5,h6,h7⟩
 ·rcases h with rfl | rfl | rfl <;> exact ⟨rfl,rfl⟩
 ·refine ⟨?_,Qd5 h7⟩
  rw [Qn1,show Nat.beq s s = true by simp,h3,Qks,h6]
  simp [Need,h4,h5]
theorem Qnp {mu : St} {n s b : Nat} {x : SV} {es : List (List SV)} {k : KT Prop} (hx : x = .nsl ∨ x = .esl) (hf : fits es.length b = true) (he : ∀ e ∈ es,e.length = s ∧ Qdo e = true)
 (h0 : es = [] → k (.one x) mu n) (h1 : es ≠ [] → k (.one (.osl n 0 es.length es.length s)) ((n,es.flatten) :: mu) (n + 1)) : onApp mu n s b x es.flatten es.length k:=by
 by_cases e : es = []
 ·subst e
  rcases hx with rfl | rfl
  ·exact h0 rfl
  ·exact h0 rfl
 ·have hl : es.length ≠ 0:=λh=>e (List.length_eq_zero_iff.1 h)
  rcases hx with rfl | rfl
  ·rw [Qoe hl]; exact ⟨hf,h1 e⟩
  ·rw [Qn0 hl]; exact ⟨hf,h1 e⟩
theorem Qg8 {mu : St} {n s b : Nat} {x : SV} {es fs : List (List SV)} {k : KT Prop} {G : Fz} (hx : SlX G s x es) (hG : ∀ id B,G id = some B → look mu id = some B) (hf : fits (es.length + fs.length) b = true) (hfs : fs ≠ []) (he : ∀ e ∈ fs,e.length = s ∧ Qdo e = true)
 (h1 : ∀ mu',(∀ j,j ≠ n → look mu' j = look mu j ∨ ∃ B,G j = some B ∧ (x = .osl j 0 es.length es.length s) ∧ look mu' j = none) → look mu' n = some (es ++ fs).flatten → k (.one (.osl n 0 (es ++ fs).length (es ++ fs).length s)) mu' (n + 1)) : onApp mu n s b x fs.flatten fs.length k:=by
 have hl : fs.length ≠ 0:=λh=>hfs (List.length_eq_zero_iff.1 h)
 rcases hx with ⟨h,rfl⟩ | ⟨id,rfl,h2,h3,h4⟩
 ·have hb : k (.one (.osl n 0 fs.length fs.length s)) ((n,fs.flatten) :: mu) (n + 1):=by
   have:=h1 ((n,fs.flatten) :: mu) (λj hj=>.inl (by rw [Qdw,if_neg (by omega)])) (by rw [Qdw,if_pos rfl]; rfl)
   simpa using this
  rw [List.length_nil,Nat.zero_add] at hf
  rcases h with rfl | rfl
  ·rw [Qoe hl]; exact ⟨hf,hb⟩
  ·rw [Qn0 hl]; exact ⟨hf,hb⟩
 ·have hlen : es.flatten.length = 0 + es.length * s:=by rw [Qen λe he=>(h4 e he).1]; omega
  rw [Qs8 hl (hG _ _ h2) h3 hlen]
  refine ⟨hf,?_⟩
  have:=h1 ((n,(es ++ fs).flatten) :: killS mu id) (λj hj=>?_) (by rw [Qdw,if_pos rfl])
  ·simpa using this
  ·rw [Qdw,if_neg (by omega),Qdz]
   by_cases e : id = j
   ·subst e; rw [if_pos rfl]; exact .inr ⟨_,h2,rfl,rfl⟩
   ·rw [if_neg e]; exact .inl rfl
def blk : SV → Option Nat
 | .osl id _ _ _ _=>some id
 | _=>none
def Ex (x : SV) (M : Fz) : Fz:=λj=>if blk x = some j then none else M j
theorem Ex.at {j : Nat} {x : SV} {M : Fz} {B : List SV} (h2 : blk x ≠ some j) (h : M j = some B) : Ex x M j = some B:=by
 unfold Ex; rw [if_neg h2]; exact h
theorem Ex.el {j : Nat} {x : SV} {M : Fz} {B : List SV} (h : Ex x M j = some B) : blk x ≠ some j ∧ M j = some B:=by
 unfold Ex at h
 split at h
 ·cases h
 ·rename_i hn; exact ⟨hn,h⟩
theorem Ex.sub {x : SV} {M : Fz} : Sub (Ex x M) M:=λ_ _ h=>(Ex.el h).2
theorem Ex.mono {x : SV} {M M' : Fz} (h : Sub M M') : Sub (Ex x M) (Ex x M'):=λ_ _ hj=>Ex.at (Ex.el hj).1 (h _ _ (Ex.el hj).2)
theorem From.el {n j : Nat} {M : Fz} {B : List SV} (h : From n M j = some B) : n ≤ j ∧ M j = some B:=⟨From.lt h,From.sub _ _ h⟩
def Grow {α : Type} (lo : Nat) (M : Fz) (s : Nat) (R : Fz → List SV → α → Prop) (x : SV) (l : List α) : Prop :=
 ∃ cs,SlX (From lo M) s x cs ∧ All2 (R (Ex x (From lo M))) cs l
theorem Grow.nil {α : Type} {lo : Nat} {M : Fz} {s : Nat} {R : Fz → List SV → α → Prop} : Grow lo M s R .nsl []:=⟨[],.inl ⟨.inl rfl,rfl⟩,trivial⟩
theorem Grow.len {α : Type} {lo : Nat} {M : Fz} {s : Nat} {R : Fz → List SV → α → Prop} {x : SV} {l : List α} (h : Grow lo M s R x l) : (∀ k,onLen x k = k l.length) ∧ x.isStr = false ∧ x.known = true ∧ x.isMk = false:=by
 obtain ⟨cs,h1,h2⟩:=h
 rw [← h2.length]; exact h1.len
theorem Qe1 {mu : St} {fz : Fz} {id : Nat} (h : fz id = none) : with' mu fz id = look mu id:=by
 rw [Qd6]; cases look mu id with
 | none=>exact h
 | some c=>rfl
theorem Qdq {mu mu' : St} {fz : Fz} {id : Nat} (h : look mu id = look mu' id) : with' mu fz id = with' mu' fz id:=by rw [Qd6,Qd6,h]
theorem Free.fz {fz : Fz} {mu : St} {n : Nat} (h : Free fz mu n) : ∀ j,n ≤ j → fz j = Option.none:=λj hj=>by
 have:=h.none hj
 rw [Qd6] at this
 cases e : Ev.look mu j with
 | none=>rw [e] at this; exact this
 | some c=>rw [e] at this; cases this
theorem Grow.more {α : Type} {R : Fz → List SV → α → Prop} (hR : ∀ {M M' c a}, Sub M M' → R M c a → R M' c a) {lo : Nat} {fz : Fz} {mu mu2 : St} {n n2 s b : Nat} {x : SV} {l : List α} {c : List SV} {a : α} {k : KT Prop}
 (G : Grow lo (with' mu fz) s R x l) (hfr : Free fz mu n) (hlo : lo ≤ n) (hfz : ∀ j,lo ≤ j → fz j = none) (g : Gr n fz mu mu2 n n2)
 (hc : R (From n (with' mu2 fz)) c a) (hcl : c.length = s ∧ Qdo c = true) (hf : fits (l.length + 1) b = true)
 (h1 : ∀ mu3,Gr lo fz mu mu3 n (n2 + 1) → Grow lo (with' mu3 fz) s R (.osl n2 0 (l.length + 1) (l.length + 1) s) (l ++ [a]) → k (.one (.osl n2 0 (l.length + 1) (l.length + 1) s)) mu3 (n2 + 1)) :
 onApp mu2 n2 s b x c 1 k:=by
 obtain ⟨cs,hx,hall⟩:=G
 have hl:=hall.length
 have key : onApp mu2 n2 s b x [c].flatten [c].length k:=by
  refine Qg8 (G:=From lo (with' mu fz)) hx (λid B h=>?_) (by rw [hl]; exact hf) (by simp) (by simpa using hcl) λmu3 ho hn=>?_
  ·obtain ⟨h2,h3⟩:=From.el h
   rw [g.own id (hfr.lt h3),← h3,Qe1 (hfz id h2)]
  ·have hkill : ∀ j,j ≠ n2 → (j < lo ∨ blk x ≠ some j ∨ n ≤ j) → look mu3 j = look mu2 j:=by
    intro j hj hd
    rcases ho j hj with h | ⟨B,h2,h3,h4⟩
    ·exact h
    ·exfalso
     obtain ⟨h5,h6⟩:=From.el h2
     have:=hfr.lt h6
     rcases hd with hd | hd | hd
     ·omega
     ·exact hd (by rw [h3]; rfl)
     ·omega
   have hle:=g.le
   have hM3 : with' mu3 fz n2 = some (cs ++ [c]).flatten:=Qdl hn
   have hlen : (cs ++ [c]).length = l.length + 1:=by simp [hl]
   rw [hlen]
   refine h1 mu3 ⟨by omega,λid hi=>?_,λid hi=>?_,λj=>?_⟩ ⟨cs ++ [c],?_,hall.imp (λc a h=>hR ?_ h) |>.append ⟨hR ?_ hc,trivial⟩⟩
   ·rw [Qdq (hkill id (by omega) (.inl hi))]; exact g.ext id (by omega)
   ·rw [hkill id (by omega) (.inl hi)]; exact g.own id (by omega)
   ·have h5:=g.free.none (id:=n2 + 1 + j) (by omega)
    rcases ho (n2 + 1 + j) (by omega) with h | ⟨B,h2,h3,h4⟩
    ·rw [Qdq h]; exact h5
    ·rw [Qd6,h4]; exact hfz _ (by omega)
   ·refine .inr ⟨n2,by rw [hlen],From.at (by omega) hM3,?_,?_⟩
    ·rcases hx with ⟨_,rfl⟩ | ⟨id,_,_,_,h4⟩
     ·simpa using Qeq hcl.2
     ·refine Qeq (Qd5 (s:=s) λe he=>?_)
      rcases List.mem_append.1 he with he | he
      ·exact h4 e he
      ·rw [List.mem_singleton.1 he]; exact hcl
    ·intro e he
     rcases List.mem_append.1 he with he | he
     ·rcases hx with ⟨_,rfl⟩ | ⟨id,_,_,_,h4⟩
      ·cases he
      ·exact h4 e he
     ·rw [List.mem_singleton.1 he]; exact hcl
   ·intro j B h
    obtain ⟨h3,h4⟩:=Ex.el h
    obtain ⟨h5,h6⟩:=From.el h4
    have h7:=hfr.lt h6
    refine Ex.at (λe=>?_) (From.at h5 ?_)
    ·have : n2 = j:=by simpa [blk] using e
     omega
    ·rw [Qdq (hkill j (by omega) (.inr (.inl h3))),g.ext j h7]; exact h6
   ·intro j B h
    obtain ⟨h5,h6⟩:=From.el h
    have h7:=g.free.lt h6
    refine Ex.at (λe=>?_) (From.at (by omega) ?_)
    ·have : n2 = j:=by simpa [blk] using e
     omega
    ·rw [Qdq (hkill j (by omega) (.inr (.inr h5)))]; exact h6
 simpa using key
theorem Grow.mono {α : Type} {R : Fz → List SV → α → Prop} (hR : ∀ {M M' c a},Sub M M' → R M c a → R M' c a) {lo : Nat} {M M' : Fz} {s : Nat} {x : SV} {l : List α} (G : Grow lo M s R x l) (h : Sub (From lo M) (From lo M')) : Grow lo M' s R x l:=by
 obtain ⟨cs,hx,hall⟩:=G
 exact ⟨cs,hx.mono h,hall.imp λc a hh=>hR (Ex.mono h) hh⟩
theorem From.put {lo : Nat} {fz : Fz} {mu : St} {ob : Nat} {d d' : List SV} (ho : ob < lo) (h : look mu ob = some d) : Sub (From lo (with' mu fz)) (From lo (with' (putS mu ob d') fz)):=λj B hj=>by
 obtain ⟨h5,h6⟩:=From.el hj
 exact From.at h5 (by rw [Qds h,if_neg (by omega)]; exact h6)
theorem Qf9 {fz : Fz} {mu : St} {n s b : Nat} {fs : List (List SV)} {k : KT Prop} (hfr : Free fz mu n) (hf : fits fs.length b = true) (he : ∀ e ∈ fs, e.length = s ∧ Qdo e = true)
 (h : ∀ x mu' n',Gr n fz mu mu' n n' → SlX (From n (with' mu' fz)) s x fs → k (.one x) mu' n') : onApp ((n,[]) :: mu) (n + 1) s b (.osl n 0 0 0 s) fs.flatten fs.length k:=by
 have g1 : Gr n fz mu ((n,[]) :: mu) n (n + 1):=(Gr.refl hfr).cons (Nat.le_refl _) _
 by_cases e : fs = []
 ·subst e
  show onApp ((n,[]) :: mu) (n + 1) s b (.osl n 0 0 0 s) [] 0 k
  rw [Qlz]
  exact h _ _ _ g1 (.inr ⟨n,rfl,From.at (Nat.le_refl _) (by rw [Qed,if_pos rfl]; rfl),rfl,λe he=>by cases he⟩)
 ·refine Qg8 (G:=From n (with' ((n,[]) :: mu) fz)) (es:=[]) (.inr ⟨n,rfl,From.at (Nat.le_refl _) (by rw [Qed,if_pos rfl]; rfl),rfl,λe he=>by cases he⟩) (λid B hh=>?_) (by simpa using hf) e he λmu3 ho hn=>?_
  ·obtain ⟨h1,h2⟩:=From.el hh
   rw [← h2,Qe1 (hfr.fz id h1)]
  ·have hs : ∀ j,j < n → look mu3 j = look mu j:=λj hj=>by
    rcases ho j (by omega) with h1 | ⟨B,h1,-⟩
    ·rw [h1,Qdw,if_neg (by omega)]
    ·have:=From.lt h1; omega
   refine h _ _ _ ⟨by omega,λid hi=>Qdq (hs id hi),λid hi=>hs id hi,λj=>?_⟩ (.inr ⟨n + 1,rfl,From.at (by omega) (Qdl hn),Qeq (Qd5 he),he⟩)
   rcases ho (n + 1 + 1 + j) (by omega) with h1 | ⟨B,h1,h2,h3⟩
   ·rw [Qdq h1]; exact g1.free.none (by omega)
   ·rw [Qd6,h3]; exact hfr.fz _ (by omega)
theorem app_nil {fz : Fz} {mu : St} {n s b : Nat} {x : SV} {fs : List (List SV)} {k : KT Prop} (hx : x = .nsl ∨ x = .esl) (hfr : Free fz mu n) (hf : fits fs.length b = true) (he : ∀ e ∈ fs,e.length = s ∧ Qdo e = true)
 (h : ∀ x mu' n',Gr n fz mu mu' n n' → SlX (From n (with' mu' fz)) s x fs → k (.one x) mu' n') : onApp mu n s b x fs.flatten fs.length k:=by
 refine Qnp hx hf he (λe=>?_) (λe=>?_)
 ·exact h _ _ _ (Gr.refl hfr) (.inl ⟨hx,e⟩)
 ·exact h _ _ _ ((Gr.refl hfr).cons (Nat.le_refl _) _) (.inr ⟨n,rfl,From.at (Nat.le_refl _) (by rw [Qed,if_pos rfl]),Qeq (Qd5 he),he⟩)
theorem Qel {mu : St} {fz : Fz} {id j : Nat} {c : List SV} (h : (look mu id).isSome = true) : with' (putS mu id c) fz j = if id = j then some c else with' mu fz j:=by
 obtain ⟨d,hd⟩:=Option.isSome_iff_exists.1 h
 exact Qds hd
theorem Qiz {id : Nat} {c d : List SV} : ∀ {mu : St},putS (putS mu id c) id d = putS mu id d
 | []=>rfl
 | (i,e) :: mu=>by
  rw [Qj7,Qj7]
  by_cases h : i = id
  ·rw [if_pos h,if_pos h,Qj7,if_pos h]
  ·rw [if_neg h,if_neg h,Qj7,if_neg h,Qiz]
set_option linter.defProp false in
def E3:=And.intro @Qel (And.intro @Qdm (And.intro @Qiz (And.intro @Option.isSome_some.{0} @Option.map_some.{0,0})))
theorem Grow.weaken {α : Type} {R : Fz → List SV → α → Prop} (hR : ∀ {M M' c a},Sub M M' → R M c a → R M' c a) {lo lo' : Nat} {M : Fz} {s : Nat} {x : SV} {l : List α} (h : lo' ≤ lo) (G : Grow lo M s R x l) : Grow lo' M s R x l:=by
 obtain ⟨cs,hx,hall⟩:=G
 exact ⟨cs,hx.mono (From.le h),hall.imp λc a hh=>hR (Ex.mono (From.le h)) hh⟩
theorem Ctr.mono {P : Program} {f : Nat} {args : List AV} {pre : Fz → Prop} {post post' : Nat → Nat → Fz → AV → Prop} (h : Ctr P f args pre post) (hp : ∀ n n' M v,post n n' M v → post' n n' M v) : Ctr P f args pre post' :=
 λfz mu n k hf hpre hk=>h fz mu n k hf hpre λv mu' n' g hpost=>hk v mu' n' g (hp _ _ _ _ hpost)
theorem lookI {mu : St} {id : Nat} {c : List SV} (h : look mu id = some c) : (look mu id).isSome = true:=by rw [h]; rfl
end Go.Ev
namespace Go.Proofs.YtnnjlnkoomeadaaGreat.Pv
open Go.Ev Go.Ev.Rp
set_option maxRecDepth 100000
set_option maxHeartbeats 4000000
def PtsX (M : Fz) (x : SV) (l : List Pt) : Prop:=SlX M 3 x (l.map ptC)
def IntsX (M : Fz) (x : SV) (l : List Int) : Prop:=SlX M 1 x (l.map intC)
def EntX (M : Fz) (c : List SV) (e : Ent) : Prop:=∃ b,c = entC e b ∧ PtsX M b e.batch
def EntsX (M : Fz) (x : SV) (l : List Ent) : Prop:=∃ cs,SlX M 5 x cs ∧ All2 (EntX M) cs l
def DvX (M : Fz) (c : List SV) (d : Dv) : Prop:=∃ x,c = dvC d x ∧ EntsX M x d.log.ents
section
variable {M M' : Fz} (hm : Sub M M')
include hm
theorem PtsX.mono {x : SV} {l : List Pt} (h : PtsX M x l) : PtsX M' x l:=SlX.mono h hm
theorem IntsX.mono {x : SV} {l : List Int} (h : IntsX M x l) : IntsX M' x l:=SlX.mono h hm
theorem EntX.mono {c : List SV} {e : Ent} (h : EntX M c e) : EntX M' c e:=let ⟨b,h1,h2⟩:=h; ⟨b,h1,PtsX.mono hm h2⟩
theorem EntsX.mono {x : SV} {l : List Ent} (h : EntsX M x l) : EntsX M' x l:=let ⟨cs,h1,h2⟩:=h; ⟨cs,SlX.mono h1 hm,h2.imp λ_ _ h=>EntX.mono hm h⟩
theorem DvX.mono {c : List SV} {d : Dv} (h : DvX M c d) : DvX M' c d:=let ⟨x,h1,h2⟩:=h; ⟨x,h1,EntsX.mono hm h2⟩
end
section
variable {M : Fz}
theorem PtsX.to {x : SV} {l : List Pt} (h : PtsX M x l) : PtsR M x l:=SlX.to h
theorem IntsX.to {x : SV} {l : List Int} (h : IntsX M x l) : IntsR M x l:=SlX.to h
theorem EntX.to {c : List SV} {e : Ent} (h : EntX M c e) : EntR M c e:=let ⟨b,h1,h2⟩:=h; ⟨b,h1,h2.to⟩
theorem EntsX.to {x : SV} {l : List Ent} (h : EntsX M x l) : EntsR M x l:=let ⟨cs,h1,h2⟩:=h; ⟨cs,h1.to,h2.imp λ_ _ h=>h.to⟩
theorem DvX.to {c : List SV} {d : Dv} (h : DvX M c d) : DvR M c d:=let ⟨x,h1,h2⟩:=h; ⟨x,h1,h2.to⟩
end
theorem pt_ok {l : List Pt} : ∀ e ∈ l.map ptC,e.length = 3 ∧ Qdo e = true:=by
 intro e he
 obtain ⟨p,_,rfl⟩:=List.mem_map.1 he
 exact ⟨rfl,rfl⟩
theorem Qg0 {l : List Int} : ∀ e ∈ l.map intC,e.length = 1 ∧ Qdo e = true:=by
 intro e he
 obtain ⟨p,_,rfl⟩:=List.mem_map.1 he
 exact ⟨rfl,rfl⟩
theorem SlX.mk_new {M : Fz} {s id : Nat} {es : List (List SV)} (h1 : M id = some es.flatten) (h2 : ∀ e ∈ es,e.length = s ∧ Qdo e = true) : SlX M s (.osl id 0 es.length es.length s) es :=
 .inr ⟨id,rfl,h1,Qeq (Qd5 h2),h2⟩
theorem Qef {n b : Nat} (h : n * b ≤ 140737488355328) (h1 : 1 ≤ b) (h2 : b ≤ 65536) : fits n b = true:=by
 unfold fits
 cases Nat.ble (Nat.mul n (Nat.succ b)) roomy with
 | true=>rfl
 | false =>
  have e1 : Nat.ble (Nat.mul n b) 140737488355328 = true:=by rw [Nat.ble_eq]; exact h
  have e2 : Nat.ble 1 b = true:=by rw [Nat.ble_eq]; exact h1
  have e3 : Nat.ble b 65536 = true:=by rw [Nat.ble_eq]; exact h2
  rw [e1,e2,e3]; rfl
theorem sub1 {fz : Fz} {mu : St} {n : Nat} (hfr : Free fz mu n) {c : List SV} : Sub (with' mu fz) (with' ((n,c) :: mu) fz):=λ_ _ hh=>((Gr.refl (lo:=n) hfr).cons (Nat.le_refl _) _).old hfr hh
theorem sub2 {fz : Fz} {mu : St} {n : Nat} (hfr : Free fz mu n) {c d : List SV} : Sub (with' mu fz) (with' ((n + 1,d) :: (n,c) :: mu) fz):=λ_ _ hh=>(((Gr.refl (lo:=n) hfr).cons (Nat.le_refl _) _).cons (Nat.le_succ _) _).old hfr hh
theorem gr1 {fz : Fz} {mu : St} {n : Nat} (hfr : Free fz mu n) {c : List SV} : Gr n fz mu ((n,c) :: mu) n (n + 1):=(Gr.refl hfr).cons (Nat.le_refl _) _
theorem gr2 {fz : Fz} {mu : St} {n : Nat} (hfr : Free fz mu n) {c d : List SV} : Gr n fz mu ((n + 1,d) :: (n,c) :: mu) n (n + 2):=(gr1 hfr).cons (Nat.le_succ _) _
theorem gr3 {fz : Fz} {mu : St} {n : Nat} (hfr : Free fz mu n) {c d e : List SV} : Gr n fz mu ((n + 2,e) :: (n + 1,d) :: (n,c) :: mu) n (n + 3):=(gr2 hfr).cons (by omega) _
variable {P : Program} (H : Fs P)
include H
theorem message_CloneEntry (e : Ent) (b : SV) (hb : e.batch.length ≤ 4398046511104) : Ctr P n_Qav [.ag (entC e b)] (λM=>PtsR M b e.batch) (λn _ M v=>∃ b',v = .ag (entC e b') ∧ PtsX (From n M) b' e.batch):=Ctr.of H.mx H.Qav (λ_=>0) λfz mu n k hfr s1 hk=>by
 obtain ⟨xl,xs,xk,xm⟩:=s1.len
 rw [i_Qav,dc_at b_Qav.eq_1]
 unfold entC
 simp only [↓E1,E2,zA,zB,zC,zD,zE,zF,zG,zH,zI,zJ,zK,zL,zM,zN,reduceIte,zO,zP, *]
 obtain ⟨h1,h2⟩:=Qf4 (Sl.mono s1 (sub2 hfr (c:=[I e.view,I e.client,I e.session,I e.number,b]) (d:=[I 0,I 0,I 0,I 0,.nsl])))
 rw [h1]
 refine ⟨h2,Qnp (.inl rfl) (Qef (by simp; omega) (by decide) (by decide)) pt_ok (λhe=>?_) (λhe=>?_)⟩
 ·simp only [↓E1,E2,zA,zB,zC,zD,zE,zF,zG,zH,zI,zJ,zK,zL,zM,zN,reduceIte,zO,zP, *]
  exact hk _ _ _ (gr2 hfr) ⟨.nsl,rfl,.inl ⟨.inl rfl,he⟩⟩
 ·simp only [↓E1,E2,zA,zB,zC,zD,zE,zF,zG,zH,zI,zJ,zK,zL,zM,zN,reduceIte,zO,zP, *]
  exact hk _ _ _ (gr3 hfr) ⟨_,rfl,SlX.mk_new (From.at (by omega) (by rw [Qed,if_pos rfl])) pt_ok⟩
end Go.Proofs.YtnnjlnkoomeadaaGreat.Pv
namespace Go.Proofs.YtnnjlnkoomeadaaGreat.Pv
open Go.Ev Go.Ev.Rp
set_option maxRecDepth 100000
set_option maxHeartbeats 4000000
variable {P : Program} (H : Fs P)
include H
theorem Qm9 (l : Lg) (x : SV) {fz : Fz} {mu0 : St} {n0 lo : Nat} (hfr0 : Free fz mu0 n0) (s1 : EntsR (with' mu0 fz) x l.ents) (hL : l.ents.length ≤ 2513169434916) (hb : ∀ e ∈ l.ents,e.batch.length ≤ 4398046511104) (ob : Nat) (xe : SV) (i : Nat) (hi : i < l.ents.length) {fu : Nat} {e : Env} {mu : St} {n : Nat} {K : LK}
 (hfr : Free fz mu n) (hlo : n0 ≤ lo ∧ lo ≤ n) (g0 : Gr n0 fz mu0 mu n0 n) (b1 : Ev.look mu ob = some [I l.base,l.snap.sv,xe]) (hob : n0 ≤ ob ∧ ob < lo) (G : Grow lo (with' mu fz) 5 EntX xe (l.ents.take i)) (h3 : e 0 3 = .one (.optr ob 0)) (h12 : e 0 12 = .one x) (h13 : e 0 13 = .one (.int .i64 l.ents.length)) (h14 : e 0 14 = .one (.int .i64 i))
 (hK : ∀ e' mu' n' xe',Gr n0 fz mu0 mu' n0 n' → lo ≤ n' → Ev.look mu' ob = some [I l.base,l.snap.sv,xe'] → (∀ j,j < lo → j ≠ ob → Ev.look mu' j = Ev.look mu j) → Grow lo (with' mu' fz) 5 EntX xe' (l.ents.take (i + 1)) → e' 0 2 = e 0 2 → e' 0 3 = .one (.optr ob 0) → e' 0 12 = .one x → e' 0 13 = .one (.int .i64 l.ents.length) → e' 0 14 = .one (.int .i64 ((i + 1 : Nat) : Int)) → K .normal (tmE 27 e') mu' n') :
 dcode pOrc False (CP P) fz fu l_Qbj_0 (tmE 27 e) mu n K:=by
 obtain ⟨id,off,cap,B,b,rfl,hB,hmk,hbd,hsub,s2⟩:=(EntsR.mono (λ_ _ hh=>g0.old hfr0 hh) s1).elem hi
 have hw:=Qdt hi (by omega)
 have b2:=Qdl (fz:=fz) b1
 have hno : (n = ob) = False:=by simp; omega
 obtain ⟨yl,ys,yk,ym⟩:=s2.len
 obtain ⟨-,-,zk,zm⟩:=G.len
 have hE:=message_CloneEntry H l.ents[i] b (hb _ (List.getElem_mem hi))
 unfold entC at hsub hE
 rw [dc_at l_Qbj_0.eq_1]
 simp only [↓E1,E2,zA,zB,zC,zD,zE,zF,zG,zH,zI,zJ,zK,zL,zM,zN,reduceIte,zO,zP, *]
 refine hE.d3 hfr (λhm=>s2.mono hm) ?_
 rintro v new n2 g2 bx1 ⟨b',rfl,hb'⟩
 simp only [↓E1,E2,zA,zB,zC,zD,zE,zF,zG,zH,zI,zJ,zK,zL,zM,zN,reduceIte,zO,zP, *]
 have yk':=(SlX.len hb').2.2.1
 have hli : (l.ents.take i).length = i:=by rw [List.length_take]; omega
 refine ⟨yk',yk',Grow.more (R:=EntX) (λh g=>EntX.mono h g) (a:=l.ents[i]) G hfr hlo.2 (λj hj=>hfr0.fz j (by omega)) (g2.cons g2.le _) ⟨b',rfl,PtsX.mono ((From.mono (sub1 g2.free)).trans (From.le (by omega))) hb'⟩ ⟨rfl,by simp only [↓E1,E2,zA,zB,zC,zD,zE,zF,zG,zH,zI,zJ,zK,zL,zM,zN,reduceIte,zO,zP,yk']⟩ (by rw [hli]; exact Qef (by omega) (by decide) (by decide)) (λmu3 g3 G3=>?_)⟩
 have b3 : Ev.look mu3 ob = some [I l.base,l.snap.sv,xe]:=by
  rw [g3.own ob hob.2]; exact b1
 rw [hli] at G3 ⊢
 simp only [↓E1,E2,zA,zB,zC,zD,zE,zF,zG,zH,zI,zJ,zK,zL,zM,zN,reduceIte,zO,zP, *]
 refine hK _ _ _ _ ((g0.trans (g3.weaken hlo.1)).put hob.1 b3) (by have:=g2.le; omega) (by rw [Qdm,if_pos rfl,b3]; rfl) (λj hj hne=>by rw [Qdm,if_neg (by omega)]; exact g3.own j hj) (Grow.mono (R:=EntX) (λh g=>EntX.mono h g) ?_ (From.put hob.2 b3)) ?_ ?_ ?_ ?_ ?_
 ·rw [List.take_add_one,List.getElem?_eq_getElem hi]; exact G3
 all_goals simp [updN,updE, *]
omit H in
theorem Qke {lo : Nat} {M : Fz} {x : SV} {l : List Ent} (h : Grow lo M 5 EntX x l) : EntsX (From lo M) x l:=let ⟨cs,h1,h2⟩:=h; ⟨cs,h1,h2.imp λ_ _ g=>EntX.mono Ex.sub g⟩
theorem Qer (l : Lg) (x : SV) (hL : l.ents.length ≤ 2513169434916) (hb : ∀ e ∈ l.ents,e.batch.length ≤ 4398046511104) : Ctr P n_Qbj [.ag (lgC l x)] (λM=>EntsR M x l.ents) (λn _ M v=>∃ x',v = .ag (lgC l x') ∧ Grow n M 5 EntX x' l.ents):=Ctr.of H.mx H.Qbj (λ_=>l.ents.length + 1) λfz mu n k hfr s1 hk=>by
 obtain ⟨xl,xs,xk,xm⟩:=s1.len
 rw [i_Qbj,dc_at b_Qbj.eq_1]
 unfold lgC
 simp only [↓E1,E2,zA,zB,zC,zD,zE,zF,zG,zH,zI,zJ,zK,zL,zM,zN,reduceIte,zO,zP, *]
 refine loopI (x:=0) (L:=l.ents.length) (p:=λ_=>true) (λi e mu' n'=>∃ xe,Gr n fz mu mu' n n' ∧ n + 3 ≤ n' ∧ Ev.look mu' (n + 1) = some [I 0,.str 0 0,.nsl] ∧ Ev.look mu' (n + 1 + 1) = some [I l.base,l.snap.sv,xe] ∧ Grow (n + 3) (with' mu' fz) 5 EntX xe (l.ents.take i) ∧ e 0 2 = .one (.optr (n + 1) 0) ∧ e 0 3 = .one (.optr (n + 1 + 1) 0) ∧ e 0 12 = .one x ∧ e 0 13 = .one (.int .i64 l.ents.length) ∧ e 0 14 = .one (.int .i64 i)) (λ_ _ _=>False) ?_ ?_ _ _ _ _ _ (by omega) ?_ ?_ ?_
 ·rintro i e mu1 n1 K hi ⟨xe,g1,c2,c1,c3,c4,c5,c6,c7,c8,c9⟩ hy hn
  exact Qm9 H l x hfr s1 hL hb (n + 1 + 1) xe i hi g1.free ⟨by omega,c2⟩ g1 c3 (by omega) c4 c6 c7 c8 c9 (λe' mu' n' xe' g' a0 a1 a2 a3 a4 a5 a6 a7 a8=>hy rfl _ _ _ ⟨xe',g',a0,(a2 _ (by omega) (by omega)).trans c1,a1,a3,a4.trans c5,a5,a6,a7,a8⟩)
 ·rintro e mu1 n1 K ⟨xe,g1,c2,c1,c3,c4,c5,c6,c7,c8,c9⟩ hx
  rw [dc_at l_Qbj_0.eq_1]
  have hlt : (l.ents.length < l.ents.length) = False:=by simp
  simp only [↓E1,E2,zA,zB,zC,zD,zE,zF,zG,zH,zI,zJ,zK,zL,zM,zN,reduceIte,zO,zP, *]
  exact hx _ _ _ ⟨xe,g1,c2,c1,c3,c4,by simp [updN,updE,c5],by simp [updN,updE,c6],by simp [updN,updE,c7],by simp [updN,updE,c8],by simp [updN,updE,c9]⟩
 ·exact ⟨.nsl,gr3 hfr,by omega,by simp [Qdw],by simp [Qdw],Grow.nil,by simp [updN,updE],by simp [updN,updE],by simp [updN,updE],by simp [updN,updE],by simp [updN,updE]⟩
 ·rintro - e1 mu1 n1 ⟨xe,g1,c2,c1,c3,c4,c5,c6,c7,c8,c9⟩
  have b3:=Qdl (fz:=fz) c3
  obtain ⟨-,-,zk,zm⟩:=c4.len
  simp only [↓E1,E2,zA,zB,zC,zD,zE,zF,zG,zH,zI,zJ,zK,zL,zM,zN,reduceIte,zO,zP, *]
  have g2:=g1.put (id:=n + 1) (by omega) c1 (c:=[I l.base,l.snap.sv,xe])
  have e1 : with' (putS mu1 (n + 1) [I l.base,l.snap.sv,xe]) fz (n + 1) = some [I l.base,l.snap.sv,xe]:=by rw [Qds c1,if_pos rfl]
  simp only [↓E1,E2,zA,zB,zC,zD,zE,zF,zG,zH,zI,zJ,zK,zL,zM,zN,reduceIte,zO,zP, *]
  rw [List.take_length] at c4
  exact hk _ _ _ g2 ⟨xe,rfl,Grow.weaken (R:=EntX) (lo:=n + 3) (lo':=n) (λh g=>EntX.mono h g) (by omega) (Grow.mono (R:=EntX) (λh g=>EntX.mono h g) c4 (From.put (by omega) c1))⟩
 ·rintro ⟨_,_,_,h⟩; cases h
theorem message_CloneLog (l : Lg) (x : SV) (hL : l.ents.length ≤ 2513169434916) (hb : ∀ e ∈ l.ents,e.batch.length ≤ 4398046511104) : Ctr P n_Qbj [.ag (lgC l x)] (λM=>EntsR M x l.ents) (λn _ M v=>∃ x',v = .ag (lgC l x') ∧ EntsX (From n M) x' l.ents) :=
 (Qer H l x hL hb).mono λ_ _ _ _ ⟨x',h1,h2⟩=>⟨x',h1,Qke h2⟩
end Go.Proofs.YtnnjlnkoomeadaaGreat.Pv
namespace Go.Proofs.YtnnjlnkoomeadaaGreat.Pv
open Go.Ev Go.Ev.Rp
set_option maxRecDepth 100000
set_option maxHeartbeats 4000000
def prv (p : Int) (l : List Int) (i : Nat) : Int:=if i = 0 then p else l.getD (i - 1) 0
def Qg5 (me k p : Int) (l : List Int) (i : Nat) : Bool:=decide (prv p l i < l.getD i 0) && decide (l.getD i 0 < k) && decide (l.getD i 0 ≠ me)
theorem Qit (me k : Int) : ∀ (l : List Int) (p : Int),Qfa me k p l = (List.range l.length).all (Qg5 me k p l)
 | [],p=>rfl
 | a :: l,p=>by
  rw [Qfa,Qit me k l a,List.length_cons,List.range_succ_eq_map,List.all_cons,List.all_map]
  congr 1
  apply List.all_congr rfl
  intro i
  cases i <;> rfl
def dosOk (r : Rep) (i : Nat) : Bool:=match r.dos[i]? with | none=>true | some d=>lgB d.log && decide (0 ≤ d.normal) && decide (d.normal < r.view) && decide (0 ≤ d.commit)
theorem Qud (r : Rep) : dosB r = (List.range r.dos.length).all (dosOk r):=by
 unfold dosB
 rw [Bool.eq_iff_iff,List.all_eq_true,List.all_eq_true]
 constructor
 ·intro h i hi
  have hi : i < r.dos.length:=by simpa using hi
  unfold dosOk
  rw [List.getElem?_eq_getElem hi]
  exact h _ (List.getElem_mem hi)
 ·intro h d hd
  obtain ⟨i,hi,rfl⟩:=List.getElem_of_mem hd
  have:=h i (by simpa using hi)
  unfold dosOk at this
  rw [List.getElem?_eq_getElem hi] at this
  exact this
def doAt (r : Rep) (i : Nat) : Bool:=Qg5 r.me r.nodes (-1) (r.dos.map (·.frm)) i && dosOk r i
theorem do_all (r : Rep) : (Qfa r.me r.nodes (-1) (r.dos.map (·.frm)) && dosB r) = (List.range r.dos.length).all (doAt r):=by
 rw [Qit,Qud,List.length_map]
 unfold doAt
 rw [Bool.eq_iff_iff]
 simp only [Bool.and_eq_true,List.all_eq_true]
 exact ⟨λh i hi=>⟨h.1 i hi,h.2 i hi⟩,λh=>⟨λi hi=>(h i hi).1,λi hi=>(h i hi).2⟩⟩
theorem Qpk (r : Rep) : repB r = (meB r.me r.nodes && decide (0 ≤ r.status) && decide (r.status ≤ 2) && countB r.view && countB r.normal && countB r.commit &&
 decide (r.normal ≤ r.view) && (decide (r.status ≠ 0) || decide (r.normal = r.view)) && lgB r.log && decide (r.log.base ≤ r.commit) && decide (r.commit ≤ last r.log) &&
 decide ((r.acks.length : Int) = r.nodes) && !(r.acks.any λa=>!countB a) && (decide (r.status = 1) || decide (r.starts.length = 0) && decide (r.dos.length = 0) && !r.sent) &&
 Qfa r.me r.nodes (-1) r.starts && (Qfa r.me r.nodes (-1) (r.dos.map (·.frm)) && dosB r)):=by
 unfold repB meB
 rw [List.all_eq_not_any_not,Bool.and_assoc (_ && Qfa r.me r.nodes (-1) r.starts)]
variable {P : Program} (H : Fs P)
include H
theorem replica_May (r : Rep) (xe xa xs xd : SV) (hl1 : r.starts.length ≤ 1152921504606846976) (hl2 : r.dos.length ≤ 1152921504606846976) (hl3 : r.acks.length ≤ 1152921504606846976) :
 BoolC P n_Qcw [.ag (repC r xe xa xs xd)] (λM=>EntsR M xe r.log.ents ∧ IntsR M xa r.acks ∧ IntsR M xs r.starts ∧ DvsR M xd r.dos) (repB r):=boolC H.mx H.Qcw (r.starts.length + r.dos.length + 1) λfz mu n k hfr gg s h=>by
 obtain ⟨s1,s2,s3,s4⟩:=s
 obtain ⟨xel,xes,xek,xem⟩:=s1.len
 obtain ⟨xal,xas,xak,xam⟩:=s2.len
 obtain ⟨xsl,xss,xsk,xsm⟩:=s3.len
 obtain ⟨xdl,xds,xdk,xdm⟩:=s4.len
 have hfr0:=hfr
 have loop0 : Hide (∀ (e : Env) mu1 n1 (K : LK) w,Gr n fz mu mu1 n n1 → with' mu1 fz n = some (repC r xe xa xs xd) → e 0 1 = .one (.optr n 0) → e 6 14 = .one xs → e 6 15 = .one (.int .i64 r.starts.length) → e 7 0 = .one (.int .i64 0) → e 0 3 = .one (.int .i64 (-1)) →
  (Qfa r.me r.nodes (-1) r.starts = true → ∀ e' mu' n',Gr n fz mu mu' n n' → with' mu' fz n = some (repC r xe xa xs xd) → e' 0 1 = .one (.optr n 0) → K (.exit 0) (tmE 184 e') mu' n') →
  (Qfa r.me r.nodes (-1) r.starts = false → ∀ e' mu' n',Gr n fz mu mu' n n' → e' 0 2 = .one (.bool false) → K .ret (tmE 184 e') mu' n') →
  Lp (dcode pOrc False (CP P) fz (r.starts.length + r.dos.length + 1) l_Qcw_0) (r.starts.length + r.dos.length + 1) (tmE 184 e) mu1 n1 K w):=⟨by
  intro e mu1 n1 K w g1 a1 a2 a3 a4 a5 a6 hd hr
  rw [Qit] at hd hr
  refine loopI (x:=0) (L:=r.starts.length) (p:=Qg5 r.me r.nodes (-1) r.starts) (λi e mu' n'=>Gr n fz mu mu' n n' ∧ with' mu' fz n = some (repC r xe xa xs xd) ∧ e 0 1 = .one (.optr n 0) ∧ e 6 14 = .one xs ∧ e 6 15 = .one (.int .i64 r.starts.length) ∧ e 7 0 = .one (.int .i64 i) ∧ e 0 3 = .one (.int .i64 (prv (-1) r.starts i)))
   (λe mu' n'=>Gr n fz mu mu' n n' ∧ e 0 2 = .one (.bool false)) ?_ ?_ e mu1 n1 K w (by omega) ⟨g1,a1,a2,a3,a4,a5,a6⟩ (λha e' mu' n' hI=>hd (Qha ha) e' mu' n' hI.1 hI.2.1 hI.2.2.1) (λhx e' mu' n' hR=>hr (Qe5 hx) e' mu' n' hR.1 hR.2)
  ·rintro i e mu1 n1 K hi ⟨g1,b1,a2,a3,a4,a5,a6⟩ hy hn
   have t3:=IntsR.mono (λ_ _ hh=>g1.old hfr0 hh) s3
   obtain ⟨id,off,cap,B,rfl,hB,hmk,hbd,hsub⟩:=t3.elem hi
   have hw:=Qdt hi (by omega)
   have hle:=Nat.le_refl n1
   have hp : prv (-1) r.starts (i + 1) = r.starts[i]:=by simp [prv,hi]
   have hg : r.starts.getD i 0 = r.starts[i]:=by simp [hi]
   clear hd hr h
   unfold repC at b1
   rw [dc_at l_Qcw_0.eq_1]
   simp only [↓E1,E2,zA,zB,zC,zD,zE,zF,zG,zH,zI,zJ,zK,zL,zM,zN,reduceIte,zO,zP, *]
   repeat' (first | ((with_reducible refine Qdv (λhb=>?_) (λhb=>?_)) <;> simp only [↓E1,E2,zA,zB,zC,zD,zE,zF,zG,zH,zI,zJ,zK,zL,zM,zN,reduceIte,zO,zP, *]))
   all_goals first
    | (refine hy ?_ _ _ _ ⟨g1,b1,?_,?_,?_,?_,?_⟩ <;> (try simp [updN,updE, *]) <;> (clear hy hn; simp_all [Qg5]); done)
    | (refine hn ?_ _ _ _ ⟨g1,?_⟩ <;> (try simp [updN,updE, *]) <;> (clear hy hn; simp_all [Qg5]; try omega); done)
  ·rintro e mu n K hI hd
   obtain ⟨g1,a1,a2,a3,a4,a5,a6⟩:=id hI
   rw [dc_at l_Qcw_0.eq_1]
   have hlt : (r.starts.length < r.starts.length) = False:=by simp
   simp only [↓E1,E2,zA,zB,zC,zD,zE,zF,zG,zH,zI,zJ,zK,zL,zM,zN,reduceIte,zO,zP, *]
   all_goals refine hd _ _ _ ⟨g1,a1,by simp [updN,updE, *],by simp [updN,updE, *],by simp [updN,updE, *],by simp [updN,updE, *],by simp [updN,updE, *]⟩⟩
 have loop1 : Hide (∀ (e : Env) mu1 n1 (K : LK) w,Gr n fz mu mu1 n n1 → with' mu1 fz n = some (repC r xe xa xs xd) → e 0 1 = .one (.optr n 0) → e 8 6 = .one xd → e 8 7 = .one (.int .i64 r.dos.length) → e 8 8 = .one (.int .i64 0) → e 0 3 = .one (.int .i64 (-1)) →
  ((Qfa r.me r.nodes (-1) (r.dos.map (·.frm)) && dosB r) = true → ∀ e' mu' n',Gr n fz mu mu' n n' → K (.exit 2) (tmE 184 e') mu' n') →
  ((Qfa r.me r.nodes (-1) (r.dos.map (·.frm)) && dosB r) = false → ∀ e' mu' n',Gr n fz mu mu' n n' → e' 0 2 = .one (.bool false) → K .ret (tmE 184 e') mu' n') →
  Lp (dcode pOrc False (CP P) fz (r.starts.length + r.dos.length + 1) l_Qcb) (r.starts.length + r.dos.length + 1) (tmE 184 e) mu1 n1 K w):=⟨by
  clear loop0
  intro e mu1 n1 K w g1 a1 a2 a3 a4 a5 a6 hd hr
  rw [do_all] at hd hr
  refine loopI (x:=2) (L:=r.dos.length) (p:=doAt r) (λi e mu' n'=>Gr n fz mu mu' n n' ∧ with' mu' fz n = some (repC r xe xa xs xd) ∧ e 0 1 = .one (.optr n 0) ∧ e 8 6 = .one xd ∧ e 8 7 = .one (.int .i64 r.dos.length) ∧ e 8 8 = .one (.int .i64 i) ∧ e 0 3 = .one (.int .i64 (prv (-1) (r.dos.map (·.frm)) i)))
   (λe mu' n'=>Gr n fz mu mu' n n' ∧ e 0 2 = .one (.bool false)) ?_ ?_ e mu1 n1 K w (by omega) ⟨g1,a1,a2,a3,a4,a5,a6⟩ (λha e' mu' n' hI=>hd (Qha ha) e' mu' n' hI.1) (λhx e' mu' n' hR=>hr (Qe5 hx) e' mu' n' hR.1 hR.2)
  ·rintro i e mu1 n1 K hi ⟨g1,b1,a2,a3,a4,a5,a6⟩ hy hn
   have t4:=DvsR.mono (λ_ _ hh=>g1.old hfr0 hh) s4
   obtain ⟨id,off,cap,B,bx,rfl,hB,hmk,hbd,hsub,t5⟩:=t4.elem hi
   obtain ⟨ybl,ybs,ybk,ybm⟩:=t5.len
   have hw:=Qdt hi (by omega)
   have hle:=Nat.le_refl n1
   have hfr:=g1.free
   have gg:=Gr.refl (lo:=n1) hfr
   have hp : prv (-1) (r.dos.map (·.frm)) (i + 1) = r.dos[i].frm:=by simp [prv,hi]
   have hg : (r.dos.map (·.frm)).getD i 0 = r.dos[i].frm:=by simp [hi]
   have hgi : r.dos[i]? = some r.dos[i]:=List.getElem?_eq_getElem hi
   have hn1 : n < n1:=g1.free.lt b1
   have hne : ¬ n1 = n:=by omega
   have hmm:=message_MayLog H r.dos[i].log bx
   clear hd hr h
   unfold repC at b1
   unfold dvC at hsub
   rw [dc_at l_Qcb.eq_1]
   simp only [↓E1,E2,zA,zB,zC,zD,zE,zF,zG,zH,zI,zJ,zK,zL,zM,zN,reduceIte,zO,zP, *]
   repeat' (first | ((with_reducible refine Qdv (λhb=>?_) (λhb=>?_)) <;> simp only [↓E1,E2,zA,zB,zC,zD,zE,zF,zG,zH,zI,zJ,zK,zL,zM,zN,reduceIte,zO,zP, *]) | ((with_reducible refine CPr_f (f:=n_Qb0) ?_); ((first | (refine (hmm).d2 hfr (by first | trivial | exact t5 | assumption) ?_; rintro v mu2 n2 g2 rfl) | (refine (hmm).d3 hfr (λhm=>by first | trivial | exact EntsR.mono hm t5) ?_; rintro v mu2 n2 g2 b7 rfl) | (refine (hmm).c1 hfr (by first | trivial | exact t5 | assumption) ?_; rintro v mu2 n2 g2 rfl) | (refine (hmm).c2 hfr (λhm=>by first | trivial | exact EntsR.mono hm t5) ?_; rintro v mu2 n2 g2 b7 rfl) | (refine (hmm).c3 hfr (λhm=>by first | trivial | exact EntsR.mono hm t5) ?_; rintro v mu2 n2 g2 b7 b8 rfl)); (try replace b1:=g2.old hfr b1); (try replace b7:=g2.old hfr b7); (try replace t5:=EntsR.mono (λ_ _ hh=>g2.old hfr hh) t5); replace gg:=gg.trans (g2.weaken hle); replace hle:=Nat.le_trans hle g2.le; replace hfr:=g2.free; clear g2; simp only [↓E1,E2,zA,zB,zC,zD,zE,zF,zG,zH,zI,zJ,zK,zL,zM,zN,reduceIte,zO,zP, *])))
   all_goals first
    | (refine hy ?_ _ _ _ ⟨g1.trans (gg.weaken g1.le),b1,?_,?_,?_,?_,?_⟩ <;> (try simp [updN,updE, *]) <;> (clear hy hn hmm; simp_all [doAt,Qg5,dosOk]); done)
    | (refine hn ?_ _ _ _ ⟨(by first | exact g1.trans (gg.weaken g1.le) | exact g1.cons g1.le _),?_⟩ <;> (try simp [updN,updE, *]) <;> (clear hy hn hmm; simp_all [doAt,Qg5,dosOk]; try omega); done)
  ·rintro e mu n K hI hd
   obtain ⟨g1,a1,a2,a3,a4,a5,a6⟩:=id hI
   rw [dc_at l_Qcb.eq_1]
   have hlt : (r.dos.length < r.dos.length) = False:=by simp
   simp only [↓E1,E2,zA,zB,zC,zD,zE,zF,zG,zH,zI,zJ,zK,zL,zM,zN,reduceIte,zO,zP, *]
   all_goals refine hd _ _ _ ⟨g1,a1,by simp [updN,updE, *],by simp [updN,updE, *],by simp [updN,updE, *],by simp [updN,updE, *],by simp [updN,updE, *]⟩⟩
 rw [i_Qcw,dc_at b_Qcw.eq_1]
 have hA : True:=trivial
 have hle:=Nat.le_refl n
 have hwa : IntKind.i64.wrap ((r.starts.length : Int) + r.dos.length) = ((r.starts.length + r.dos.length : Nat) : Int):=by rw [wrap64 (by omega) (by omega)]; rfl
 unfold repC
 simp only [↓E1,E2,zA,zB,zC,zD,zE,zF,zG,zH,zI,zJ,zK,zL,zM,zN,reduceIte,zO,zP, *]
 repeat' (first | ((with_reducible refine Qdv (λhb=>?_) (λhb=>?_)) <;> (replace hA:=And.intro hA hb; clear hb; simp only [↓E1,E2,zA,zB,zC,zD,zE,zF,zG,zH,zI,zJ,zK,zL,zM,zN,reduceIte,zO,zP, *])) | ((with_reducible refine CPr_f (f:=n_Qcr) ?_); ((first | (refine (repair_Nodes H _ _).d2 hfr (by first | trivial | exact s1 | exact s2 | exact s3 | exact s4 | assumption) ?_; rintro v mu2 n2 g2 rfl) | (refine (repair_Nodes H _ _).d3 hfr (λhm=>by first | trivial | exact EntsR.mono hm s1 | exact IntsR.mono hm s2 | exact IntsR.mono hm s3 | exact DvsR.mono hm s4) ?_; rintro v mu2 n2 g2 b1 rfl) | (refine (repair_Nodes H _ _).c1 hfr (by first | trivial | exact s1 | exact s2 | exact s3 | exact s4 | assumption) ?_; rintro v mu2 n2 g2 rfl) | (refine (repair_Nodes H _ _).c2 hfr (λhm=>by first | trivial | exact EntsR.mono hm s1 | exact IntsR.mono hm s2 | exact IntsR.mono hm s3 | exact DvsR.mono hm s4) ?_; rintro v mu2 n2 g2 b1 rfl) | (refine (repair_Nodes H _ _).c3 hfr (λhm=>by first | trivial | exact EntsR.mono hm s1 | exact IntsR.mono hm s2 | exact IntsR.mono hm s3 | exact DvsR.mono hm s4) ?_; rintro v mu2 n2 g2 b1 b2 rfl)); (try replace b1:=g2.old hfr b1); (try replace s1:=EntsR.mono (λ_ _ hh=>g2.old hfr hh) s1); (try replace s2:=IntsR.mono (λ_ _ hh=>g2.old hfr hh) s2); (try replace s3:=IntsR.mono (λ_ _ hh=>g2.old hfr hh) s3); (try replace s4:=DvsR.mono (λ_ _ hh=>g2.old hfr hh) s4); replace gg:=gg.trans (g2.weaken hle); replace hle:=Nat.le_trans hle g2.le; replace hfr:=g2.free; clear g2; simp only [↓E1,E2,zA,zB,zC,zD,zE,zF,zG,zH,zI,zJ,zK,zL,zM,zN,reduceIte,zO,zP, *])) | ((with_reducible refine CPr_f (f:=n_Qbz) ?_); ((first | (refine (replica_within H _).d2 hfr (by first | trivial | exact s1 | exact s2 | exact s3 | exact s4 | assumption) ?_; rintro v mu2 n2 g2 rfl) | (refine (replica_within H _).d3 hfr (λhm=>by first | trivial | exact EntsR.mono hm s1 | exact IntsR.mono hm s2 | exact IntsR.mono hm s3 | exact DvsR.mono hm s4) ?_; rintro v mu2 n2 g2 b1 rfl) | (refine (replica_within H _).c1 hfr (by first | trivial | exact s1 | exact s2 | exact s3 | exact s4 | assumption) ?_; rintro v mu2 n2 g2 rfl) | (refine (replica_within H _).c2 hfr (λhm=>by first | trivial | exact EntsR.mono hm s1 | exact IntsR.mono hm s2 | exact IntsR.mono hm s3 | exact DvsR.mono hm s4) ?_; rintro v mu2 n2 g2 b1 rfl) | (refine (replica_within H _).c3 hfr (λhm=>by first | trivial | exact EntsR.mono hm s1 | exact IntsR.mono hm s2 | exact IntsR.mono hm s3 | exact DvsR.mono hm s4) ?_; rintro v mu2 n2 g2 b1 b2 rfl)); (try replace b1:=g2.old hfr b1); (try replace s1:=EntsR.mono (λ_ _ hh=>g2.old hfr hh) s1); (try replace s2:=IntsR.mono (λ_ _ hh=>g2.old hfr hh) s2); (try replace s3:=IntsR.mono (λ_ _ hh=>g2.old hfr hh) s3); (try replace s4:=DvsR.mono (λ_ _ hh=>g2.old hfr hh) s4); replace gg:=gg.trans (g2.weaken hle); replace hle:=Nat.le_trans hle g2.le; replace hfr:=g2.free; clear g2; simp only [↓E1,E2,zA,zB,zC,zD,zE,zF,zG,zH,zI,zJ,zK,zL,zM,zN,reduceIte,zO,zP, *])) | ((with_reducible refine CPr_f (f:=n_Qb0) ?_); ((first | (refine (message_MayLog H r.log xe).d2 hfr (by first | trivial | exact s1 | exact s2 | exact s3 | exact s4 | assumption) ?_; rintro v mu2 n2 g2 rfl) | (refine (message_MayLog H r.log xe).d3 hfr (λhm=>by first | trivial | exact EntsR.mono hm s1 | exact IntsR.mono hm s2 | exact IntsR.mono hm s3 | exact DvsR.mono hm s4) ?_; rintro v mu2 n2 g2 b1 rfl) | (refine (message_MayLog H r.log xe).c1 hfr (by first | trivial | exact s1 | exact s2 | exact s3 | exact s4 | assumption) ?_; rintro v mu2 n2 g2 rfl) | (refine (message_MayLog H r.log xe).c2 hfr (λhm=>by first | trivial | exact EntsR.mono hm s1 | exact IntsR.mono hm s2 | exact IntsR.mono hm s3 | exact DvsR.mono hm s4) ?_; rintro v mu2 n2 g2 b1 rfl) | (refine (message_MayLog H r.log xe).c3 hfr (λhm=>by first | trivial | exact EntsR.mono hm s1 | exact IntsR.mono hm s2 | exact IntsR.mono hm s3 | exact DvsR.mono hm s4) ?_; rintro v mu2 n2 g2 b1 b2 rfl)); (try replace b1:=g2.old hfr b1); (try replace s1:=EntsR.mono (λ_ _ hh=>g2.old hfr hh) s1); (try replace s2:=IntsR.mono (λ_ _ hh=>g2.old hfr hh) s2); (try replace s3:=IntsR.mono (λ_ _ hh=>g2.old hfr hh) s3); (try replace s4:=DvsR.mono (λ_ _ hh=>g2.old hfr hh) s4); replace gg:=gg.trans (g2.weaken hle); replace hle:=Nat.le_trans hle g2.le; replace hfr:=g2.free; clear g2; simp only [↓E1,E2,zA,zB,zC,zD,zE,zF,zG,zH,zI,zJ,zK,zL,zM,zN,reduceIte,zO,zP, *])) | ((with_reducible refine CPr_f (f:=n_Qcy) ?_); ((first | (refine (choose_Last H r.log xe).d2 hfr (by first | trivial | exact s1 | exact s2 | exact s3 | exact s4 | assumption) ?_; rintro v mu2 n2 g2 rfl) | (refine (choose_Last H r.log xe).d3 hfr (λhm=>by first | trivial | exact EntsR.mono hm s1 | exact IntsR.mono hm s2 | exact IntsR.mono hm s3 | exact DvsR.mono hm s4) ?_; rintro v mu2 n2 g2 b1 rfl) | (refine (choose_Last H r.log xe).c1 hfr (by first | trivial | exact s1 | exact s2 | exact s3 | exact s4 | assumption) ?_; rintro v mu2 n2 g2 rfl) | (refine (choose_Last H r.log xe).c2 hfr (λhm=>by first | trivial | exact EntsR.mono hm s1 | exact IntsR.mono hm s2 | exact IntsR.mono hm s3 | exact DvsR.mono hm s4) ?_; rintro v mu2 n2 g2 b1 rfl) | (refine (choose_Last H r.log xe).c3 hfr (λhm=>by first | trivial | exact EntsR.mono hm s1 | exact IntsR.mono hm s2 | exact IntsR.mono hm s3 | exact DvsR.mono hm s4) ?_; rintro v mu2 n2 g2 b1 b2 rfl)); (try replace b1:=g2.old hfr b1); (try replace s1:=EntsR.mono (λ_ _ hh=>g2.old hfr hh) s1); (try replace s2:=IntsR.mono (λ_ _ hh=>g2.old hfr hh) s2); (try replace s3:=IntsR.mono (λ_ _ hh=>g2.old hfr hh) s3); (try replace s4:=DvsR.mono (λ_ _ hh=>g2.old hfr hh) s4); replace gg:=gg.trans (g2.weaken hle); replace hle:=Nat.le_trans hle g2.le; replace hfr:=g2.free; clear g2; simp only [↓E1,E2,zA,zB,zC,zD,zE,zF,zG,zH,zI,zJ,zK,zL,zM,zN,reduceIte,zO,zP, *])) | ((with_reducible refine CPr_f (f:=n_Qai) ?_); ((first | (refine (Qfu H _ _ (replica_May_1 H) xa r.acks (Nat.le_trans hl3 (by decide))).d2 hfr (by first | trivial | exact s1 | exact s2 | exact s3 | exact s4 | assumption) ?_; rintro v mu2 n2 g2 rfl) | (refine (Qfu H _ _ (replica_May_1 H) xa r.acks (Nat.le_trans hl3 (by decide))).d3 hfr (λhm=>by first | trivial | exact EntsR.mono hm s1 | exact IntsR.mono hm s2 | exact IntsR.mono hm s3 | exact DvsR.mono hm s4) ?_; rintro v mu2 n2 g2 b1 rfl) | (refine (Qfu H _ _ (replica_May_1 H) xa r.acks (Nat.le_trans hl3 (by decide))).c1 hfr (by first | trivial | exact s1 | exact s2 | exact s3 | exact s4 | assumption) ?_; rintro v mu2 n2 g2 rfl) | (refine (Qfu H _ _ (replica_May_1 H) xa r.acks (Nat.le_trans hl3 (by decide))).c2 hfr (λhm=>by first | trivial | exact EntsR.mono hm s1 | exact IntsR.mono hm s2 | exact IntsR.mono hm s3 | exact DvsR.mono hm s4) ?_; rintro v mu2 n2 g2 b1 rfl) | (refine (Qfu H _ _ (replica_May_1 H) xa r.acks (Nat.le_trans hl3 (by decide))).c3 hfr (λhm=>by first | trivial | exact EntsR.mono hm s1 | exact IntsR.mono hm s2 | exact IntsR.mono hm s3 | exact DvsR.mono hm s4) ?_; rintro v mu2 n2 g2 b1 b2 rfl)); (try replace b1:=g2.old hfr b1); (try replace s1:=EntsR.mono (λ_ _ hh=>g2.old hfr hh) s1); (try replace s2:=IntsR.mono (λ_ _ hh=>g2.old hfr hh) s2); (try replace s3:=IntsR.mono (λ_ _ hh=>g2.old hfr hh) s3); (try replace s4:=DvsR.mono (λ_ _ hh=>g2.old hfr hh) s4); replace gg:=gg.trans (g2.weaken hle); replace hle:=Nat.le_trans hle g2.le; replace hfr:=g2.free; clear g2; simp only [↓E1,E2,zA,zB,zC,zD,zE,zF,zG,zH,zI,zJ,zK,zL,zM,zN,reduceIte,zO,zP, *])))
 all_goals try (refine leafB h (by first | exact gg | exact gg.cons hle _ | exact (gg.cons hle _).cons (Nat.le_succ_of_le hle) _) ?_; (clear h gg hle hfr); (try clear loop); (try clear loop0); (try clear loop1); (try clear s1); (try clear s2); (try clear s3); (try clear s4); (try clear b1); (try clear b2); clear xel xes xek xem xal xas xak xam xsl xss xsk xsm xdl xds xdk xdm hfr0 hwa; rw [Qpk]; (try generalize (r.acks.any λa=>!countB a) = qq at hA ⊢); first | (simp_all [-List.length_eq_zero_iff]; done) | (simp_all [-List.length_eq_zero_iff]; omega))
 all_goals ((with_reducible refine Lp_at ?_); refine loop0.out _ _ _ _ _ gg b1 (by simp [updN,updE]) (by simp [updN,updE]) (by simp [updN,updE]) (by simp [updN,updE]) (by simp [updN,updE]) (λhr e1 mu1 n1 g1 b1 a2=>?_) (λhr e1 mu1 n1 g1 a1=>?_))
 all_goals (replace hA:=And.intro hA hr; clear hr gg s1 s2 s3 s4 hfr hle)
 all_goals try (simp only [↓E1,E2,zA,zB,zC,zD,zE,zF,zG,zH,zI,zJ,zK,zL,zM,zN,reduceIte,zO,zP, *]; refine leafB h g1 ?_; clear h g1 loop0 loop1 b1 xel xes xek xem xal xas xak xam xsl xss xsk xsm xdl xds xdk xdm hfr0 hwa; rw [Qpk]; (try generalize (r.acks.any λa=>!countB a) = qq at hA ⊢); simp_all [-List.length_eq_zero_iff]; done)
 all_goals
  have b0:=b1
  unfold repC at b1
  simp only [↓E1,E2,zA,zB,zC,zD,zE,zF,zG,zH,zI,zJ,zK,zL,zM,zN,reduceIte,zO,zP, *]
  refine loop1.out _ _ _ _ _ g1 b0 (by simp [updN,updE, *]) (by simp [updN,updE, *]) (by simp [updN,updE, *]) (by simp [updN,updE, *]) (by simp [updN,updE, *]) (λhr e2 mu2 n2 g2=>?_) (λhr e2 mu2 n2 g2 a1=>?_)
 all_goals (replace hA:=And.intro hA hr; clear hr; simp only [↓E1,E2,zA,zB,zC,zD,zE,zF,zG,zH,zI,zJ,zK,zL,zM,zN,reduceIte,zO,zP, *]; refine leafB h g2 ?_; clear h g1 g2 loop0 loop1 b0 b1 xel xes xek xem xal xas xak xam xsl xss xsk xsm xdl xds xdk xdm hfr0 hwa; rw [Qpk]; (try generalize (r.acks.any λa=>!countB a) = qq at hA ⊢); first | (simp_all [-List.length_eq_zero_iff]; done) | (simp_all [-List.length_eq_zero_iff]; omega) | (simp_all [-List.length_eq_zero_iff]; exfalso; omega))
end Go.Proofs.YtnnjlnkoomeadaaGreat.Pv
namespace Go.Proofs.YtnnjlnkoomeadaaGreat.Pv
open Go.Ev Go.Ev.Rp
set_option maxRecDepth 100000
set_option maxHeartbeats 4000000
def prim (v k : Int) : Int:=if k < 1 ∨ v < 0 then 0 else v.tmod k
def Qgs (r : Rep) : Bool:=decide (prim r.view r.nodes = r.me)
def leadB (r : Rep) : Bool:=Qgs r && decide (r.status = 0)
def stepC (r : Rep) (xe xa xs xd xo : SV) (vd : Bool) : List SV:=repC r xe xa xs xd ++ [xo,.bool vd]
variable {P : Program} (H : Fs P)
include H
theorem ref1_Count (x : Int) : BoolC P n_Qda [.one (I x)] (λ_=>True) (countB x):=boolC H.mx H.Qda 0 λfz mu n k hfr gg _ h=>by
 rw [i_Qda,dc_at b_Qda.eq_1]
 have hA : True:=trivial
 have hle:=Nat.le_refl n
 simp only [↓E1,E2,zA,zB,zC,zD,zE,zF,zG,zH,zI,zJ,zK,zL,zM,zN,reduceIte,zO,zP]
 repeat' (first | ((with_reducible refine Qdv (λhb=>?_) (λhb=>?_)) <;> (replace hA:=And.intro hA hb; clear hb; simp only [↓E1,E2,zA,zB,zC,zD,zE,zF,zG,zH,zI,zJ,zK,zL,zM,zN,reduceIte,zO,zP, *])))
 all_goals try (refine leafB h (by first | exact gg | exact gg.cons hle _ | exact (gg.cons hle _).cons (Nat.le_succ_of_le hle) _) ?_; (clear h gg hle hfr); (try clear loop); (try clear loop0); (try clear loop1); (try clear s1); (try clear s2); (try clear s3); (try clear s4); (try clear b1); (try clear b2); skip; first | (simp_all [countB]; done) | (simp_all [countB]; omega))
theorem ref1_Small (x : Int) : BoolC P n_Qde [.one (I x)] (λ_=>True) (Qjy x):=boolC H.mx H.Qde 0 λfz mu n k hfr gg _ h=>by
 rw [i_Qde,dc_at b_Qde.eq_1]
 have hA : True:=trivial
 have hle:=Nat.le_refl n
 simp only [↓E1,E2,zA,zB,zC,zD,zE,zF,zG,zH,zI,zJ,zK,zL,zM,zN,reduceIte,zO,zP]
 repeat' (first | ((with_reducible refine Qdv (λhb=>?_) (λhb=>?_)) <;> (replace hA:=And.intro hA hb; clear hb; simp only [↓E1,E2,zA,zB,zC,zD,zE,zF,zG,zH,zI,zJ,zK,zL,zM,zN,reduceIte,zO,zP, *])))
 all_goals try (refine leafB h (by first | exact gg | exact gg.cons hle _ | exact (gg.cons hle _).cons (Nat.le_succ_of_le hle) _) ?_; (clear h gg hle hfr); (try clear loop); (try clear loop0); (try clear loop1); (try clear s1); (try clear s2); (try clear s3); (try clear s4); (try clear b1); (try clear b2); skip; first | (simp_all [Qjy]; done) | (simp_all [Qjy]; omega))
theorem ref16_Nodes (x : Int) : BoolC P n_Qc0 [.one (I x)] (λ_=>True) (Qid x):=boolC H.mx H.Qc0 0 λfz mu n k hfr gg _ h=>by
 rw [i_Qc0,dc_at b_Qc0.eq_1]
 have hA : True:=trivial
 have hle:=Nat.le_refl n
 simp only [↓E1,E2,zA,zB,zC,zD,zE,zF,zG,zH,zI,zJ,zK,zL,zM,zN,reduceIte,zO,zP]
 repeat' (first | ((with_reducible refine Qdv (λhb=>?_) (λhb=>?_)) <;> (replace hA:=And.intro hA hb; clear hb; simp only [↓E1,E2,zA,zB,zC,zD,zE,zF,zG,zH,zI,zJ,zK,zL,zM,zN,reduceIte,zO,zP, *])))
 all_goals try (refine leafB h (by first | exact gg | exact gg.cons hle _ | exact (gg.cons hle _).cons (Nat.le_succ_of_le hle) _) ?_; (clear h gg hle hfr); (try clear loop); (try clear loop0); (try clear loop1); (try clear s1); (try clear s2); (try clear s3); (try clear s4); (try clear b1); (try clear b2); skip; first | (simp_all [Qid]; done) | (simp_all [Qid]; omega))
theorem ref16_Last (l : Lg) (x : SV) : Ctr P n_Qc8 [.ag (lgC l x)] (λM=>EntsR M x l.ents) (λ_ _ _ v=>v = .one (I (last l))):=Ctr.of H.mx H.Qc8 (λ_=>0) λfz mu n k hfr hx hk=>by
 obtain ⟨xl,xs,xk,xm⟩:=hx.len
 rw [i_Qc8,dc_at b_Qc8.eq_1]
 unfold lgC
 simp only [↓E1,E2,zA,zB,zC,zD,zE,zF,zG,zH,zI,zJ,zK,zL,zM,zN,reduceIte,zO,zP,xl,xs,xk,xm]
 exact hk _ _ _ ((Gr.refl hfr).cons (Nat.le_refl _) _) rfl
theorem replica_Primary (v k0 : Int) : Ctr P n_Qbn [.one (I v),.one (I k0)] (λ_=>True) (λ_ _ _ w=>w = .one (I (prim v k0))):=Ctr.of H.mx H.Qbn (λ_=>0) λfz mu n k hfr _ h=>by
 rw [i_Qbn,dc_at b_Qbn.eq_1]
 have gg:=Gr.refl (lo:=n) hfr
 have hA : True:=trivial
 have hle:=Nat.le_refl n
 simp only [↓E1,E2,zA,zB,zC,zD,zE,zF,zG,zH,zI,zJ,zK,zL,zM,zN,reduceIte,zO,zP]
 repeat' (first | ((with_reducible refine Qdv (λhb=>?_) (λhb=>?_)) <;> (replace hA:=And.intro hA hb; clear hb; simp only [↓E1,E2,zA,zB,zC,zD,zE,zF,zG,zH,zI,zJ,zK,zL,zM,zN,reduceIte,zO,zP, *])))
 all_goals try (refine h _ _ _ gg ?_; clear h; simp_all [prim]; done)
 have hz : ¬ k0 = 0:=by simp at hA; omega
 simp only [↓E1,E2,zA,zB,zC,zD,zE,zF,zG,zH,zI,zJ,zK,zL,zM,zN,reduceIte,zO,zP,hz]
 refine h _ _ _ gg ?_
 simp at hA
 simp [prim]; omega
theorem ref16_Primary (v k0 : Int) : Ctr P n_Qcc [.one (I v),.one (I k0)] (λ_=>True) (λ_ _ _ w=>w = .one (I (prim v k0))):=Ctr.of H.mx H.Qcc (λ_=>0) λfz mu n k hfr _ h=>by
 rw [i_Qcc,dc_at b_Qcc.eq_1]
 have gg:=Gr.refl (lo:=n) hfr
 have hA : True:=trivial
 have hle:=Nat.le_refl n
 simp only [↓E1,E2,zA,zB,zC,zD,zE,zF,zG,zH,zI,zJ,zK,zL,zM,zN,reduceIte,zO,zP]
 repeat' (first | ((with_reducible refine Qdv (λhb=>?_) (λhb=>?_)) <;> (replace hA:=And.intro hA hb; clear hb; simp only [↓E1,E2,zA,zB,zC,zD,zE,zF,zG,zH,zI,zJ,zK,zL,zM,zN,reduceIte,zO,zP, *])))
 all_goals try (refine h _ _ _ gg ?_; clear h; simp_all [prim]; done)
 have hz : ¬ k0 = 0:=by simp at hA; omega
 simp only [↓E1,E2,zA,zB,zC,zD,zE,zF,zG,zH,zI,zJ,zK,zL,zM,zN,reduceIte,zO,zP,hz]
 refine h _ _ _ gg ?_
 simp at hA
 simp [prim]; omega
theorem replica_step_leads (id : Nat) (r : Rep) (xe xa xs xd xo : SV) (vd : Bool) : BoolC P n_Qay [.one (.optr id 0)] (λM=>M id = some (stepC r xe xa xs xd xo vd)) (Qgs r):=boolC H.mx H.Qay 0 λfz mu n k hfr gg b1 h=>by
 rw [i_Qay,dc_at b_Qay.eq_1]
 unfold stepC repC at b1
 have b9:=b1
 have hA : True:=trivial
 have hle:=Nat.le_refl n
 simp only [↓E1,E2,zA,zB,zC,zD,zE,zF,zG,zH,zI,zJ,zK,zL,zM,zN,reduceIte,zO,zP, *]
 repeat' (first | ((with_reducible refine Qdv (λhb=>?_) (λhb=>?_)) <;> (replace hA:=And.intro hA hb; clear hb; simp only [↓E1,E2,zA,zB,zC,zD,zE,zF,zG,zH,zI,zJ,zK,zL,zM,zN,reduceIte,zO,zP, *])) | ((with_reducible refine CPr_f (f:=n_Qbn) ?_); ((first | (refine (replica_Primary H _ _).d2 hfr (by first | trivial | assumption) ?_; rintro v mu2 n2 g2 rfl) | (refine (replica_Primary H _ _).d3 hfr (λhm=>by first | trivial) ?_; rintro v mu2 n2 g2 b1 rfl) | (refine (replica_Primary H _ _).c1 hfr (by first | trivial | assumption) ?_; rintro v mu2 n2 g2 rfl) | (refine (replica_Primary H _ _).c2 hfr (λhm=>by first | trivial) ?_; rintro v mu2 n2 g2 b1 rfl) | (refine (replica_Primary H _ _).c3 hfr (λhm=>by first | trivial) ?_; rintro v mu2 n2 g2 b1 b2 rfl)); (try replace b1:=g2.old hfr b1); replace gg:=gg.trans (g2.weaken hle); replace hle:=Nat.le_trans hle g2.le; replace hfr:=g2.free; clear g2; simp only [↓E1,E2,zA,zB,zC,zD,zE,zF,zG,zH,zI,zJ,zK,zL,zM,zN,reduceIte,zO,zP, *])))
 all_goals try (refine leafB h (by first | exact gg | exact gg.cons hle _ | exact (gg.cons hle _).cons (Nat.le_succ_of_le hle) _) ?_; (clear h gg hle hfr); (try clear loop); (try clear loop0); (try clear loop1); (try clear s1); (try clear s2); (try clear s3); (try clear s4); (try clear b1); (try clear b2); clear b9; first | (simp_all [Qgs]; done) | (simp_all [Qgs]; omega))
theorem replica_step_normal (id : Nat) (r : Rep) (xe xa xs xd xo : SV) (vd : Bool) : BoolC P n_Qaq [.one (.optr id 0)] (λM=>M id = some (stepC r xe xa xs xd xo vd)) (leadB r):=boolC H.mx H.Qaq 0 λfz mu n k hfr gg b1 h=>by
 rw [i_Qaq,dc_at b_Qaq.eq_1]
 have b0:=b1
 unfold stepC repC at b1
 have hA : True:=trivial
 have hle:=Nat.le_refl n
 simp only [↓E1,E2,zA,zB,zC,zD,zE,zF,zG,zH,zI,zJ,zK,zL,zM,zN,reduceIte,zO,zP, *]
 repeat' (first | ((with_reducible refine Qdv (λhb=>?_) (λhb=>?_)) <;> (replace hA:=And.intro hA hb; clear hb; simp only [↓E1,E2,zA,zB,zC,zD,zE,zF,zG,zH,zI,zJ,zK,zL,zM,zN,reduceIte,zO,zP, *])) | ((with_reducible refine CPr_f (f:=n_Qay) ?_); ((first | (refine (replica_step_leads H id r xe xa xs xd xo vd).d2 hfr (by first | trivial | assumption) ?_; rintro v mu2 n2 g2 rfl) | (refine (replica_step_leads H id r xe xa xs xd xo vd).d3 hfr (λhm=>by first | trivial) ?_; rintro v mu2 n2 g2 b1 rfl) | (refine (replica_step_leads H id r xe xa xs xd xo vd).c1 hfr (by first | trivial | assumption) ?_; rintro v mu2 n2 g2 rfl) | (refine (replica_step_leads H id r xe xa xs xd xo vd).c2 hfr (λhm=>by first | trivial) ?_; rintro v mu2 n2 g2 b1 rfl) | (refine (replica_step_leads H id r xe xa xs xd xo vd).c3 hfr (λhm=>by first | trivial) ?_; rintro v mu2 n2 g2 b1 b2 rfl)); (try replace b1:=g2.old hfr b1); (try replace b0:=g2.old hfr b0); replace gg:=gg.trans (g2.weaken hle); replace hle:=Nat.le_trans hle g2.le; replace hfr:=g2.free; clear g2; simp only [↓E1,E2,zA,zB,zC,zD,zE,zF,zG,zH,zI,zJ,zK,zL,zM,zN,reduceIte,zO,zP, *])))
 all_goals try (refine leafB h (by first | exact gg | exact gg.cons hle _ | exact (gg.cons hle _).cons (Nat.le_succ_of_le hle) _) ?_; (clear h gg hle hfr); (try clear loop); (try clear loop0); (try clear loop1); (try clear s1); (try clear s2); (try clear s3); (try clear s4); (try clear b1); (try clear b2); clear b0; first | (simp_all [leadB]; done) | (simp_all [leadB]; omega))
end Go.Proofs.YtnnjlnkoomeadaaGreat.Pv
namespace Go.Proofs.YtnnjlnkoomeadaaGreat.Pv
open Go.Ev Go.Ev.Rp
set_option maxRecDepth 100000
set_option maxHeartbeats 4000000
variable {P : Program} (H : Fs P)
include H
theorem ref1_Name (t : Tx) : BoolC P n_Qdh [.one t.sv] (λ_=>True) (nameB t):=boolC H.mx H.Qdh 14 λfz mu n k hfr gg _ h=>by
 rw [i_Qdh,dc_at b_Qdh.eq_1]
 have hA : True:=trivial
 have hle:=Nat.le_refl n
 simp only [↓E1,E2,zA,zB,zC,zD,zE,zF,zG,zH,zI,zJ,zK,zL,zM,zN,reduceIte,zO,zP]
 repeat' (first | ((with_reducible refine Qdv (λhb=>?_) (λhb=>?_)) <;> (replace hA:=And.intro hA hb; clear hb; simp only [↓E1,E2,zA,zB,zC,zD,zE,zF,zG,zH,zI,zJ,zK,zL,zM,zN,reduceIte,zO,zP, *])))
 all_goals try (refine leafB h (by first | exact gg | exact gg.cons hle _ | exact (gg.cons hle _).cons (Nat.le_succ_of_le hle) _) ?_; (clear h gg hle hfr); (try clear loop); (try clear loop0); (try clear loop1); (try clear s1); (try clear s2); (try clear s3); (try clear s4); (try clear b1); (try clear b2); skip; first | (simp_all [nameB]; done) | (simp_all [nameB]; omega))
 obtain ⟨⟨-,h1⟩,h2⟩:=hA
 have hl : t.l ≤ 12:=by simp at h2; omega
 have hl1 : 1 ≤ t.l:=by simp at h1; omega
 refine loopI (x:=0) (L:=t.l) (p:=λi=>Qno (Qnc t.l t.n i)) (λi e mu' n'=>Gr n fz mu mu' n n' ∧ e 0 0 = .one t.sv ∧ e 0 3 = .one (.int .i64 i)) (λe mu' n'=>Gr n fz mu mu' n n' ∧ e 0 2 = .one (.bool false)) ?_ ?_ _ mu n _ _ (by omega) ⟨gg,by simp [updN,updE,envI],by simp [updN,updE]⟩ ?_ ?_
 ·rintro i e mu1 n1 K hi ⟨g1,h0,hc⟩ hy hn
  rw [dc_at l_Qdh_0.eq_1]
  have hw:=Qdt hi (by omega)
  obtain ⟨b,hbe⟩ : ∃ b,t.n / 256 ^ (t.l - 1 - i) % 256 = b:=⟨_,rfl⟩
  rw [show Qnc t.l t.n i = b from hbe,Qsh] at hy hn
  clear h
  have hA : True:=trivial
  simp only [↓E1,E2,zA,zB,zC,zD,zE,zF,zG,zH,zI,zJ,zK,zL,zM,zN,reduceIte,zO,zP,h0,hc,hi,hbe]
  repeat' ((with_reducible refine Qdv (λhb=>?_) (λhb=>?_)) <;> (replace hA:=And.intro hA hb; clear hb; simp only [↓E1,E2,zA,zB,zC,zD,zE,zF,zG,zH,zI,zJ,zK,zL,zM,zN,reduceIte,zO,zP,hA,hc,hw,hbe]))
  all_goals first
   | (refine hn (by clear hy hn hbe; simp_all; try omega) _ _ _ ⟨g1,?_⟩; simp [updN,updE]; done)
   | (refine hy (by clear hy hn hbe; simp_all; try omega) _ _ _ ⟨g1,?_,?_⟩ <;> simp [updN,updE,h0]; done)
 ·rintro e mu1 n1 K ⟨g1,h0,hc⟩ hx
  rw [dc_at l_Qdh_0.eq_1]
  have hlt : (t.l < t.l) = False:=by simp
  simp only [↓E1,E2,zA,zB,zC,zD,zE,zF,zG,zH,zI,zJ,zK,zL,zM,zN,reduceIte,zO,zP,h0,hc,hlt]
  exact hx _ _ _ ⟨g1,by simp [updN,updE,h0],by simp [updN,updE,hc]⟩
 ·intro ha e' mu' n' ⟨g,_⟩
  simp only [↓E1,E2,zA,zB,zC,zD,zE,zF,zG,zH,zI,zJ,zK,zL,zM,zN,reduceIte,zO,zP]
  exact leafB h g (by unfold nameB; simp [hl,hl1,Qha ha])
 ·intro hx e' mu' n' ⟨g,hR⟩
  simp only [↓E1,E2,zA,zB,zC,zD,zE,zF,zG,zH,zI,zJ,zK,zL,zM,zN,reduceIte,zO,zP,hR]
  exact leafB h g (by unfold nameB; rw [Qe5 hx]; simp)
theorem ref1_May (p : Pt) : BoolC P n_Qdk [.ag (ptC p)] (λ_=>True) (ptB p):=boolC H.mx H.Qdk 0 λfz mu n k hfr gg _ h=>by
 rw [i_Qdk,dc_at b_Qdk.eq_1]
 unfold ptC
 have hA : True:=trivial
 have hle:=Nat.le_refl n
 simp only [↓E1,E2,zA,zB,zC,zD,zE,zF,zG,zH,zI,zJ,zK,zL,zM,zN,reduceIte,zO,zP]
 repeat' (first | ((with_reducible refine Qdv (λhb=>?_) (λhb=>?_)) <;> (replace hA:=And.intro hA hb; clear hb; simp only [↓E1,E2,zA,zB,zC,zD,zE,zF,zG,zH,zI,zJ,zK,zL,zM,zN,reduceIte,zO,zP, *])) | ((with_reducible refine CPr_f (f:=n_Qdh) ?_); ((first | (refine (ref1_Name H p.series).d2 hfr (by first | trivial | assumption) ?_; rintro v mu2 n2 g2 rfl) | (refine (ref1_Name H p.series).d3 hfr (λhm=>by first | trivial) ?_; rintro v mu2 n2 g2 b1 rfl) | (refine (ref1_Name H p.series).c1 hfr (by first | trivial | assumption) ?_; rintro v mu2 n2 g2 rfl) | (refine (ref1_Name H p.series).c2 hfr (λhm=>by first | trivial) ?_; rintro v mu2 n2 g2 b1 rfl) | (refine (ref1_Name H p.series).c3 hfr (λhm=>by first | trivial) ?_; rintro v mu2 n2 g2 b1 b2 rfl)); (try replace b1:=g2.old hfr b1); replace gg:=gg.trans (g2.weaken hle); replace hle:=Nat.le_trans hle g2.le; replace hfr:=g2.free; clear g2; simp only [↓E1,E2,zA,zB,zC,zD,zE,zF,zG,zH,zI,zJ,zK,zL,zM,zN,reduceIte,zO,zP, *])) | ((with_reducible refine CPr_f (f:=n_Qde) ?_); ((first | (refine (ref1_Small H _).d2 hfr (by first | trivial | assumption) ?_; rintro v mu2 n2 g2 rfl) | (refine (ref1_Small H _).d3 hfr (λhm=>by first | trivial) ?_; rintro v mu2 n2 g2 b1 rfl) | (refine (ref1_Small H _).c1 hfr (by first | trivial | assumption) ?_; rintro v mu2 n2 g2 rfl) | (refine (ref1_Small H _).c2 hfr (λhm=>by first | trivial) ?_; rintro v mu2 n2 g2 b1 rfl) | (refine (ref1_Small H _).c3 hfr (λhm=>by first | trivial) ?_; rintro v mu2 n2 g2 b1 b2 rfl)); (try replace b1:=g2.old hfr b1); replace gg:=gg.trans (g2.weaken hle); replace hle:=Nat.le_trans hle g2.le; replace hfr:=g2.free; clear g2; simp only [↓E1,E2,zA,zB,zC,zD,zE,zF,zG,zH,zI,zJ,zK,zL,zM,zN,reduceIte,zO,zP, *])))
 all_goals try (refine leafB h (by first | exact gg | exact gg.cons hle _ | exact (gg.cons hle _).cons (Nat.le_succ_of_le hle) _) ?_; (clear h gg hle hfr); (try clear loop); (try clear loop0); (try clear loop1); (try clear s1); (try clear s2); (try clear s3); (try clear s4); (try clear b1); (try clear b2); skip; first | (simp_all [ptB]; done) | (simp_all [ptB]; omega))
theorem ref1_Batch (x : SV) (l : List Pt) (hl : l.length ≤ 1152921504606846976) : BoolC P n_Qdb [.one x] (λM=>PtsR M x l) (Qix l):=boolC H.mx H.Qdb (l.length + 1) λfz mu n k hfr gg s1 h=>by
 obtain ⟨xl,xs,xk,xm⟩:=s1.len
 have hfr0:=hfr
 rw [i_Qdb,dc_at b_Qdb.eq_1]
 have hA : True:=trivial
 have hle:=Nat.le_refl n
 simp only [↓E1,E2,zA,zB,zC,zD,zE,zF,zG,zH,zI,zJ,zK,zL,zM,zN,reduceIte,zO,zP, *]
 refine loopI (x:=0) (L:=l.length) (p:=λi=>(l[i]?.map ptB).getD true) (λi e mu' n'=>Gr n fz mu mu' n n' ∧ e 0 0 = .one x ∧ e 0 3 = .one (.int .i64 i)) (λe mu' n'=>Gr n fz mu mu' n n' ∧ e 0 2 = .one (.bool false)) ?_ ?_ _ mu n _ _ (by omega) ⟨gg,by simp [updN,updE,envI],by simp [updN,updE]⟩ ?_ ?_
 ·rintro i e mu1 n1 K hi ⟨g1,h0,hc⟩ hy hn
  have s2:=PtsR.mono (λ_ _ hh=>g1.old hfr0 hh) s1
  obtain ⟨id,off,cap,B,rfl,hB,hmk,hbd,hsub⟩:=s2.elem hi
  rw [dc_at l_Qdb_0.eq_1]
  have hw:=Qdt hi (by omega)
  simp only [↓E1,E2,zA,zB,zC,zD,zE,zF,zG,zH,zI,zJ,zK,zL,zM,zN,reduceIte,zO,zP,h0,hc,hi,hB,hmk,hbd,hsub]
  refine (ref1_May H l[i]).c1 g1.free trivial ?_
  rintro v mu' n' g rfl
  have g2:=g1.trans (g.weaken g1.le)
  cases hp : ptB l[i] with
  | true =>
   simp only [↓E1,E2,zA,zB,zC,zD,zE,zF,zG,zH,zI,zJ,zK,zL,zM,zN,reduceIte,zO,zP,hc,hw]
   exact hy (by simp [hi,hp]) _ _ _ ⟨g2,by simp [updN,updE,h0],by simp [updN,updE]⟩
  | false =>
   simp only [↓E1,E2,zA,zB,zC,zD,zE,zF,zG,zH,zI,zJ,zK,zL,zM,zN,reduceIte,zO,zP]
   exact hn (by simp [hi,hp]) _ _ _ ⟨g2,by simp [updN,updE]⟩
 ·rintro e mu1 n1 K ⟨g1,h0,hc⟩ hx
  rw [dc_at l_Qdb_0.eq_1]
  have hlt : (l.length < l.length) = False:=by simp
  simp only [↓E1,E2,zA,zB,zC,zD,zE,zF,zG,zH,zI,zJ,zK,zL,zM,zN,reduceIte,zO,zP,h0,hc,hlt,xl,xs]
  exact hx _ _ _ ⟨g1,by simp [updN,updE,h0],by simp [updN,updE,hc]⟩
 ·intro ha e' mu' n' ⟨g,h0,_⟩
  simp only [↓E1,E2,zA,zB,zC,zD,zE,zF,zG,zH,zI,zJ,zK,zL,zM,zN,reduceIte,zO,zP,h0,xl,xs]
  exact leafB h g (by unfold Qix; rw [Qkd ha]; simp; try omega)
 ·intro hx e' mu' n' ⟨g,hR⟩
  simp only [↓E1,E2,zA,zB,zC,zD,zE,zF,zG,zH,zI,zJ,zK,zL,zM,zN,reduceIte,zO,zP,hR]
  exact leafB h g (by unfold Qix; rw [Qgw hx]; simp)
theorem ref4_EntryMay (e : Ent) (b : SV) (hl : e.batch.length ≤ 1152921504606846976) : BoolC P n_Qb6 [.ag (entC e b)] (λM=>PtsR M b e.batch) (entB e):=boolC H.mx H.Qb6 0 λfz mu n k hfr gg s1 h=>by
 obtain ⟨xl,xs,xk,xm⟩:=s1.len
 rw [i_Qb6,dc_at b_Qb6.eq_1]
 unfold entC
 have hA : True:=trivial
 have hle:=Nat.le_refl n
 simp only [↓E1,E2,zA,zB,zC,zD,zE,zF,zG,zH,zI,zJ,zK,zL,zM,zN,reduceIte,zO,zP,xl,xs,xk,xm]
 repeat' (first | ((with_reducible refine Qdv (λhb=>?_) (λhb=>?_)) <;> (replace hA:=And.intro hA hb; clear hb; simp only [↓E1,E2,zA,zB,zC,zD,zE,zF,zG,zH,zI,zJ,zK,zL,zM,zN,reduceIte,zO,zP, *])) | ((with_reducible refine CPr_f (f:=n_Qda) ?_); ((first | (refine (ref1_Count H _).d2 hfr (by first | trivial | exact s1 | assumption) ?_; rintro v mu2 n2 g2 rfl) | (refine (ref1_Count H _).d3 hfr (λhm=>by first | trivial | exact PtsR.mono hm s1) ?_; rintro v mu2 n2 g2 b1 rfl) | (refine (ref1_Count H _).c1 hfr (by first | trivial | exact s1 | assumption) ?_; rintro v mu2 n2 g2 rfl) | (refine (ref1_Count H _).c2 hfr (λhm=>by first | trivial | exact PtsR.mono hm s1) ?_; rintro v mu2 n2 g2 b1 rfl) | (refine (ref1_Count H _).c3 hfr (λhm=>by first | trivial | exact PtsR.mono hm s1) ?_; rintro v mu2 n2 g2 b1 b2 rfl)); (try replace b1:=g2.old hfr b1); (try replace s1:=PtsR.mono (λ_ _ hh=>g2.old hfr hh) s1); replace gg:=gg.trans (g2.weaken hle); replace hle:=Nat.le_trans hle g2.le; replace hfr:=g2.free; clear g2; simp only [↓E1,E2,zA,zB,zC,zD,zE,zF,zG,zH,zI,zJ,zK,zL,zM,zN,reduceIte,zO,zP, *])) | ((with_reducible refine CPr_f (f:=n_Qdb) ?_); ((first | (refine (ref1_Batch H b e.batch hl).d2 hfr (by first | trivial | exact s1 | assumption) ?_; rintro v mu2 n2 g2 rfl) | (refine (ref1_Batch H b e.batch hl).d3 hfr (λhm=>by first | trivial | exact PtsR.mono hm s1) ?_; rintro v mu2 n2 g2 b1 rfl) | (refine (ref1_Batch H b e.batch hl).c1 hfr (by first | trivial | exact s1 | assumption) ?_; rintro v mu2 n2 g2 rfl) | (refine (ref1_Batch H b e.batch hl).c2 hfr (λhm=>by first | trivial | exact PtsR.mono hm s1) ?_; rintro v mu2 n2 g2 b1 rfl) | (refine (ref1_Batch H b e.batch hl).c3 hfr (λhm=>by first | trivial | exact PtsR.mono hm s1) ?_; rintro v mu2 n2 g2 b1 b2 rfl)); (try replace b1:=g2.old hfr b1); (try replace s1:=PtsR.mono (λ_ _ hh=>g2.old hfr hh) s1); replace gg:=gg.trans (g2.weaken hle); replace hle:=Nat.le_trans hle g2.le; replace hfr:=g2.free; clear g2; simp only [↓E1,E2,zA,zB,zC,zD,zE,zF,zG,zH,zI,zJ,zK,zL,zM,zN,reduceIte,zO,zP, *])))
 all_goals try (refine leafB h (by first | exact gg | exact gg.cons hle _ | exact (gg.cons hle _).cons (Nat.le_succ_of_le hle) _) ?_; (clear h gg hle hfr); (try clear loop); (try clear loop0); (try clear loop1); (try clear s1); (try clear s2); (try clear s3); (try clear s4); (try clear b1); (try clear b2); clear xl xs xk xm; first | (simp_all [entB,-List.length_eq_zero_iff]; done) | (simp_all [entB,-List.length_eq_zero_iff]; omega))
end Go.Proofs.YtnnjlnkoomeadaaGreat.Pv
namespace Go.Proofs.YtnnjlnkoomeadaaGreat.Pv
open Go.Ev Go.Ev.Rp
set_option maxRecDepth 100000
set_option maxHeartbeats 4000000
def RepS (M : Fz) (r : Rep) (xe xa xs xd : SV) : Prop:=EntsR M xe r.log.ents ∧ IntsR M xa r.acks ∧ IntsR M xs r.starts ∧ DvsR M xd r.dos
def MsgS (M : Fz) (m : Msg) (xb xe : SV) : Prop:=PtsR M xb m.batch ∧ EntsR M xe m.log.ents
theorem RepS.mono {M M' : Fz} (hm : ∀ id B,M id = some B → M' id = some B) {r : Rep} {xe xa xs xd : SV} (h : RepS M r xe xa xs xd) : RepS M' r xe xa xs xd:=⟨EntsR.mono hm h.1,IntsR.mono hm h.2.1,IntsR.mono hm h.2.2.1,DvsR.mono hm h.2.2.2⟩
theorem MsgS.mono {M M' : Fz} (hm : ∀ id B,M id = some B → M' id = some B) {m : Msg} {xb xe : SV} (h : MsgS M m xb xe) : MsgS M' m xb xe:=⟨PtsR.mono hm h.1,EntsR.mono hm h.2⟩
def Ok (l : Lg) : Prop:=∀ e ∈ l.ents,e.batch.length ≤ 1152921504606846976
variable {P : Program} (H : Fs P)
include H
theorem ref4_LogMay (l : Lg) (x : SV) (hok : Ok l) : BoolC P n_Qc1 [.ag (lgC l x)] (fun M => EntsR M x l.ents) (lgB l) := boolC H.mx H.Qc1 4098 fun fz mu n k hfr gg s1 h => by
 obtain ⟨xl,xs,xk,xm⟩:=s1.len
 have hfr0:=hfr
 have z1:=s1
 have loop : Hide (∀ (e : Env) mu1 n1 (K : LK) w,l.ents.length ≤ 4096 → Gr n fz mu mu1 n n1 → with' mu1 fz n = some (lgC l x) → e 0 1 = .one (.optr n 0) → e 0 3 = .one (.int .i64 0) →
  (l.ents.all entB = true → ∀ e' mu' n',Gr n fz mu mu' n n' → K (.exit 0) (tmE 44 e') mu' n') → (l.ents.all entB = false → ∀ e' mu' n',Gr n fz mu mu' n n' → e' 0 2 = .one (.bool false) → K .ret (tmE 44 e') mu' n') →
  Lp (dcode pOrc False (CP P) fz 4098 l_Qc1_0) 4098 (tmE 44 e) mu1 n1 K w):=⟨by
  intro e mu1 n1 K w hl g1 b1 h0 hc hd hr
  refine loopI (x:=0) (L:=l.ents.length) (p:=λi=>(l.ents[i]?.map entB).getD true) (λi e mu' n'=>Gr n fz mu mu' n n' ∧ with' mu' fz n = some (lgC l x) ∧ e 0 1 = .one (.optr n 0) ∧ e 0 3 = .one (.int .i64 i)) (λe mu' n'=>Gr n fz mu mu' n n' ∧ e 0 2 = .one (.bool false)) ?_ ?_ e mu1 n1 K w (by omega) ⟨g1,b1,h0,hc⟩ (λha e' mu' n' hI=>hd (Qkd ha) e' mu' n' hI.1) (λhx e' mu' n' hR=>hr (Qgw hx) e' mu' n' hR.1 hR.2)
  ·rintro i e mu1 n1 K hi ⟨g1,b1,h0,hc⟩ hy hn
   have b0:=b1
   have t1:=EntsR.mono (λ_ _ hh=>g1.old hfr0 hh) z1
   obtain ⟨id,off,cap,B,bx,rfl,hB,hmk,hbd,hsub,s2⟩:=t1.elem hi
   have hw:=Qdt hi (by omega)
   unfold lgC at b1
   unfold entC at hsub
   rw [dc_at l_Qc1_0.eq_1]
   simp only [↓E1,E2,zA,zB,zC,zD,zE,zF,zG,zH,zI,zJ,zK,zL,zM,zN,reduceIte,zO,zP,h0,hc,hi,hB,hmk,hbd,hsub,b1]
   refine (ref4_EntryMay H l.ents[i] bx (hok _ (List.getElem_mem hi))).c1 g1.free s2 ?_
   rintro v mu' n' g rfl
   have g2:=g1.trans (g.weaken g1.le)
   have b2:=g.old g1.free b0
   cases hp : entB l.ents[i] with
   | true =>
    simp only [↓E1,E2,zA,zB,zC,zD,zE,zF,zG,zH,zI,zJ,zK,zL,zM,zN,reduceIte,zO,zP,hc,hw]
    exact hy (by simp [hi,hp]) _ _ _ ⟨g2,b2,by simp [updN,updE,h0],by simp [updN,updE]⟩
   | false =>
    simp only [↓E1,E2,zA,zB,zC,zD,zE,zF,zG,zH,zI,zJ,zK,zL,zM,zN,reduceIte,zO,zP]
    exact hn (by simp [hi,hp]) _ _ _ ⟨g2,by simp [updN,updE]⟩
  ·rintro e mu1 n1 K ⟨g1,b1,h0,hc⟩ hx
   have b0:=b1
   unfold lgC at b1
   rw [dc_at l_Qc1_0.eq_1]
   have hlt : (l.ents.length < l.ents.length) = False:=by simp
   simp only [↓E1,E2,zA,zB,zC,zD,zE,zF,zG,zH,zI,zJ,zK,zL,zM,zN,reduceIte,zO,zP,h0,hc,hlt,xl,xs,b1]
   exact hx _ _ _ ⟨g1,b0,by simp [updN,updE,h0],by simp [updN,updE,hc]⟩⟩
 rw [i_Qc1,dc_at b_Qc1.eq_1]
 unfold lgC
 have hA : True:=trivial
 have hle:=Nat.le_refl n
 simp only [↓E1,E2,zA,zB,zC,zD,zE,zF,zG,zH,zI,zJ,zK,zL,zM,zN,reduceIte,zO,zP,xl,xs,xk,xm,Qgr]
 repeat' (first | ((with_reducible refine Qdv (λhb=>?_) (λhb=>?_)) <;> (replace hA:=And.intro hA hb; clear hb; simp only [↓E1,E2,zA,zB,zC,zD,zE,zF,zG,zH,zI,zJ,zK,zL,zM,zN,reduceIte,zO,zP, *,Qgr])) | ((with_reducible refine CPr_f (f:=n_Qda) ?_); ((first | (refine (ref1_Count H _).d2 hfr (by first | trivial | exact s1 | assumption) ?_; rintro v mu2 n2 g2 rfl) | (refine (ref1_Count H _).d3 hfr (λhm=>by first | trivial | exact EntsR.mono hm s1) ?_; rintro v mu2 n2 g2 b1 rfl) | (refine (ref1_Count H _).c1 hfr (by first | trivial | exact s1 | assumption) ?_; rintro v mu2 n2 g2 rfl) | (refine (ref1_Count H _).c2 hfr (λhm=>by first | trivial | exact EntsR.mono hm s1) ?_; rintro v mu2 n2 g2 b1 rfl) | (refine (ref1_Count H _).c3 hfr (λhm=>by first | trivial | exact EntsR.mono hm s1) ?_; rintro v mu2 n2 g2 b1 b2 rfl)); (try replace b1:=g2.old hfr b1); (try replace s1:=EntsR.mono (λ_ _ hh=>g2.old hfr hh) s1); replace gg:=gg.trans (g2.weaken hle); replace hle:=Nat.le_trans hle g2.le; replace hfr:=g2.free; clear g2; simp only [↓E1,E2,zA,zB,zC,zD,zE,zF,zG,zH,zI,zJ,zK,zL,zM,zN,reduceIte,zO,zP, *,Qgr])))
 all_goals try (refine leafB h (by first | exact gg | exact gg.cons hle _ | exact (gg.cons hle _).cons (Nat.le_succ_of_le hle) _) ?_; (clear h gg hle hfr); (try clear loop); (try clear loop0); (try clear loop1); (try clear s1); (try clear s2); (try clear s3); (try clear s4); (try clear b1); (try clear b2); clear xl xs xk xm hfr0 z1; first | (simp_all [lgB,countB,-List.length_eq_zero_iff]; done) | (simp_all [lgB,countB,-List.length_eq_zero_iff]; omega))
 all_goals ((with_reducible refine Lp_at ?_); refine loop.out _ _ _ _ _ (by clear loop h; simp at hA; omega) gg b1 (by simp [updN,updE]) (by simp [updN,updE]) (λhr e2 mu2 n2 g2=>?_) (λhr e2 mu2 n2 g2 a1=>?_))
 all_goals (replace hA:=And.intro hA hr; clear hr; simp only [↓E1,E2,zA,zB,zC,zD,zE,zF,zG,zH,zI,zJ,zK,zL,zM,zN,reduceIte,zO,zP, *]; refine leafB h g2 ?_; clear h g2 loop b1 xl xs xk xm s1 z1; first | (simp_all [lgB,countB,-List.length_eq_zero_iff]; done) | (simp_all [lgB,countB,-List.length_eq_zero_iff]; omega))
theorem ref16_lead (r : Rep) (xe xa xs xd : SV) : BoolC P n_Qc7 [.ag (repC r xe xa xs xd)] (λM=>EntsR M xe r.log.ents ∧ IntsR M xa r.acks ∧ IntsR M xs r.starts ∧ DvsR M xd r.dos) (leadB r):=boolC H.mx H.Qc7 0 λfz mu n k hfr gg s h=>by
 obtain ⟨s1,s2,s3,s4⟩:=s
 obtain ⟨-,-,xek,xem⟩:=s1.len
 obtain ⟨-,-,xak,xam⟩:=s2.len
 obtain ⟨-,-,xsk,xsm⟩:=s3.len
 obtain ⟨-,-,xdk,xdm⟩:=s4.len
 rw [i_Qc7,dc_at b_Qc7.eq_1]
 unfold repC
 have hA : True:=trivial
 have hle:=Nat.le_refl n
 simp only [↓E1,E2,zA,zB,zC,zD,zE,zF,zG,zH,zI,zJ,zK,zL,zM,zN,reduceIte,zO,zP, *]
 repeat' (first | ((with_reducible refine Qdv (λhb=>?_) (λhb=>?_)) <;> (replace hA:=And.intro hA hb; clear hb; simp only [↓E1,E2,zA,zB,zC,zD,zE,zF,zG,zH,zI,zJ,zK,zL,zM,zN,reduceIte,zO,zP, *,Qgr])) | ((with_reducible refine CPr_f (f:=n_Qcc) ?_); ((first | (refine (ref16_Primary H _ _).d2 hfr (by first | trivial | assumption) ?_; rintro v mu2 n2 g2 rfl) | (refine (ref16_Primary H _ _).d3 hfr (λhm=>by first | trivial) ?_; rintro v mu2 n2 g2 b1 rfl) | (refine (ref16_Primary H _ _).c1 hfr (by first | trivial | assumption) ?_; rintro v mu2 n2 g2 rfl) | (refine (ref16_Primary H _ _).c2 hfr (λhm=>by first | trivial) ?_; rintro v mu2 n2 g2 b1 rfl) | (refine (ref16_Primary H _ _).c3 hfr (λhm=>by first | trivial) ?_; rintro v mu2 n2 g2 b1 b2 rfl)); (try replace b1:=g2.old hfr b1); replace gg:=gg.trans (g2.weaken hle); replace hle:=Nat.le_trans hle g2.le; replace hfr:=g2.free; clear g2; simp only [↓E1,E2,zA,zB,zC,zD,zE,zF,zG,zH,zI,zJ,zK,zL,zM,zN,reduceIte,zO,zP, *,Qgr])))
 all_goals try (refine leafB h (by first | exact gg | exact gg.cons hle _ | exact (gg.cons hle _).cons (Nat.le_succ_of_le hle) _) ?_; (clear h gg hle hfr); (try clear loop); (try clear loop0); (try clear loop1); (try clear s1); (try clear s2); (try clear s3); (try clear s4); (try clear b1); (try clear b2); clear xek xem xak xam xsk xsm xdk xdm; first | (simp_all [leadB,Qgs]; done) | (simp_all [leadB,Qgs]; omega))
end Go.Proofs.YtnnjlnkoomeadaaGreat.Pv
namespace Go.Proofs.YtnnjlnkoomeadaaGreat.Pv
open Go.Ev Go.Ev.Rp
set_option maxRecDepth 100000
set_option maxHeartbeats 4000000
theorem nil_Sl {M : Fz} {s : Nat} {x : SV} {es : List (List SV)} (h : Sl M s x es) : ∃ b,nilness true x = some b ∧ (b = true → x = .nsl ∧ es = []):=by
 rcases h with ⟨h,rfl⟩ | ⟨id,off,cap,B,rfl,_⟩
 ·rcases h with rfl | rfl | rfl
  ·exact ⟨true,rfl,λ_=>⟨rfl,rfl⟩⟩
  ·exact ⟨false,rfl,λh=>by cases h⟩
  ·exact ⟨false,rfl,λh=>by cases h⟩
 ·exact ⟨false,rfl,λh=>by cases h⟩
variable {P : Program} (H : Fs P)
include H
theorem Qg6 (x : SV) (l : List Int) (hl : l.length ≤ 17592186044415) : Ctr P n_Qao [.one x] (λM=>IntsR M x l) (λn _ M v=>∃ x',v = .one x' ∧ IntsX (From n M) x' l):=Ctr.of H.mx H.Qao (λ_=>0) λfz mu n k hfr s1 hk=>by
 obtain ⟨xl,xs,xk,xm⟩:=s1.len
 obtain ⟨b,hb1,hb2⟩:=nil_Sl s1
 rw [i_Qao,dc_at b_Qao.eq_1]
 simp only [↓E1,E2,zA,zB,zC,zD,zE,zF,zG,zH,zI,zJ,zK,zL,zM,zN,reduceIte,zO,zP, *]
 cases b with
 | true =>
  obtain ⟨-,he⟩:=hb2 rfl
  simp only [↓E1,E2,zA,zB,zC,zD,zE,zF,zG,zH,zI,zJ,zK,zL,zM,zN,reduceIte,zO,zP, *]
  exact hk _ _ _ (Gr.refl hfr) ⟨.nsl,rfl,.inl ⟨.inl rfl,he⟩⟩
 | false =>
  clear hb2
  simp only [↓E1,E2,zA,zB,zC,zD,zE,zF,zG,zH,zI,zJ,zK,zL,zM,zN,reduceIte,zO,zP, *]
  obtain ⟨h1,h2⟩:=Qf4 (Sl.mono s1 (sub1 hfr (c:=[])))
  rw [h1]; clear h1
  refine ⟨h2,Qf9 hfr (Qef (by simp; omega) (by decide) (by decide)) Qg0 (λx' mu' n' g hx=>?_)⟩
  simp only [↓E1,E2,zA,zB,zC,zD,zE,zF,zG,zH,zI,zJ,zK,zL,zM,zN,reduceIte,zO,zP]
  exact hk _ _ _ g ⟨x',rfl,hx⟩
theorem Qhl (x : SV) (cs : List (List SV)) (hl : cs.length ≤ 1954687338267) : Ctr P n_Qak [.one x] (λM=>Sl M 6 x cs) (λn _ M v=>∃ x',v = .one x' ∧ SlX (From n M) 6 x' cs):=Ctr.of H.mx H.Qak (λ_=>0) λfz mu n k hfr s1 hk=>by
 obtain ⟨b,hb1,hb2⟩:=nil_Sl s1
 have hcs : ∀ e ∈ cs,e.length = 6 ∧ Qdo e = true:=by
  rcases s1 with ⟨_,rfl⟩ | ⟨_,_,_,_,_,_,_,_,_,_,h⟩
  ·intro e he; cases he
  ·exact h
 rw [i_Qak,dc_at b_Qak.eq_1]
 simp only [↓E1,E2,zA,zB,zC,zD,zE,zF,zG,zH,zI,zJ,zK,zL,zM,zN,reduceIte,zO,zP, *]
 cases b with
 | true =>
  obtain ⟨-,he⟩:=hb2 rfl
  simp only [↓E1,E2,zA,zB,zC,zD,zE,zF,zG,zH,zI,zJ,zK,zL,zM,zN,reduceIte,zO,zP, *]
  exact hk _ _ _ (Gr.refl hfr) ⟨.nsl,rfl,.inl ⟨.inl rfl,he⟩⟩
 | false =>
  clear hb2
  simp only [↓E1,E2,zA,zB,zC,zD,zE,zF,zG,zH,zI,zJ,zK,zL,zM,zN,reduceIte,zO,zP, *]
  obtain ⟨h1,h2⟩:=Qf4 (Sl.mono s1 (sub1 hfr (c:=[])))
  rw [h1]; clear h1
  refine ⟨h2,Qf9 hfr (Qef (by omega) (by decide) (by decide)) hcs (λx' mu' n' g hx=>?_)⟩
  simp only [↓E1,E2,zA,zB,zC,zD,zE,zF,zG,zH,zI,zJ,zK,zL,zM,zN,reduceIte,zO,zP]
  exact hk _ _ _ g ⟨x',rfl,hx⟩
theorem message_Clone (m : Msg) (xb xe : SV) (hl : m.batch.length ≤ 4398046511104) (hL : m.log.ents.length ≤ 2513169434916) (hb : ∀ e ∈ m.log.ents,e.batch.length ≤ 4398046511104) : Ctr P n_Qce [.ag (msgC m xb xe)] (λM=>MsgS M m xb xe) (λn _ M v=>∃ xb' xe',v = .ag (msgC m xb' xe') ∧ PtsX (From n M) xb' m.batch ∧ EntsX (From n M) xe' m.log.ents):=Ctr.of H.mx H.Qce (λ_=>0) λfz mu n k hfr s hk=>by
 obtain ⟨s1,s2⟩:=s
 obtain ⟨xl,xs,xk,xm⟩:=s1.len
 obtain ⟨yl,ys,yk,ym⟩:=s2.len
 have hE:=message_CloneLog H m.log xe hL hb
 have hmc : msgC m xb xe = msgC m xb xe:=rfl
 conv at hmc=>rhs; unfold msgC
 unfold lgC at hE
 rw [i_Qce,dc_at b_Qce.eq_1]
 unfold msgC
 simp only [↓E1,E2,zA,zB,zC,zD,zE,zF,zG,zH,zI,zJ,zK,zL,zM,zN,reduceIte,zO,zP, *]
 obtain ⟨h1,h2⟩:=Qf4 (Sl.mono s1 (sub2 hfr (c:=msgC m xb xe) (d:=[I 0,I 0,I 0,I 0,I 0,I 0,I 0,I 0,I 0,I 0,I 0,I 0,I 0,I 0,.str 0 0,.nsl,I 0,.str 0 0,.nsl,.str 0 0])))
 unfold msgC at h1
 rw [h1]; clear h1
 refine ⟨h2,app_nil (.inl rfl) (gr2 hfr).free (Qef (by simp; omega) (by decide) (by decide)) pt_ok (λxb' mu1 n1 g1 hb'=>?_)⟩
 have g1':=(gr2 hfr).trans (g1.weaken (by omega))
 have b1:=(g1.own n (by omega)).trans (by simp [Qdw]; rfl)
 have b2:=(g1.own (n + 1) (by omega)).trans (by simp [Qdw]; rfl)
 have zk:=(SlX.len hb').2.2.1
 have zm:=(SlX.len hb').2.2.2
 simp only [↓E1,E2,zA,zB,zC,zD,zE,zF,zG,zH,zI,zJ,zK,zL,zM,zN,reduceIte,zO,zP, *,Qel,Qdm,Option.isSome_some]
 have ga:=g1'.put (Nat.le_refl _) b1 (c:=msgC m xb' xe)
 unfold msgC at ga
 refine hE.c1 ga.free (EntsR.mono (ga.sub hfr (Nat.le_refl _)) s2) ?_
 rintro v mu2 n2 g2 ⟨xe',rfl,he'⟩
 have b3 : Ev.look mu2 n = some (msgC m xb' xe):=by rw [g2.own n (by have:=g1.le; omega),Qdm,if_pos rfl,b1]; rfl
 have b4:=(show Ev.look mu2 (n + 1) = Ev.look mu1 (n + 1) from by rw [g2.own (n + 1) (by have:=g1.le; omega),Qdm,if_neg (by omega)]).trans b2
 have yk':=he'.choose_spec.1.len.2.2.1
 have ym':=he'.choose_spec.1.len.2.2.2
 have gb:=((ga.trans (g2.weaken (by have:=g1.le; omega))).put (Nat.le_refl _) b3 (c:=msgC m xb' xe')).put (c:=msgC m xb' xe') (id:=n + 1) (by omega) (by rw [Qdm,if_neg (by omega)]; exact b4)
 have f1 : Sub (From (n + 1 + 1) (with' mu2 fz)) (From n (with' (putS (putS mu2 n (msgC m xb' xe')) (n + 1) (msgC m xb' xe')) fz)) :=
  ((From.put (by omega) b3).trans (From.put (by omega) (by rw [Qdm,if_neg (by omega)]; exact b4))).trans (From.le (by omega))
 have hb2:=SlX.mono hb' ((From.put (by omega) b1 (d':=msgC m xb' xe)).trans ((From.mono (g2.sub ga.free (Nat.le_refl _))).trans f1))
 have he2:=EntsX.mono ((From.le (by have:=g1.le; omega)).trans f1) he'
 unfold msgC at gb hb2 he2 b3
 simp only [↓E1,E2,zA,zB,zC,zD,zE,zF,zG,zH,zI,zJ,zK,zL,zM,zN,reduceIte,zO,zP, *,Qel,Qdm,Option.isSome_some,Option.map_some]
 exact hk _ _ _ gb ⟨xb',xe',rfl,hb2,he2⟩
end Go.Proofs.YtnnjlnkoomeadaaGreat.Pv
namespace Go.Ev
def Tag (o : Nat → Nat) (t : Nat) (M : Fz) : Fz:=λj=>if o j = t then M j else none
theorem Tag.at {o : Nat → Nat} {t j : Nat} {M : Fz} {B : List SV} (h : o j = t) (g : M j = some B) : Tag o t M j = some B:=by unfold Tag; rw [if_pos h]; exact g
theorem Tag.el {o : Nat → Nat} {t j : Nat} {M : Fz} {B : List SV} (h : Tag o t M j = some B) : o j = t ∧ M j = some B:=by
 unfold Tag at h
 split at h
 ·rename_i e; exact ⟨e,h⟩
 ·cases h
theorem Tag.sub {o : Nat → Nat} {t : Nat} {M : Fz} : Sub (Tag o t M) M:=λ_ _ h=>(Tag.el h).2
theorem Tag.mono {o : Nat → Nat} {t : Nat} {M M' : Fz} (h : Sub M M') : Sub (Tag o t M) (Tag o t M'):=λ_ _ g=>Tag.at (Tag.el g).1 (h _ _ (Tag.el g).2)
def tagN (o : Nat → Nat) (n : Nat) (τ : Nat → Nat) : Nat → Nat:=λj=>if j < n then o j else τ j
theorem Qea {o τ : Nat → Nat} {n j : Nat} (h : j < n) : tagN o n τ j = o j:=by unfold tagN; rw [if_pos h]
theorem Qga {o τ : Nat → Nat} {n j : Nat} (h : n ≤ j) : tagN o n τ j = τ j:=by unfold tagN; rw [if_neg (by omega)]
theorem Tag.old {o τ : Nat → Nat} {t n : Nat} {fz : Fz} {mu mu' : St} (hf : Free fz mu n) (h : Sub (with' mu fz) (with' mu' fz)) : Sub (Tag o t (with' mu fz)) (Tag (tagN o n τ) t (with' mu' fz)):=λj B g=>by
 obtain ⟨g1,g2⟩:=Tag.el g
 exact Tag.at (by rw [Qea (hf.lt g2)]; exact g1) (h _ _ g2)
theorem Tag.new {o τ : Nat → Nat} {t n : Nat} {M : Fz} (h : ∀ j,n ≤ j → τ j = t) : Sub (From n M) (Tag (tagN o n τ) t M):=λj B g=>by
 obtain ⟨g1,g2⟩:=From.el g
 exact Tag.at (by rw [Qga g1]; exact h j g1) g2
theorem Tag.put {o : Nat → Nat} {t id : Nat} {fz : Fz} {mu : St} {c : List SV} (h : (look mu id).isSome = true) (ho : o id ≠ t) : Sub (Tag o t (with' mu fz)) (Tag o t (with' (putS mu id c) fz)):=λj B g=>by
 obtain ⟨g1,g2⟩:=Tag.el g
 exact Tag.at g1 (by rw [Qel h,if_neg (by rintro rfl; exact ho g1)]; exact g2)
def Qff (x : SV) (a b : Nat) : Nat → Nat:=λj=>if blk x = some j then a else b
theorem Grow.tag {α : Type} {R : Fz → List SV → α → Prop} (hR : ∀ {M M' c a},Sub M M' → R M c a → R M' c a) {lo : Nat} {M : Fz} {s : Nat} {x : SV} {l : List α} (G : Grow lo M s R x l) {o : Nat → Nat} {a b : Nat} :
 ∃ cs,SlX (Tag (tagN o lo (Qff x a b)) a M) s x cs ∧ All2 (R (Tag (tagN o lo (Qff x a b)) b M)) cs l:=by
 obtain ⟨cs,h1,h2⟩:=G
 refine ⟨cs,?_,h2.imp λc d h=>hR (λj B g=>?_) h⟩
 ·rcases h1 with h1 | ⟨id,g1,g2,g3⟩
  ·exact .inl h1
  ·obtain ⟨g4,g5⟩:=From.el g2
   exact .inr ⟨id,g1,Tag.at (by rw [Qga g4]; unfold Qff; rw [if_pos (by rw [g1]; rfl)]) g5,g3⟩
 ·obtain ⟨g1,g2⟩:=Ex.el g
  obtain ⟨g3,g4⟩:=From.el g2
  exact Tag.at (by rw [Qga g3]; unfold Qff; rw [if_neg g1]) g4
theorem Qo2 {s : Nat} : ∀ {es : List (List SV)} {i k : Nat} {vs : List SV},(∀ e ∈ es,e.length = s) → (hi : i < es.length) → k + vs.length ≤ s → over es.flatten (i * s + k) vs = (es.set i (over es[i] k vs)).flatten
 | [],i,_,_,_,h,_=>by simp at h
 | e :: es,0,k,vs,hl,_,hk=>by
  have he:=hl e (by simp)
  simp only [Nat.zero_mul,Nat.zero_add,List.flatten_cons,List.set_cons_zero,List.getElem_cons_zero,over]
  rw [List.take_append,List.drop_append,show k - e.length = 0 by omega,show k + vs.length - e.length = 0 by omega]
  simp
 | e :: es,i + 1,k,vs,hl,hi,hk=>by
  have he:=hl e (by simp)
  have ih:=Qo2 (es:=es) (i:=i) (k:=k) (vs:=vs) (λx hx=>hl x (by simp [hx])) (by simpa using hi) hk
  simp only [List.flatten_cons,List.set_cons_succ,List.getElem_cons_succ]
  rw [← ih,show (i + 1) * s + k = e.length + (i * s + k) by rw [Nat.add_mul,he]; omega]
  simp only [over]
  rw [List.take_append,List.drop_append,List.take_of_length_le (by omega),List.drop_eq_nil_of_le (by omega),show e.length + (i * s + k) - e.length = i * s + k by omega,show e.length + (i * s + k) + vs.length - e.length = i * s + k + vs.length by omega]
  simp
theorem Qmp {s : Nat} : ∀ {es : List (List SV)} {i k m : Nat},(∀ e ∈ es,e.length = s) → (hi : i < es.length) → k + m ≤ s → (es.flatten.drop (i * s + k)).take m = (es[i].drop k).take m
 | [],i,_,_,_,h,_=>by simp at h
 | e :: es,0,k,m,hl,_,hk=>by
  have he:=hl e (by simp)
  simp only [Nat.zero_mul,Nat.zero_add,List.flatten_cons,List.getElem_cons_zero]
  rw [List.drop_append,show k - e.length = 0 by omega,List.drop_zero,List.take_append,show m - (e.drop k).length = 0 by simp; omega]
  simp
 | e :: es,i + 1,k,m,hl,hi,hk=>by
  have he:=hl e (by simp)
  have ih:=Qmp (es:=es) (i:=i) (k:=k) (m:=m) (λx hx=>hl x (by simp [hx])) (by simpa using hi) hk
  simp only [List.flatten_cons,List.getElem_cons_succ]
  rw [← ih,show (i + 1) * s + k = e.length + (i * s + k) by rw [Nat.add_mul,he]; omega,List.drop_append,List.drop_eq_nil_of_le (by omega),show e.length + (i * s + k) - e.length = i * s + k by omega]
  simp
section
variable {P : Program} {f : Nat} {args : List AV} {fz : Fz} {mu : St} {n : Nat} {k : KT Prop} {w : WK k} {c d e : List SV}
theorem CPr.abs1 (hfr : Free fz mu n) (h : ∀ mu1 n1,Gr n fz mu mu1 n n1 → n + 1 ≤ n1 → look mu1 n = some c → CPr P f args fz mu1 n1 k w) : CPr P f args fz ((n,c) :: mu) (n + 1) k w :=
 h _ _ ((Gr.refl hfr).cons (Nat.le_refl _) _) (Nat.le_refl _) (by rw [Qdw,if_pos rfl])
theorem CPr.abs2 (hfr : Free fz mu n) (h : ∀ mu1 n1,Gr n fz mu mu1 n n1 → n + 2 ≤ n1 → look mu1 n = some c → look mu1 (n + 1) = some d → CPr P f args fz mu1 n1 k w) : CPr P f args fz ((n + 1,d) :: (n,c) :: mu) (n + 1 + 1) k w :=
 h _ _ (((Gr.refl hfr).cons (Nat.le_refl _) _).cons (by omega) _) (Nat.le_refl _) (by rw [Qdw,if_neg (by omega),Qdw,if_pos rfl]) (by rw [Qdw,if_pos rfl])
end
def Ids (a : St) (lo hi : Nat) : Prop:=∀ id,look a id ≠ none → lo ≤ id ∧ id < hi
theorem Qi1 {a b m : St} {id : Nat} (h : look a id ≠ none → look b id = none) : look (a ++ (b ++ m)) id = look (b ++ (a ++ m)) id:=by
 rw [Qd2,Qd2,Qd2,Qd2]
 cases ea : look a id with
 | none=>cases look b id <;> rfl
 | some c=>rw [h (by rw [ea]; simp)]
theorem Qq9 {a m m' : St} {id : Nat} (h : look m id = look m' id) : look (a ++ m) id = look (a ++ m') id:=by rw [Qd2,Qd2,h]
theorem Ids.apart {a b : St} {l1 h1 l2 h2 id : Nat} (ha : Ids a l1 h1) (hb : Ids b l2 h2) (h : h1 ≤ l2 ∨ h2 ≤ l1) (hn : look a id ≠ none) : look b id = none:=by
 have:=ha id hn
 cases eb : look b id with
 | none=>rfl
 | some c=>have:=hb id (by rw [eb]; simp); omega
theorem Gr.congr {lo : Nat} {fz : Fz} {mu mu1 mu2 : St} {n n' : Nat} (g : Gr lo fz mu mu1 n n') (h : ∀ id,look mu2 id = look mu1 id) : Gr lo fz mu mu2 n n' :=
 ⟨g.le,λid hi=>by rw [Qdq (h id)]; exact g.ext id hi,λid hi=>by rw [h]; exact g.own id hi,λj=>by rw [Qdq (h _)]; exact g.free j⟩
theorem Qhy {mu1 mu2 : St} {fz : Fz} (h : ∀ id,look mu2 id = look mu1 id) : with' mu2 fz = with' mu1 fz:=by funext id; exact Qdq (h id)
theorem Ctr.d4 {P : Program} {f : Nat} {args : List AV} {pre : Fz → Prop} {post : Nat → Nat → Fz → AV → Prop} {fz : Fz} {mu : St} {n : Nat} {k : KT Prop} (h : Ctr P f args pre post) {w : WK k} (hf : Free fz mu n) (hp : pre (with' mu fz))
 (hk : ∀ v new n',Gr n fz mu (new ++ mu) n n' → Ids new n n' → post n n' (with' (new ++ mu) fz) v → k v new n') : CPr P f args (with' mu fz) [] n k w :=
 h.d1 hf hp λv new n' hg hpost=>hk v new n' (hg.join hf (Nat.le_refl _)) (λid hn=>by
  refine ⟨?_,?_⟩
  ·rcases Nat.lt_or_ge id n with h1 | h1
   ·exfalso; exact hn (hg.own id h1)
   ·exact h1
  ·rcases Nat.lt_or_ge id n' with h1 | h1
   ·exact h1
   ·exfalso
    refine hn ?_
    have:=hg.free.none h1
    rw [Qd6] at this
    cases e : look new id with
    | none=>rfl
    | some c=>rw [e] at this; cases this) (by rw [Qf0]; exact hpost)
end Go.Ev
namespace Go.Proofs.YtnnjlnkoomeadaaGreat.Pv
open Go.Ev Go.Ev.Rp
set_option maxRecDepth 100000
set_option maxHeartbeats 4000000
structure LgSz (l : Lg) : Prop where
 ents : l.ents.length ≤ 2513169434916
 bat : ∀ e ∈ l.ents,e.batch.length ≤ 4398046511104
structure RepSz (r : Rep) : Prop where
 log : LgSz r.log
 acks : r.acks.length ≤ 17592186044415
 starts : r.starts.length ≤ 17592186044415
 dos : r.dos.length ≤ 1954687338267
 dlog : ∀ d ∈ r.dos,LgSz d.log
structure RepT (o : Nat → Nat) (M : Fz) (r : Rep) (xe xa xs xd : SV) : Prop where
 ents : ∃ cs,SlX (Tag o 1 M) 5 xe cs ∧ All2 (EntX (Tag o 2 M)) cs r.log.ents
 acks : IntsX (Tag o 3 M) xa r.acks
 starts : IntsX (Tag o 4 M) xs r.starts
 dos : ∃ cs,SlX (Tag o 5 M) 6 xd cs ∧ All2 (DvX (Tag o 6 M)) cs r.dos
def RestT (o : Nat → Nat) (M : Fz) (r : Rep) (xe xa xs : SV) : Prop:=(∃ cs,SlX (Tag o 1 M) 5 xe cs ∧ All2 (EntX (Tag o 2 M)) cs r.log.ents) ∧ IntsX (Tag o 3 M) xa r.acks ∧ IntsX (Tag o 4 M) xs r.starts
theorem RestT.mono {o o' : Nat → Nat} {M M' : Fz} (h : ∀ t,1 ≤ t → t ≤ 4 → Sub (Tag o t M) (Tag o' t M')) {r : Rep} {xe xa xs : SV} (g : RestT o M r xe xa xs) : RestT o' M' r xe xa xs:=by
 obtain ⟨⟨cs,h1,h2⟩,h3,h4⟩:=g
 exact ⟨⟨cs,h1.mono (h 1 (by omega) (by omega)),h2.imp λc a g=>EntX.mono (h 2 (by omega) (by omega)) g⟩,IntsX.mono (h 3 (by omega) (by omega)) h3,IntsX.mono (h 4 (by omega) (by omega)) h4⟩
def MixD (o : Nat → Nat) (M0 M : Fz) (l : List Dv) (i : Nat) (xd : SV) : Prop:=∃ cs,SlX (Tag o 5 M) 6 xd cs ∧ cs.length = l.length ∧ ∀ j (h1 : j < cs.length) (h2 : j < l.length),if j < i then DvX (Tag o 6 M) cs[j] l[j] else DvR M0 cs[j] l[j]
theorem MixD.mono {o o' : Nat → Nat} {M0 M M' : Fz} (h : ∀ t,5 ≤ t → t ≤ 6 → Sub (Tag o t M) (Tag o' t M')) {l : List Dv} {i : Nat} {xd : SV} (g : MixD o M0 M l i xd) : MixD o' M0 M' l i xd:=by
 obtain ⟨cs,h1,h2,h3⟩:=g
 refine ⟨cs,h1.mono (h 5 (by omega) (by omega)),h2,λj g1 g2=>?_⟩
 have:=h3 j g1 g2
 split
 ·rename_i hj; rw [if_pos hj] at this; exact DvX.mono (h 6 (by omega) (by omega)) this
 ·rename_i hj; rw [if_neg hj] at this; exact this
variable {P : Program} (H : Fs P)
include H
theorem Qrq (r : Rep) (hz : RepSz r) (xe xa xs xd : SV) {fz : Fz} {mu0 : St} {n0 : Nat} (hfr0 : Free fz mu0 n0) (rb : Nat) (i : Nat) (hi : i < r.dos.length) {fu : Nat} {e : Env} {mu : St} {n : Nat} {K : LK} {o : Nat → Nat}
 (hfr : Free fz mu n) (g0 : Gr n0 fz mu0 mu n0 n) (b1 : Ev.look mu rb = some (repC r xe xa xs xd)) (hrb : n0 ≤ rb ∧ o rb = 0) (ho : ∀ j,j < n0 → o j = 0) (hD : MixD o (with' mu0 fz) (with' mu fz) r.dos i xd)
 (h1 : e 0 1 = .one (.optr rb 0)) (h6 : e 1 6 = .one (.int .i64 r.dos.length)) (h7 : e 1 7 = .one (.int .i64 i))
 (hK : ∀ e' mu' n' o',Gr n0 fz mu0 mu' n0 n' → (∀ j,o j = 0 → j < n → Ev.look mu' j = Ev.look mu j ∧ o' j = 0) → (∀ t,1 ≤ t → t ≤ 4 → Sub (Tag o t (with' mu fz)) (Tag o' t (with' mu' fz))) → MixD o' (with' mu0 fz) (with' mu' fz) r.dos (i + 1) xd → e' 0 1 = .one (.optr rb 0) → e' 0 2 = e 0 2 → e' 1 6 = .one (.int .i64 r.dos.length) → e' 1 7 = .one (.int .i64 ((i + 1 : Nat) : Int)) → K .normal (tmE 40 e') mu' n') :
 dcode pOrc False (CP P) fz fu l_Qb9_0 (tmE 40 e) mu n K:=by
 obtain ⟨cs,hx,hl,hall⟩:=hD
 have hw:=Qdt hi (by have:=hz.dos; omega)
 have hci:=hall i (by omega) hi
 rw [if_neg (by omega)] at hci
 obtain ⟨x,hc,s1⟩:=hci
 have b2:=Qdl (fz:=fz) b1
 rcases hx with ⟨_,rfl⟩ | ⟨id,rfl,hM,hmk,hes⟩
 ·simp at hl; omega
 obtain ⟨hot,hM'⟩:=Tag.el hM
 have hlen : ∀ e ∈ cs,e.length = 6:=λe he=>(hes e he).1
 have hfl:=Qen hlen
 have hld:=Qmp (i:=i) (k:=3) (m:=3) hlen (by omega) (by omega)
 rw [hc] at hld
 have hbd : i * 6 + 3 + 3 ≤ cs.flatten.length:=by rw [hfl]; omega
 have hE:=Qer H r.dos[i].log x (hz.dlog _ (List.getElem_mem hi)).ents (hz.dlog _ (List.getElem_mem hi)).bat
 have hli : i < cs.length:=by omega
 unfold lgC at hE
 unfold repC at b1 b2
 unfold dvC at hld
 rw [dc_at l_Qb9_0.eq_1]
 have hbd' : i * 6 + 3 + 3 ≤ r.dos.length * 6:=by omega
 simp only [↓E1,E2,zA,zB,zC,zD,zE,zF,zG,zH,zI,zJ,zK,zL,zM,zN,reduceIte,zO,zP, *,List.append_assoc]
 refine hE.d4 hfr (EntsR.mono (g0.sub hfr0 (Nat.le_refl _)) s1) ?_
 rintro v new n2 g2 i2 ⟨x',rfl,hG⟩
 have hidn:=hfr.lt hM'
 have hid : Ev.look (new ++ mu) id = some cs.flatten:=by
  rw [g2.own id hidn]
  have h0 : n0 ≤ id:=by
   rcases Nat.lt_or_ge id n0 with h | h
   ·have:=ho id h; omega
   ·exact h
  rw [← hM',Qe1 (hfr0.fz _ h0)]
 obtain ⟨-,-,zk,zm⟩:=hG.len
 have hov:=Qo2 (es:=cs) (i:=i) (k:=3) (vs:=[I r.dos[i].log.base,r.dos[i].log.snap.sv,x']) hlen (by omega) (by simp)
 simp only [↓E1,E2,zA,zB,zC,zD,zE,zF,zG,zH,zI,zJ,zK,zL,zM,zN,reduceIte,zO,zP, *,List.append_assoc]
 have h0 : n0 ≤ id:=by
  rcases Nat.lt_or_ge id n0 with h | h
  ·have:=ho id h; omega
  ·exact h
 have hot' : tagN o n (λ_=>6) id = 5:=by rw [Qea hidn]; exact hot
 have hd : over (dvC r.dos[i] x) 3 [I r.dos[i].log.base,r.dos[i].log.snap.sv,x'] = dvC r.dos[i] x':=rfl
 rw [hd]
 have hcs' : ∀ e ∈ cs.set i (dvC r.dos[i] x'),e.length = 6 ∧ Qdo e = true:=by
  intro e he
  rcases List.mem_or_eq_of_mem_set he with he | rfl
  ·exact hes e he
  ·exact ⟨rfl,by unfold dvC; simp only [↓E1,E2,zA,zB,zC,zD,zE,zF,zG,zH,zI,zJ,zK,zL,zM,zN,reduceIte,zO,zP,zk]⟩
 have hs : ∀ t,t ≠ 5 → Sub (Tag o t (with' mu fz)) (Tag (tagN o n (λ_=>6)) t (with' (putS (new ++ mu) id (cs.set i (dvC r.dos[i] x')).flatten) fz)):=λt ht =>
  (Tag.old hfr (g2.sub hfr (Nat.le_refl _))).trans (Tag.put (lookI hid) (by omega))
 refine hK _ _ _ (tagN o n λ_=>6) ((g0.trans (g2.weaken g0.le)).put h0 hid) (λj hj hjn=>⟨?_,by rw [Qea hjn]; exact hj⟩) (λt h1 h2=>hs t (by omega)) ⟨_,.inr ⟨id,?_,?_,Qeq (Qd5 hcs'),hcs'⟩,by simpa using hl,λj g1 g3=>?_⟩ ?_ ?_ ?_ ?_
 ·rw [Qdm,if_neg (by rintro rfl; omega),g2.own j hjn]
 ·rw [List.length_set,hl]
 ·exact Tag.at hot' (by rw [Qds hid,if_pos rfl])
 ·rw [List.getElem_set]
  by_cases hij : i = j
  ·subst hij
   rw [if_pos rfl,if_pos (by omega)]
   exact ⟨x',rfl,EntsX.mono ((Tag.new (λ_ _=>rfl)).trans (Tag.put (lookI hid) (by omega))) (Qke hG)⟩
  ·rw [if_neg hij]
   have:=hall j (by simpa using g1) g3
   by_cases hj : j < i
   ·rw [if_pos hj] at this
    rw [if_pos (by omega)]
    exact DvX.mono (hs 6 (by omega)) this
   ·rw [if_neg hj] at this
    rw [if_neg (by omega)]
    exact this
 all_goals simp [updN,updE, *]
theorem replica_Clone (r : Rep) (xe xa xs xd : SV) (hz : RepSz r) : Ctr P n_Qb9 [.ag (repC r xe xa xs xd)] (λM=>RepS M r xe xa xs xd) (λn _ M v=>∃ xe' xa' xs' xd' o,v = .ag (repC r xe' xa' xs' xd') ∧ (∀ j,j < n → o j = 0) ∧ RepT o M r xe' xa' xs' xd'):=Ctr.of H.mx H.Qb9 (λ_=>r.dos.length + 1) λfz mu n k hfr s hk=>by
 obtain ⟨s1,s2,s3,s4⟩:=s
 obtain ⟨xel,xes,xek,xem⟩:=s1.len
 obtain ⟨xal,xas,xak,xam⟩:=s2.len
 obtain ⟨xsl,xss,xsk,xsm⟩:=s3.len
 obtain ⟨xdl,xds,xdk,xdm⟩:=s4.len
 have hE:=Qer H r.log xe hz.log.ents hz.log.bat
 unfold lgC at hE
 rw [i_Qb9,dc_at b_Qb9.eq_1]
 unfold repC
 simp only [↓E1,E2,zA,zB,zC,zD,zE,zF,zG,zH,zI,zJ,zK,zL,zM,zN,reduceIte,zO,zP, *]
 refine hE.c1 (gr2 hfr).free (EntsR.mono (sub2 hfr) s1) ?_
 rintro v mu1 n1 g1 ⟨xe',rfl,hG⟩
 have ga:=(gr2 hfr).trans (g1.weaken (by omega))
 have b1:=(g1.own n (by omega)).trans (by rw [Qdw,if_neg (by omega),Qdw,if_pos rfl])
 have b2:=(g1.own (n + 1) (by omega)).trans (by rw [Qdw,if_pos rfl])
 obtain ⟨-,-,zek,zem⟩:=hG.len
 have gb:=ga.put (Nat.le_refl _) b1 (c:=repC r xe' xa xs xd)
 unfold repC at gb
 simp only [↓E1,E2,zA,zB,zC,zD,zE,zF,zG,zH,zI,zJ,zK,zL,zM,zN,reduceIte,zO,zP, *,Qel,Qdm,Option.isSome_some,Option.map_some,List.append_assoc]
 refine (Qg6 H xa r.acks hz.acks).d4 gb.free (IntsR.mono (gb.sub hfr (Nat.le_refl _)) s2) ?_
 rintro v newa na g2 ia ⟨xa',rfl,hxa⟩
 have gc:=gb.trans (g2.weaken (gb.le))
 obtain ⟨-,-,zak,zam⟩:=SlX.len hxa
 simp only [↓E1,E2,zA,zB,zC,zD,zE,zF,zG,zH,zI,zJ,zK,zL,zM,zN,reduceIte,zO,zP, *,Qel,Qdm,Option.isSome_some,Option.map_some,List.append_assoc]
 refine (Qg6 H xs r.starts hz.starts).d4 gc.free (IntsR.mono (gc.sub hfr (Nat.le_refl _)) s3) ?_
 rintro v newb nb g3 ib ⟨xs',rfl,hxs⟩
 have gd:=gc.trans (g3.weaken (gc.le))
 obtain ⟨-,-,zsk,zsm⟩:=SlX.len hxs
 simp only [↓E1,E2,zA,zB,zC,zD,zE,zF,zG,zH,zI,zJ,zK,zL,zM,zN,reduceIte,zO,zP, *,Qel,Qdm,Option.isSome_some,Option.map_some,List.append_assoc]
 obtain ⟨ds,s5,hds⟩:=s4
 have hdl:=hds.length
 refine (Qhl H xd ds (by rw [hdl]; exact hz.dos)).d4 gd.free (Sl.mono s5 (gd.sub hfr (Nat.le_refl _))) ?_
 rintro v newc nc g4 ic ⟨xd',rfl,hxd⟩
 have ge:=gd.trans (g4.weaken (gd.le))
 obtain ⟨zdl,zds,zdk,zdm⟩:=SlX.len hxd
 simp only [↓E1,E2,zA,zB,zC,zD,zE,zF,zG,zH,zI,zJ,zK,zL,zM,zN,reduceIte,zO,zP, *,Qel,Qdm,Option.isSome_some,Option.map_some,List.append_assoc]
 have hp : ∀ id,Ev.look (newa ++ (newc ++ (newb ++ putS mu1 n [I r.me,I r.nodes,I r.view,I r.normal,I r.status,I r.commit,.bool r.sent,I r.log.base,r.log.snap.sv,xe',xa,xs,xd]))) id = Ev.look (newc ++ (newb ++ (newa ++ putS mu1 n [I r.me,I r.nodes,I r.view,I r.normal,I r.status,I r.commit,.bool r.sent,I r.log.base,r.log.snap.sv,xe',xa,xs,xd]))) id:=λid =>
  (Qi1 (λh=>ia.apart ic (by have:=g3.le; omega) h)).trans (Qq9 (Qi1 (λh=>ia.apart ib (.inl (Nat.le_refl _)) h)))
 have gf:=ge.congr hp
 have l1:=g1.le
 have l2:=g2.le
 have l3:=g3.le
 have l4:=g4.le
 have c1 : Ev.look (newa ++ (newc ++ (newb ++ putS mu1 n [I r.me,I r.nodes,I r.view,I r.normal,I r.status,I r.commit,.bool r.sent,I r.log.base,r.log.snap.sv,xe',xa,xs,xd]))) n = some [I r.me,I r.nodes,I r.view,I r.normal,I r.status,I r.commit,.bool r.sent,I r.log.base,r.log.snap.sv,xe',xa,xs,xd]:=by
  rw [hp,g4.own n (by omega),g3.own n (by omega),g2.own n (by omega),Qdm,if_pos rfl,b1]; rfl
 have c2 : Ev.look (newa ++ (newc ++ (newb ++ putS mu1 n [I r.me,I r.nodes,I r.view,I r.normal,I r.status,I r.commit,.bool r.sent,I r.log.base,r.log.snap.sv,xe',xa,xs,xd]))) (n + 1) = some [I 0,I 0,I 0,I 0,I 0,I 0,.bool false,I 0,.str 0 0,.nsl,.nsl,.nsl,.nsl]:=by
  rw [hp,g4.own (n + 1) (by omega),g3.own (n + 1) (by omega),g2.own (n + 1) (by omega),Qdm,if_neg (by omega),b2]
 have hM:=Qhy (fz:=fz) hp
 -- the tags
 obtain ⟨o1,ho1⟩ : ∃ o,o = tagN (λ_=>0) (n + 2) (Qff xe' 1 2):=⟨_,rfl⟩
 have t1 : ∀ j,j < n + 2 → o1 j = 0:=λj hj=>by rw [ho1,Qea hj]
 have f1:=Grow.tag (R:=EntX) (λh g=>EntX.mono h g) hG (o:=λ_=>0) (a:=1) (b:=2)
 rw [← ho1] at f1
 have u1 : ∀ t,t ≠ 0 → Sub (Tag o1 t (with' mu1 fz)) (Tag o1 t (with' (putS mu1 n [I r.me,I r.nodes,I r.view,I r.normal,I r.status,I r.commit,.bool r.sent,I r.log.base,r.log.snap.sv,xe',xa,xs,xd]) fz)):=λt ht=>Tag.put (lookI b1) (by rw [t1 n (by omega)]; omega)
 have u2 : ∀ t,Sub (Tag o1 t _) (Tag (tagN o1 n1 λ_=>3) t _):=λt=>Tag.old (τ:=λ_=>3) gb.free (g2.sub gb.free (Nat.le_refl _))
 have u3 : ∀ t,Sub (Tag (tagN o1 n1 λ_=>3) t _) (Tag (tagN (tagN o1 n1 λ_=>3) na λ_=>4) t _):=λt=>Tag.old (τ:=λ_=>4) gc.free (g3.sub gc.free (Nat.le_refl _))
 have u4 : ∀ t,Sub (Tag (tagN (tagN o1 n1 λ_=>3) na λ_=>4) t _) (Tag (tagN (tagN (tagN o1 n1 λ_=>3) na λ_=>4) nb λ_=>5) t _):=λt=>Tag.old (τ:=λ_=>5) gd.free (g4.sub gd.free (Nat.le_refl _))
 have v2:=IntsX.mono (Tag.new (o:=o1) (τ:=λ_=>3) (λ_ _=>rfl)) hxa
 have v3:=IntsX.mono (Tag.new (o:=tagN o1 n1 λ_=>3) (τ:=λ_=>4) (λ_ _=>rfl)) hxs
 have v4:=SlX.mono hxd (Tag.new (o:=tagN (tagN o1 n1 λ_=>3) na λ_=>4) (τ:=λ_=>5) (λ_ _=>rfl))
 obtain ⟨o4,ho4⟩ : ∃ o,o = tagN (tagN (tagN o1 n1 λ_=>3) na λ_=>4) nb λ_=>5:=⟨_,rfl⟩
 have t4 : ∀ j,j < n + 2 → o4 j = 0:=λj hj=>by rw [ho4,Qea (by omega),Qea (by omega),Qea (by omega)]; exact t1 j hj
 rw [← ho4,← hM] at u4 v4
 have w1 : RestT o4 (with' (newa ++ (newc ++ (newb ++ putS mu1 n [I r.me,I r.nodes,I r.view,I r.normal,I r.status,I r.commit,.bool r.sent,I r.log.base,r.log.snap.sv,xe',xa,xs,xd]))) fz) r xe' xa' xs':=by
  obtain ⟨cs,f2,f3⟩:=f1
  refine ⟨⟨cs,f2.mono ((((u1 1 (by omega)).trans (u2 1)).trans (u3 1)).trans (u4 1)),f3.imp λc a g=>EntX.mono ((((u1 2 (by omega)).trans (u2 2)).trans (u3 2)).trans (u4 2)) g⟩,IntsX.mono ((u3 3).trans (u4 3)) v2,IntsX.mono (u4 4) v3⟩
 have w2 : MixD o4 (with' mu fz) (with' (newa ++ (newc ++ (newb ++ putS mu1 n [I r.me,I r.nodes,I r.view,I r.normal,I r.status,I r.commit,.bool r.sent,I r.log.base,r.log.snap.sv,xe',xa,xs,xd]))) fz) r.dos 0 xd' :=
  ⟨ds,v4,hdl,λj h1 h2=>by rw [if_neg (by omega)]; exact hds.at h1 h2⟩
 clear hp f1 u1 u2 u3 u4 v2 v3 v4 hxa hxs ia ib ic hM ga gb gc gd ge g1 g2 g3 g4 hG hE ho1 ho4
 generalize newa ++ (newc ++ (newb ++ putS mu1 n [I r.me,I r.nodes,I r.view,I r.normal,I r.status,I r.commit,.bool r.sent,I r.log.base,r.log.snap.sv,xe',xa,xs,xd])) = mup at *
 have c3:=Qdl (fz:=fz) c1
 simp only [↓E1,E2,zA,zB,zC,zD,zE,zF,zG,zH,zI,zJ,zK,zL,zM,zN,reduceIte,zO,zP, *,E3,List.append_assoc]
 refine loopI (x:=0) (L:=r.dos.length) (p:=λ_=>true) (λi e mu' n'=>∃ o,Gr n fz mu mu' n n' ∧ n + 2 ≤ n' ∧ (∀ j,j < n + 2 → o j = 0) ∧ Ev.look mu' n = some (repC r xe' xa' xs' xd') ∧ Ev.look mu' (n + 1) = some [I 0,I 0,I 0,I 0,I 0,I 0,.bool false,I 0,.str 0 0,.nsl,.nsl,.nsl,.nsl] ∧ RestT o (with' mu' fz) r xe' xa' xs' ∧ MixD o (with' mu fz) (with' mu' fz) r.dos i xd' ∧ e 0 1 = .one (.optr n 0) ∧ e 0 2 = .one (.optr (n + 1) 0) ∧ e 1 6 = .one (.int .i64 r.dos.length) ∧ e 1 7 = .one (.int .i64 i)) (λ_ _ _=>False) ?_ ?_ _ _ _ _ _ (by omega) ?_ ?_ ?_
 ·rintro i e mu1 n1 K hi ⟨o,g1,a0,a1,a2,a3,a4,a5,a6,a7,a8,a9⟩ hy hn
  refine Qrq H r hz xe' xa' xs' xd' hfr n i hi g1.free g1 a2 ⟨Nat.le_refl _,a1 n (by omega)⟩ (λj hj=>a1 j (by omega)) a5 a6 a8 a9 (λe' mu' n' o' g' k1 k2 k3 k4 k5 k6 k7=>hy rfl _ _ _ ⟨o',g',?_,λj hj=>(k1 j (a1 j hj) (by omega)).2,?_,?_,RestT.mono k2 a4,k3,k4,k5.trans a7,k6,k7⟩)
  ·have:=g'.free.lt (Qdl (fz:=fz) ((k1 (n + 1) (a1 _ (by omega)) (by omega)).1.trans a3)); omega
  ·exact (k1 n (a1 _ (by omega)) (by omega)).1.trans a2
  ·exact (k1 (n + 1) (a1 _ (by omega)) (by omega)).1.trans a3
 ·rintro e mu1 n1 K ⟨o,g1,a0,a1,a2,a3,a4,a5,a6,a7,a8,a9⟩ hx
  rw [dc_at l_Qb9_0.eq_1]
  have hlt : (r.dos.length < r.dos.length) = False:=by simp
  simp only [↓E1,E2,zA,zB,zC,zD,zE,zF,zG,zH,zI,zJ,zK,zL,zM,zN,reduceIte,zO,zP, *]
  exact hx _ _ _ ⟨o,g1,a0,a1,a2,a3,a4,a5,by simp [updN,updE,a6],by simp [updN,updE,a7],by simp [updN,updE,a8],by simp [updN,updE,a9]⟩
 ·refine ⟨o4,gf.put (Nat.le_refl _) c1,by omega,t4,by rw [Qdm,if_pos rfl,c1]; rfl,by rw [Qdm,if_neg (by omega),c2],RestT.mono (λt h1 h2=>Tag.put (lookI c1) (by rw [t4 n (by omega)]; omega)) w1,MixD.mono (λt h1 h2=>Tag.put (lookI c1) (by rw [t4 n (by omega)]; omega)) w2,by simp [updN,updE],by simp [updN,updE],by simp [updN,updE],by simp [updN,updE]⟩
 ·rintro - e1 mu1 n1 ⟨o,g1,a0,a1,a2,a3,a4,a5,a6,a7,a8,a9⟩
  have b3:=Qdl (fz:=fz) a2
  obtain ⟨cs,p1,p2,p3⟩:=a5
  obtain ⟨-,-,ydk,ydm⟩:=p1.len
  obtain ⟨⟨es,q1,q2⟩,q3,q4⟩:=a4
  obtain ⟨-,-,yek,yem⟩:=q1.len
  obtain ⟨-,-,yak,yam⟩:=SlX.len q3
  obtain ⟨-,-,ysk,ysm⟩:=SlX.len q4
  have u : ∀ t,t ≠ 0 → Sub (Tag o t (with' mu1 fz)) (Tag o t (with' (putS mu1 (n + 1) (repC r xe' xa' xs' xd')) fz)):=λt ht=>Tag.put (lookI a3) (by rw [a1 _ (by omega)]; omega)
  have gz:=g1.put (id:=n + 1) (by omega) a3 (c:=repC r xe' xa' xs' xd')
  unfold repC at a2 b3
  unfold repC at u gz
  simp only [↓E1,E2,zA,zB,zC,zD,zE,zF,zG,zH,zI,zJ,zK,zL,zM,zN,reduceIte,zO,zP, *,E3,List.append_assoc]
  refine hk _ _ _ gz ⟨xe',xa',xs',xd',o,rfl,λj hj=>a1 j (by omega),⟨⟨es,q1.mono (u 1 (by omega)),q2.imp λc a g=>EntX.mono (u 2 (by omega)) g⟩,IntsX.mono (u 3 (by omega)) q3,IntsX.mono (u 4 (by omega)) q4,cs,p1.mono (u 5 (by omega)),?_⟩⟩
  refine All2.Qjc p2 λi a b ha hb=>?_
  obtain ⟨h1,e1⟩:=List.getElem?_eq_some_iff.1 ha
  obtain ⟨h2,e2⟩:=List.getElem?_eq_some_iff.1 hb
  have:=p3 i h1 h2
  rw [if_pos h2,e1,e2] at this
  exact DvX.mono (u 6 (by omega)) this
 ·rintro ⟨_,_,_,h⟩; cases h
end Go.Proofs.YtnnjlnkoomeadaaGreat.Pv
namespace Go.Proofs.YtnnjlnkoomeadaaGreat.Pv
open Go.Ev Go.Ev.Rp
set_option maxRecDepth 100000
set_option maxHeartbeats 4000000
def Qfj (me k : Int) (l : List Int) (i : Nat) : Bool:=decide (0 ≤ l.getD i 0) && decide (l.getD i 0 < k) && decide (l.getD i 0 ≠ me) && (decide (i = 0) || decide (l.getD (i - 1) 0 < l.getD i 0))
theorem Qoz (me k : Int) (l : List Int) : Qfa me k (-1) l = (List.range l.length).all (Qfj me k l):=by
 rw [Qit,Bool.eq_iff_iff,List.all_eq_true,List.all_eq_true]
 simp only [List.mem_range]
 constructor
 ·intro h
  have pos : ∀ i,i < l.length → 0 ≤ l.getD i 0:=by
   intro i
   induction i with
   | zero=>intro hi; have:=h 0 hi; simp only [Qg5,prv,Bool.and_eq_true,decide_eq_true_eq] at this; have:=this.1.1; simp at this; simp; omega
   | succ i ih=>intro hi; have h1:=h (i + 1) hi; have h2:=ih (by omega); simp only [Qg5,prv,Bool.and_eq_true,decide_eq_true_eq] at h1; have:=h1.1.1; simp at this h2 ⊢; omega
  intro i hi
  have h1:=h i hi
  have h2:=pos i hi
  cases i with
  | zero=>simp only [Qg5,Qfj,prv,Bool.and_eq_true,decide_eq_true_eq] at h1 ⊢; exact ⟨⟨⟨h2,h1.1.2⟩,h1.2⟩,by simp⟩
  | succ i=>simp only [Qg5,Qfj,prv,Bool.and_eq_true,decide_eq_true_eq] at h1 ⊢; exact ⟨⟨⟨h2,h1.1.2⟩,h1.2⟩,by have:=h1.1.1; simp at this ⊢; exact this⟩
 ·intro h i hi
  have h1:=h i hi
  cases i with
  | zero=>simp only [Qg5,Qfj,prv,Bool.and_eq_true,decide_eq_true_eq] at h1 ⊢; exact ⟨⟨by have:=h1.1.1.1; simp at this ⊢; omega,h1.1.1.2⟩,h1.1.2⟩
  | succ i=>simp only [Qg5,Qfj,prv,Bool.and_eq_true,decide_eq_true_eq] at h1 ⊢; exact ⟨⟨by have:=h1.2; simp at this ⊢; exact this,h1.1.1.2⟩,h1.1.2⟩
def doAt' (r : Rep) (i : Nat) : Bool:=Qfj r.me r.nodes (r.dos.map (·.frm)) i && dosOk r i
theorem do_all' (r : Rep) : (Qfa r.me r.nodes (-1) (r.dos.map (·.frm)) && dosB r) = (List.range r.dos.length).all (doAt' r):=by
 rw [Qoz,Qud,List.length_map]
 unfold doAt'
 rw [Bool.eq_iff_iff]
 simp only [Bool.and_eq_true,List.all_eq_true]
 exact ⟨λh i hi=>⟨h.1 i hi,h.2 i hi⟩,λh=>⟨λi hi=>(h i hi).1,λi hi=>(h i hi).2⟩⟩
variable {P : Program} (H : Fs P)
include H
theorem Qpa (r : Rep) (xe xa xs xd : SV) (hl3 : r.acks.length ≤ 1152921504606846976) {fz : Fz} {mu : St} {n fu : Nat} (hfr0 : Free fz mu n) (s2 : IntsR (with' mu fz) xa r.acks) (hfu : r.acks.length < fu) :
 Hide (∀ (e : Env) mu1 n1 (K : LK) w,Gr n fz mu mu1 n n1 → with' mu1 fz n = some (repC r xe xa xs xd) → e 0 1 = .one (.optr n 0) → e 0 3 = .one (.int .i64 0) →
  (r.acks.all countB = true → ∀ e' mu' n',Gr n fz mu mu' n n' → with' mu' fz n = some (repC r xe xa xs xd) → e' 0 1 = .one (.optr n 0) → K (.exit 0) (tmE 241 e') mu' n') →
  (r.acks.all countB = false → ∀ e' mu' n',Gr n fz mu mu' n n' → e' 0 2 = .one (.bool false) → K .ret (tmE 241 e') mu' n') →
  Lp (dcode pOrc False (CP P) fz fu l_Qdf_0) fu (tmE 241 e) mu1 n1 K w):=⟨by
 intro e mu1 n1 K w g1 b1 h0 hc hd hr
 obtain ⟨xal,xas,xak,xam⟩:=s2.len
 refine loopI (x:=0) (L:=r.acks.length) (p:=λi=>(r.acks[i]?.map countB).getD true) (λi e mu' n'=>Gr n fz mu mu' n n' ∧ with' mu' fz n = some (repC r xe xa xs xd) ∧ e 0 1 = .one (.optr n 0) ∧ e 0 3 = .one (.int .i64 i)) (λe mu' n'=>Gr n fz mu mu' n n' ∧ e 0 2 = .one (.bool false)) ?_ ?_ e mu1 n1 K w (by omega) ⟨g1,b1,h0,hc⟩ (λha e' mu' n' hI=>hd (Qkd ha) e' mu' n' hI.1 hI.2.1 hI.2.2.1) (λhx e' mu' n' hR=>hr (Qgw hx) e' mu' n' hR.1 hR.2)
 ·rintro i e mu1 n1 K hi ⟨g1,b1,h0,hc⟩ hy hn
  have b0:=b1
  have t1:=IntsR.mono (λ_ _ hh=>g1.old hfr0 hh) s2
  obtain ⟨id,off,cap,B,rfl,hB,hmk,hbd,hsub⟩:=t1.elem hi
  have hw:=Qdt hi (by omega)
  unfold repC at b1
  rw [dc_at l_Qdf_0.eq_1]
  simp only [↓E1,E2,zA,zB,zC,zD,zE,zF,zG,zH,zI,zJ,zK,zL,zM,zN,reduceIte,zO,zP,h0,hc,hi,hB,hmk,hbd,hsub,b1]
  refine (ref1_Count H r.acks[i]).c1 g1.free trivial ?_
  rintro v mu' n' g rfl
  have g2:=g1.trans (g.weaken g1.le)
  have b2:=g.old g1.free b0
  cases hp : countB r.acks[i] with
  | true =>
   simp only [↓E1,E2,zA,zB,zC,zD,zE,zF,zG,zH,zI,zJ,zK,zL,zM,zN,reduceIte,zO,zP,hc,hw]
   exact hy (by simp [hi,hp]) _ _ _ ⟨g2,b2,by simp [updN,updE,h0],by simp [updN,updE]⟩
  | false =>
   simp only [↓E1,E2,zA,zB,zC,zD,zE,zF,zG,zH,zI,zJ,zK,zL,zM,zN,reduceIte,zO,zP]
   exact hn (by simp [hi,hp]) _ _ _ ⟨g2,by simp [updN,updE]⟩
 ·rintro e mu1 n1 K ⟨g1,b1,h0,hc⟩ hx
  have b0:=b1
  unfold repC at b1
  rw [dc_at l_Qdf_0.eq_1]
  have hlt : (r.acks.length < r.acks.length) = False:=by simp
  simp only [↓E1,E2,zA,zB,zC,zD,zE,zF,zG,zH,zI,zJ,zK,zL,zM,zN,reduceIte,zO,zP,h0,hc,hlt,xal,xas,b1]
  exact hx _ _ _ ⟨g1,b0,by simp [updN,updE,h0],by simp [updN,updE,hc]⟩⟩
theorem Qpy (r : Rep) (xe xa xs xd : SV) (hl1 : r.starts.length ≤ 1152921504606846976) {fz : Fz} {mu : St} {n fu : Nat} (hfr0 : Free fz mu n) (s3 : IntsR (with' mu fz) xs r.starts) (hfu : r.starts.length < fu) :
 Hide (∀ (e : Env) mu1 n1 (K : LK) w,Gr n fz mu mu1 n n1 → with' mu1 fz n = some (repC r xe xa xs xd) → e 0 1 = .one (.optr n 0) → e 0 4 = .one (.int .i64 0) →
  (Qfa r.me r.nodes (-1) r.starts = true → ∀ e' mu' n',Gr n fz mu mu' n n' → with' mu' fz n = some (repC r xe xa xs xd) → e' 0 1 = .one (.optr n 0) → K (.exit 2) (tmE 241 e') mu' n') →
  (Qfa r.me r.nodes (-1) r.starts = false → ∀ e' mu' n',Gr n fz mu mu' n n' → e' 0 2 = .one (.bool false) → K .ret (tmE 241 e') mu' n') →
  Lp (dcode pOrc False (CP P) fz fu l_Qdf_1) fu (tmE 241 e) mu1 n1 K w):=⟨by
 intro e mu1 n1 K w g1 b1 h0 hc hd hr
 obtain ⟨xsl,xss,xsk,xsm⟩:=s3.len
 rw [Qoz] at hd hr
 refine loopI (x:=2) (L:=r.starts.length) (p:=Qfj r.me r.nodes r.starts) (λi e mu' n'=>Gr n fz mu mu' n n' ∧ with' mu' fz n = some (repC r xe xa xs xd) ∧ e 0 1 = .one (.optr n 0) ∧ e 0 4 = .one (.int .i64 i)) (λe mu' n'=>Gr n fz mu mu' n n' ∧ e 0 2 = .one (.bool false)) ?_ ?_ e mu1 n1 K w (by omega) ⟨g1,b1,h0,hc⟩ (λha e' mu' n' hI=>hd (Qha ha) e' mu' n' hI.1 hI.2.1 hI.2.2.1) (λhx e' mu' n' hR=>hr (Qe5 hx) e' mu' n' hR.1 hR.2)
 ·rintro i e mu1 n1 K hi ⟨g1,b1,h0,hc⟩ hy hn
  have b0:=b1
  have t1:=IntsR.mono (λ_ _ hh=>g1.old hfr0 hh) s3
  obtain ⟨id,off,cap,B,rfl,hB,hmk,hbd,hsub⟩:=t1.elem hi
  have hw:=Qdt hi (by omega)
  have hg : r.starts.getD i 0 = r.starts[i]:=by simp [hi]
  clear hd hr
  unfold repC at b1
  rw [dc_at l_Qdf_1.eq_1]
  cases i with
  | zero =>
   have hA : True:=trivial
   have hi0 : ((0 : Int) < (r.starts.length : Int)) = True:=by simp; exact hi
   simp only [Nat.zero_mul,Nat.add_zero] at hsub hbd
   simp only [↓E1,E2,zA,zB,zC,zD,zE,zF,zG,zH,zI,zJ,zK,zL,zM,zN,reduceIte,zO,zP, *,Nat.add_zero]
   repeat' ((with_reducible refine Qdv (λhb=>?_) (λhb=>?_)) <;> (replace hA:=And.intro hA hb; clear hb; simp only [↓E1,E2,zA,zB,zC,zD,zE,zF,zG,zH,zI,zJ,zK,zL,zM,zN,reduceIte,zO,zP, *,Nat.add_zero]))
   all_goals first
    | (refine hy (by clear hy hn hB hsub b1 b0; simp_all [Qfj]) _ _ _ ⟨g1,b0,?_,?_⟩ <;> simp [updN,updE,h0]; done)
    | (refine hn (by clear hy hn hB hsub b1 b0; simp_all [Qfj]; try omega) _ _ _ ⟨g1,?_⟩; simp [updN,updE]; done)
  | succ i =>
   have hi' : i < r.starts.length:=by omega
   obtain ⟨id',off',cap',B',he,hB',hmk',hbd',hsub'⟩:=t1.elem hi'
   cases he
   rw [hB] at hB'
   cases hB'
   have hw1 : IntKind.i64.wrap (((i + 1 : Nat) : Int) - 1) = (i : Int):=by rw [wrap64 (by omega) (by omega)]; omega
   have hp0 : ((0 : Int) < ((i + 1 : Nat) : Int)) = True:=by simp; try omega
   have hg' : r.starts.getD i 0 = r.starts[i]:=by simp [hi']
   have hA : True:=trivial
   simp only [↓E1,E2,zA,zB,zC,zD,zE,zF,zG,zH,zI,zJ,zK,zL,zM,zN,reduceIte,zO,zP, *]
   repeat' ((with_reducible refine Qdv (λhb=>?_) (λhb=>?_)) <;> (replace hA:=And.intro hA hb; clear hb; simp only [↓E1,E2,zA,zB,zC,zD,zE,zF,zG,zH,zI,zJ,zK,zL,zM,zN,reduceIte,zO,zP, *]))
   all_goals first
    | (refine hy (by clear hy hn hB hsub hsub' b1 b0; simp_all [Qfj]) _ _ _ ⟨g1,b0,?_,?_⟩ <;> simp [updN,updE,h0]; done)
    | (refine hn (by clear hy hn hB hsub hsub' b1 b0; simp_all [Qfj]; try omega) _ _ _ ⟨g1,?_⟩; simp [updN,updE]; done)
 ·rintro e mu1 n1 K ⟨g1,b1,h0,hc⟩ hx
  have b0:=b1
  unfold repC at b1
  rw [dc_at l_Qdf_1.eq_1]
  have hlt : (r.starts.length < r.starts.length) = False:=by simp
  simp only [↓E1,E2,zA,zB,zC,zD,zE,zF,zG,zH,zI,zJ,zK,zL,zM,zN,reduceIte,zO,zP,h0,hc,hlt,xsl,xss,b1]
  exact hx _ _ _ ⟨g1,b0,by simp [updN,updE,h0],by simp [updN,updE,hc]⟩⟩
theorem Qpw (r : Rep) (xe xa xs xd : SV) (hl2 : r.dos.length ≤ 1152921504606846976) (hok : ∀ d ∈ r.dos, Ok d.log) {fz : Fz} {mu : St} {n fu : Nat} (hfr0 : Free fz mu n) (s4 : DvsR (with' mu fz) xd r.dos) (hfu : r.dos.length < fu) :
 Hide (∀ (e : Env) mu1 n1 (K : LK) w,Gr n fz mu mu1 n n1 → with' mu1 fz n = some (repC r xe xa xs xd) → e 0 1 = .one (.optr n 0) → e 0 6 = .one (.int .i64 0) →
  ((Qfa r.me r.nodes (-1) (r.dos.map (·.frm)) && dosB r) = true → ∀ e' mu' n',Gr n fz mu mu' n n' → with' mu' fz n = some (repC r xe xa xs xd) → e' 0 1 = .one (.optr n 0) → K (.exit 4) (tmE 241 e') mu' n') →
  ((Qfa r.me r.nodes (-1) (r.dos.map (·.frm)) && dosB r) = false → ∀ e' mu' n',Gr n fz mu mu' n n' → e' 0 2 = .one (.bool false) → K .ret (tmE 241 e') mu' n') →
  Lp (dcode pOrc False (CP P) fz fu l_Qdf_2) fu (tmE 241 e) mu1 n1 K w):=⟨by
 intro e mu1 n1 K w g1 b1 h0 hc hd hr
 obtain ⟨xdl,xds,xdk,xdm⟩:=s4.len
 rw [do_all'] at hd hr
 refine loopI (x:=4) (L:=r.dos.length) (p:=doAt' r) (λi e mu' n'=>Gr n fz mu mu' n n' ∧ with' mu' fz n = some (repC r xe xa xs xd) ∧ e 0 1 = .one (.optr n 0) ∧ e 0 6 = .one (.int .i64 i)) (λe mu' n'=>Gr n fz mu mu' n n' ∧ e 0 2 = .one (.bool false)) ?_ ?_ e mu1 n1 K w (by omega) ⟨g1,b1,h0,hc⟩ (λha e' mu' n' hI=>hd (Qha ha) e' mu' n' hI.1 hI.2.1 hI.2.2.1) (λhx e' mu' n' hR=>hr (Qe5 hx) e' mu' n' hR.1 hR.2)
 ·rintro i e mu1 n1 K hi ⟨g1,b1,h0,hc⟩ hy hn
  have b0:=b1
  have t1:=DvsR.mono (λ_ _ hh=>g1.old hfr0 hh) s4
  obtain ⟨id,off,cap,B,bx,rfl,hB,hmk,hbd,hsub,t5⟩:=t1.elem hi
  have hmm:=ref4_LogMay H r.dos[i].log bx (hok _ (List.getElem_mem hi))
  have hw:=Qdt hi (by omega)
  have hle:=Nat.le_refl n1
  have hfr:=g1.free
  have gg:=Gr.refl (lo:=n1) hfr
  have hg : (r.dos.map (·.frm)).getD i 0 = r.dos[i].frm:=by simp [hi]
  have hgi : r.dos[i]? = some r.dos[i]:=List.getElem?_eq_getElem hi
  have hn1 : n < n1:=g1.free.lt b1
  have hne : ¬ n1 = n:=by omega
  have hid:=hfr.lt hB
  have hne2 : ¬ n1 = id:=by omega
  obtain ⟨ybl,ybs,ybk,ybm⟩:=t5.len
  clear hd hr
  unfold repC at b1
  unfold dvC at hsub
  unfold lgC at hmm
  rw [dc_at l_Qdf_2.eq_1]
  cases i with
  | zero =>
   have hi0 : ((0 : Int) < (r.dos.length : Int)) = True:=by simp; exact hi
   simp only [Nat.zero_mul,Nat.add_zero] at hsub hbd
   have hA : True:=trivial
   simp only [↓E1,E2,zA,zB,zC,zD,zE,zF,zG,zH,zI,zJ,zK,zL,zM,zN,reduceIte,zO,zP, *,Nat.add_zero]
   repeat' (first | ((with_reducible refine Qdv (λhb=>?_) (λhb=>?_)) <;> simp only [↓E1,E2,zA,zB,zC,zD,zE,zF,zG,zH,zI,zJ,zK,zL,zM,zN,reduceIte,zO,zP, *,Nat.add_zero]) | ((with_reducible refine CPr_f (f:=n_Qc1) ?_); ((first | (refine (hmm).d2 hfr (by first | trivial | exact t5 | assumption) ?_; rintro v mu2 n2 g2 rfl) | (refine (hmm).d3 hfr (λhm=>by first | trivial | exact EntsR.mono hm t5) ?_; rintro v mu2 n2 g2 b7 rfl) | (refine (hmm).c1 hfr (by first | trivial | exact t5 | assumption) ?_; rintro v mu2 n2 g2 rfl) | (refine (hmm).c2 hfr (λhm=>by first | trivial | exact EntsR.mono hm t5) ?_; rintro v mu2 n2 g2 b7 rfl) | (refine (hmm).c3 hfr (λhm=>by first | trivial | exact EntsR.mono hm t5) ?_; rintro v mu2 n2 g2 b7 b8 rfl)); (try replace b1:=g2.old hfr b1); (try replace b7:=g2.old hfr b7); (try replace t5:=EntsR.mono (λ_ _ hh=>g2.old hfr hh) t5); replace gg:=gg.trans (g2.weaken hle); replace hle:=Nat.le_trans hle g2.le; replace hfr:=g2.free; clear g2; simp only [↓E1,E2,zA,zB,zC,zD,zE,zF,zG,zH,zI,zJ,zK,zL,zM,zN,reduceIte,zO,zP, *,Nat.add_zero])))
   all_goals first
    | (refine hy (by clear hy hn hB hsub b1 b0 hmm; simp_all [doAt',Qfj,dosOk]) _ _ _ ⟨g1.trans (gg.weaken g1.le),b1,?_,?_⟩ <;> simp [updN,updE,h0]; done)
    | (refine hn (by clear hy hn hB hsub b1 b0 hmm; simp_all [doAt',Qfj,dosOk]; try omega) _ _ _ ⟨(by first | exact g1.trans (gg.weaken g1.le) | exact g1.cons g1.le _),?_⟩; simp [updN,updE]; done)
  | succ i =>
   have hi' : i < r.dos.length:=by omega
   obtain ⟨id',off',cap',B',bx',he,hB',hmk',hbd',hsub',_⟩:=t1.elem hi'
   cases he
   rw [hB] at hB'
   cases hB'
   have hw1 : IntKind.i64.wrap (((i + 1 : Nat) : Int) - 1) = (i : Int):=by rw [wrap64 (by omega) (by omega)]; omega
   have hp0 : ((0 : Int) < ((i + 1 : Nat) : Int)) = True:=by simp; try omega
   have hg' : (r.dos.map (·.frm)).getD i 0 = r.dos[i].frm:=by simp [hi']
   have hbx : (B.drop (off + i * 6)).take 1 = [I r.dos[i].frm]:=by
    have:=congrArg (List.take 1) hsub'
    rw [List.take_take] at this; simpa [dvC] using this
   have hbb : off + i * 6 + 1 ≤ B.length:=by omega
   clear hsub'
   have hA : True:=trivial
   simp only [↓E1,E2,zA,zB,zC,zD,zE,zF,zG,zH,zI,zJ,zK,zL,zM,zN,reduceIte,zO,zP, *,Nat.add_zero]
   repeat' (first | ((with_reducible refine Qdv (λhb=>?_) (λhb=>?_)) <;> simp only [↓E1,E2,zA,zB,zC,zD,zE,zF,zG,zH,zI,zJ,zK,zL,zM,zN,reduceIte,zO,zP, *,Nat.add_zero]) | ((with_reducible refine CPr_f (f:=n_Qc1) ?_); ((first | (refine (hmm).d2 hfr (by first | trivial | exact t5 | assumption) ?_; rintro v mu2 n2 g2 rfl) | (refine (hmm).d3 hfr (λhm=>by first | trivial | exact EntsR.mono hm t5) ?_; rintro v mu2 n2 g2 b7 rfl) | (refine (hmm).c1 hfr (by first | trivial | exact t5 | assumption) ?_; rintro v mu2 n2 g2 rfl) | (refine (hmm).c2 hfr (λhm=>by first | trivial | exact EntsR.mono hm t5) ?_; rintro v mu2 n2 g2 b7 rfl) | (refine (hmm).c3 hfr (λhm=>by first | trivial | exact EntsR.mono hm t5) ?_; rintro v mu2 n2 g2 b7 b8 rfl)); (try replace b1:=g2.old hfr b1); (try replace b7:=g2.old hfr b7); (try replace t5:=EntsR.mono (λ_ _ hh=>g2.old hfr hh) t5); replace gg:=gg.trans (g2.weaken hle); replace hle:=Nat.le_trans hle g2.le; replace hfr:=g2.free; clear g2; simp only [↓E1,E2,zA,zB,zC,zD,zE,zF,zG,zH,zI,zJ,zK,zL,zM,zN,reduceIte,zO,zP, *,Nat.add_zero])))
   all_goals first
    | (refine hy (by clear hy hn hB hsub b1 b0 hmm; simp_all [doAt',Qfj,dosOk]) _ _ _ ⟨g1.trans (gg.weaken g1.le),b1,?_,?_⟩ <;> simp [updN,updE,h0]; done)
    | (refine hn (by clear hy hn hB hsub b1 b0 hmm; simp_all [doAt',Qfj,dosOk]; try omega) _ _ _ ⟨(by first | exact g1.trans (gg.weaken g1.le) | exact g1.cons g1.le _),?_⟩; simp [updN,updE]; done)
 ·rintro e mu1 n1 K ⟨g1,b1,h0,hc⟩ hx
  have b0:=b1
  unfold repC at b1
  rw [dc_at l_Qdf_2.eq_1]
  have hlt : (r.dos.length < r.dos.length) = False:=by simp
  simp only [↓E1,E2,zA,zB,zC,zD,zE,zF,zG,zH,zI,zJ,zK,zL,zM,zN,reduceIte,zO,zP,h0,hc,hlt,xdl,xds,b1]
  exact hx _ _ _ ⟨g1,b0,by simp [updN,updE,h0],by simp [updN,updE,hc]⟩⟩
end Go.Proofs.YtnnjlnkoomeadaaGreat.Pv
namespace Go.Proofs.YtnnjlnkoomeadaaGreat.Pv
open Go.Ev Go.Ev.Rp
set_option maxRecDepth 100000
set_option maxHeartbeats 4000000
theorem Qi8 (r : Rep) : repB r = (Qid r.nodes && decide (0 ≤ r.me) && decide (r.me < r.nodes) && decide (0 ≤ r.status) && decide (r.status ≤ 2) && countB r.view && countB r.normal && countB r.commit &&
 decide (r.normal ≤ r.view) && (decide (r.status ≠ 0) || decide (r.normal = r.view)) && lgB r.log && decide (r.log.base ≤ r.commit) && decide (r.commit ≤ last r.log) &&
 decide ((r.acks.length : Int) = r.nodes) && r.acks.all countB && (decide (r.status = 1) || decide (r.starts.length = 0) && decide (r.dos.length = 0) && !r.sent) &&
 Qfa r.me r.nodes (-1) r.starts && (Qfa r.me r.nodes (-1) (r.dos.map (·.frm)) && dosB r)):=by
 unfold repB
 rw [Bool.and_assoc (_ && Qfa r.me r.nodes (-1) r.starts)]
theorem Qt7 {a b mu : St} {fz : Fz} {id : Nat} {c : List SV} (h1 : with' (a ++ mu) fz id = some c) (h2 : with' (b ++ (a ++ mu)) fz id = some c) : with' (a ++ b ++ mu) fz id = some c:=by
 rw [Qd6,Qd2] at h1
 rw [Qd6,Qd2,Qd2] at h2
 rw [List.append_assoc,Qd6,Qd2,Qd2]
 cases ea : Ev.look a id with
 | some x=>rw [ea] at h1; exact h1
 | none =>
  rw [ea] at h1 h2
  cases eb : Ev.look b id with
  | some x=>rw [eb] at h2; exact h2
  | none=>exact h1
variable {P : Program} (H : Fs P)
include H
theorem ref16_May (r : Rep) (xe xa xs xd : SV) (hl1 : r.starts.length ≤ 1152921504606846976) (hl2 : r.dos.length ≤ 1152921504606846976) (hl3 : r.acks.length ≤ 1152921504606846976) (hok1 : Ok r.log) (hok2 : ∀ d ∈ r.dos,Ok d.log) :
 BoolC P n_Qdf [.ag (repC r xe xa xs xd)] (λM=>RepS M r xe xa xs xd) (repB r):=boolC H.mx H.Qdf (r.acks.length + r.starts.length + r.dos.length + 1) λfz mu n k hfr gg s h=>by
 obtain ⟨s1,s2,s3,s4⟩:=s
 obtain ⟨xel,xes,xek,xem⟩:=s1.len
 obtain ⟨xal,xas,xak,xam⟩:=s2.len
 obtain ⟨xsl,xss,xsk,xsm⟩:=s3.len
 obtain ⟨xdl,xds,xdk,xdm⟩:=s4.len
 have hfr0:=hfr
 have loop0:=Qpa H r xe xa xs xd hl3 (fu:=r.acks.length + r.starts.length + r.dos.length + 1) hfr0 s2 (by omega)
 have loop1:=Qpy H r xe xa xs xd hl1 (fu:=r.acks.length + r.starts.length + r.dos.length + 1) hfr0 s3 (by omega)
 have loop2:=Qpw H r xe xa xs xd hl2 hok2 (fu:=r.acks.length + r.starts.length + r.dos.length + 1) hfr0 s4 (by omega)
 rw [i_Qdf,dc_at b_Qdf.eq_1]
 unfold repC
 have hA : True:=trivial
 have hle:=Nat.le_refl n
 simp only [↓E1,E2,zA,zB,zC,zD,zE,zF,zG,zH,zI,zJ,zK,zL,zM,zN,reduceIte,zO,zP, *]
 repeat' (first | ((with_reducible refine Qdv (λhb=>?_) (λhb=>?_)) <;> (replace hA:=And.intro hA hb; clear hb; simp only [↓E1,E2,zA,zB,zC,zD,zE,zF,zG,zH,zI,zJ,zK,zL,zM,zN,reduceIte,zO,zP, *])) | ((with_reducible refine CPr_f (f:=n_Qc0) ?_); ((first | (refine (ref16_Nodes H _).d2 hfr (by first | trivial | exact s1 | assumption) ?_; rintro v mu2 n2 g2 rfl) | (refine (ref16_Nodes H _).d3 hfr (λhm=>by first | trivial | exact EntsR.mono hm s1) ?_; rintro v mu2 n2 g2 b1 rfl) | (refine (ref16_Nodes H _).c1 hfr (by first | trivial | exact s1 | assumption) ?_; rintro v mu2 n2 g2 rfl) | (refine (ref16_Nodes H _).c2 hfr (λhm=>by first | trivial | exact EntsR.mono hm s1) ?_; rintro v mu2 n2 g2 b1 rfl) | (refine (ref16_Nodes H _).c3 hfr (λhm=>by first | trivial | exact EntsR.mono hm s1) ?_; rintro v mu2 n2 g2 b1 b2 rfl)); (try replace b1:=g2.old hfr b1); (try replace s1:=EntsR.mono (λ_ _ hh=>g2.old hfr hh) s1); replace gg:=gg.trans (g2.weaken hle); replace hle:=Nat.le_trans hle g2.le; replace hfr:=g2.free; clear g2; simp only [↓E1,E2,zA,zB,zC,zD,zE,zF,zG,zH,zI,zJ,zK,zL,zM,zN,reduceIte,zO,zP, *])) | ((with_reducible refine CPr_f (f:=n_Qda) ?_); ((first | (refine (ref1_Count H _).d2 hfr (by first | trivial | exact s1 | assumption) ?_; rintro v mu2 n2 g2 rfl) | (refine (ref1_Count H _).d3 hfr (λhm=>by first | trivial | exact EntsR.mono hm s1) ?_; rintro v mu2 n2 g2 b1 rfl) | (refine (ref1_Count H _).c1 hfr (by first | trivial | exact s1 | assumption) ?_; rintro v mu2 n2 g2 rfl) | (refine (ref1_Count H _).c2 hfr (λhm=>by first | trivial | exact EntsR.mono hm s1) ?_; rintro v mu2 n2 g2 b1 rfl) | (refine (ref1_Count H _).c3 hfr (λhm=>by first | trivial | exact EntsR.mono hm s1) ?_; rintro v mu2 n2 g2 b1 b2 rfl)); (try replace b1:=g2.old hfr b1); (try replace s1:=EntsR.mono (λ_ _ hh=>g2.old hfr hh) s1); replace gg:=gg.trans (g2.weaken hle); replace hle:=Nat.le_trans hle g2.le; replace hfr:=g2.free; clear g2; simp only [↓E1,E2,zA,zB,zC,zD,zE,zF,zG,zH,zI,zJ,zK,zL,zM,zN,reduceIte,zO,zP, *])) | ((with_reducible refine CPr_f (f:=n_Qc1) ?_); ((first | (refine (ref4_LogMay H r.log xe hok1).d2 hfr (by first | trivial | exact s1 | assumption) ?_; rintro v mu2 n2 g2 rfl) | (refine (ref4_LogMay H r.log xe hok1).d3 hfr (λhm=>by first | trivial | exact EntsR.mono hm s1) ?_; rintro v mu2 n2 g2 b1 rfl) | (refine (ref4_LogMay H r.log xe hok1).c1 hfr (by first | trivial | exact s1 | assumption) ?_; rintro v mu2 n2 g2 rfl) | (refine (ref4_LogMay H r.log xe hok1).c2 hfr (λhm=>by first | trivial | exact EntsR.mono hm s1) ?_; rintro v mu2 n2 g2 b1 rfl) | (refine (ref4_LogMay H r.log xe hok1).c3 hfr (λhm=>by first | trivial | exact EntsR.mono hm s1) ?_; rintro v mu2 n2 g2 b1 b2 rfl)); (try replace b1:=g2.old hfr b1); (try replace s1:=EntsR.mono (λ_ _ hh=>g2.old hfr hh) s1); replace gg:=gg.trans (g2.weaken hle); replace hle:=Nat.le_trans hle g2.le; replace hfr:=g2.free; clear g2; simp only [↓E1,E2,zA,zB,zC,zD,zE,zF,zG,zH,zI,zJ,zK,zL,zM,zN,reduceIte,zO,zP, *])))
 all_goals try ((with_reducible refine CPr_f (f:=n_Qc8) ?_); refine (ref16_Last H r.log xe).d2 hfr s1 ?_; rintro v w2 n2 g2 rfl; have b8:=b1; replace b1:=g2.old hfr b1; have b9:=Qt7 b8 b1; clear b8; replace s1:=EntsR.mono (λ_ _ hh=>g2.old hfr hh) s1; replace gg:=gg.trans (g2.weaken hle); replace hle:=Nat.le_trans hle g2.le; replace hfr:=g2.free; clear g2; simp only [↓E1,E2,zA,zB,zC,zD,zE,zF,zG,zH,zI,zJ,zK,zL,zM,zN,reduceIte,zO,zP, *])
 repeat' (first | ((with_reducible refine Qdv (λhb=>?_) (λhb=>?_)) <;> (replace hA:=And.intro hA hb; clear hb; simp only [↓E1,E2,zA,zB,zC,zD,zE,zF,zG,zH,zI,zJ,zK,zL,zM,zN,reduceIte,zO,zP, *])))
 all_goals (try clear b9)
 all_goals try (refine leafB h (by first | exact gg | exact gg.cons hle _ | exact (gg.cons hle _).cons (Nat.le_succ_of_le hle) _) ?_; (clear h gg hle hfr); (try clear loop); (try clear loop0); (try clear loop1); (try clear s1); (try clear s2); (try clear s3); (try clear s4); (try clear b1); (try clear b2); clear loop2 xel xes xek xem xal xas xak xam xsl xss xsk xsm xdl xds xdk xdm hfr0; rw [Qi8]; (try generalize r.acks.all countB = qq at hA ⊢); first | (simp_all [-List.length_eq_zero_iff]; done) | (simp_all [-List.length_eq_zero_iff]; omega))
 all_goals ((with_reducible refine Lp_at ?_); refine loop0.out _ _ _ _ _ gg b1 (by simp [updN,updE]) (by simp [updN,updE]) (λhr e1 mu1 n1 g1 b1 a2=>?_) (λhr e1 mu1 n1 g1 a1=>?_))
 all_goals (replace hA:=And.intro hA hr; clear hr gg s1 hfr hle)
 all_goals try (simp only [↓E1,E2,zA,zB,zC,zD,zE,zF,zG,zH,zI,zJ,zK,zL,zM,zN,reduceIte,zO,zP, *]; refine leafB h g1 ?_; clear h g1 loop0 loop1 loop2 b1 xel xes xek xem xal xas xak xam xsl xss xsk xsm xdl xds xdk xdm hfr0; rw [Qi8]; (try generalize r.acks.all countB = qq at hA ⊢); simp_all [-List.length_eq_zero_iff]; done)
 all_goals simp only [↓E1,E2,zA,zB,zC,zD,zE,zF,zG,zH,zI,zJ,zK,zL,zM,zN,reduceIte,zO,zP, *]
 all_goals (refine loop1.out _ _ _ _ _ g1 b1 (by simp [updN,updE, *]) (by simp [updN,updE, *]) (λhr e2 mu2 n2 g2 b2 a3=>?_) (λhr e2 mu2 n2 g2 a1=>?_))
 all_goals (replace hA:=And.intro hA hr; clear hr)
 all_goals try (simp only [↓E1,E2,zA,zB,zC,zD,zE,zF,zG,zH,zI,zJ,zK,zL,zM,zN,reduceIte,zO,zP, *]; refine leafB h g2 ?_; clear h g1 g2 loop0 loop1 loop2 b1 xel xes xek xem xal xas xak xam xsl xss xsk xsm xdl xds xdk xdm hfr0; rw [Qi8]; (try generalize r.acks.all countB = qq at hA ⊢); simp_all [-List.length_eq_zero_iff]; done)
 all_goals simp only [↓E1,E2,zA,zB,zC,zD,zE,zF,zG,zH,zI,zJ,zK,zL,zM,zN,reduceIte,zO,zP, *]
 all_goals (refine loop2.out _ _ _ _ _ g2 b2 (by simp [updN,updE, *]) (by simp [updN,updE, *]) (λhr e3 mu3 n3 g3 b3 a4=>?_) (λhr e3 mu3 n3 g3 a1=>?_))
 all_goals (replace hA:=And.intro hA hr; clear hr)
 all_goals try (simp only [↓E1,E2,zA,zB,zC,zD,zE,zF,zG,zH,zI,zJ,zK,zL,zM,zN,reduceIte,zO,zP, *]; refine leafB h g3 ?_; clear h g1 g2 g3 loop0 loop1 loop2 b1 b2 xel xes xek xem xal xas xak xam xsl xss xsk xsm xdl xds xdk xdm hfr0; rw [Qi8]; (try generalize r.acks.all countB = qq at hA ⊢); simp_all [-List.length_eq_zero_iff]; done)
 all_goals (clear b1 b2 g1 g2; unfold repC at b3; simp only [↓E1,E2,zA,zB,zC,zD,zE,zF,zG,zH,zI,zJ,zK,zL,zM,zN,reduceIte,zO,zP, *])
 all_goals repeat' ((with_reducible refine Qdv (λhb=>?_) (λhb=>?_)) <;> (replace hA:=And.intro hA hb; clear hb; simp only [↓E1,E2,zA,zB,zC,zD,zE,zF,zG,zH,zI,zJ,zK,zL,zM,zN,reduceIte,zO,zP, *]))
 all_goals (refine leafB h g3 ?_; clear h g3 loop0 loop1 loop2 b3 xel xes xek xem xal xas xak xam xsl xss xsk xsm xdl xds xdk xdm hfr0; rw [Qi8]; (try generalize r.acks.all countB = qq at hA ⊢); first | (simp_all [-List.length_eq_zero_iff]; done) | (simp_all [-List.length_eq_zero_iff]; omega))
end Go.Proofs.YtnnjlnkoomeadaaGreat.Pv
namespace Go.Ev
def oth (me : Int) : List Int → Nat → List Int
 | [],_=>[]
 | x :: t,i=>if (i : Int) = me then oth me t (i + 1) else x :: oth me t (i + 1)
theorem Qll (me : Int) : ∀ (a b : List Int) (i : Nat),oth me (a ++ b) i = oth me a i ++ oth me b (i + a.length)
 | [],b,i=>by simp [oth]
 | x :: a,b,i=>by
  simp only [List.cons_append,oth,Qll me a b (i + 1),List.length_cons]
  rw [show i + 1 + a.length = i + (a.length + 1) by omega]
  split <;> simp
theorem Qqn (me : Int) {l : List Int} {i : Nat} (h : i < l.length) : oth me (l.take (i + 1)) 0 = if (i : Int) = me then oth me (l.take i) 0 else oth me (l.take i) 0 ++ [l[i]]:=by
 rw [List.take_succ_eq_append_getElem h,Qll]
 simp only [oth,List.length_take,Nat.zero_add,show min i l.length = i by omega]
 split <;> simp
theorem Qh1 (me : Int) : ∀ (l : List Int) (i : Nat),(oth me l i).length ≤ l.length
 | [],_=>by simp [oth]
 | x :: t,i=>by
  have:=Qh1 me t (i + 1)
  simp only [oth]
  split <;> simp <;> omega
def manyL (me : Int) (l : List Int) (t : Int) : Nat:=(oth me l 0).countP (λx=>decide (t ≤ x))
theorem Qum (me : Int) (t : Int) {l : List Int} {i : Nat} (h : i < l.length) : manyL me (l.take (i + 1)) t = if (i : Int) ≠ me ∧ t ≤ l[i] then manyL me (l.take i) t + 1 else manyL me (l.take i) t:=by
 unfold manyL
 rw [Qqn me h]
 by_cases h1 : (i : Int) = me
 ·simp [h1]
 ·by_cases h2 : t ≤ l[i] <;> simp [h1,h2]
theorem many_le (me : Int) (l : List Int) (t : Int) : manyL me l t ≤ l.length:=Nat.le_trans List.countP_le_length (Qh1 me l 0)
theorem Qmt {S : List Int} (hs : S.Pairwise (· ≤ ·)) {f : Nat} (h0 : 0 < f) (hf : f ≤ S.length) (t : Int) : f ≤ S.countP (fun x => decide (t ≤ x)) ↔ t ≤ S[S.length - f]'(by omega) := by
 constructor
 ·intro h
  rcases Int.lt_or_le (S[S.length - f]'(by omega)) t with h1 | h1
  ·exfalso
   have h2 : (S.take (S.length - f + 1)).countP (λx=>decide (t ≤ x)) = 0:=by
    rw [List.countP_eq_zero]
    intro x hx
    obtain ⟨j,hj,rfl⟩:=List.getElem_of_mem hx
    simp only [List.length_take] at hj
    rw [List.getElem_take]
    simp only [decide_eq_true_eq]
    rcases Nat.lt_or_ge j (S.length - f) with h3 | h3
    ·have:=List.pairwise_iff_getElem.1 hs j (S.length - f) (by omega) (by omega) h3; omega
    ·have : j = S.length - f:=by omega
     subst this; omega
   have h3:=@List.countP_le_length _ (λx=>decide (t ≤ x)) (S.drop (S.length - f + 1))
   have h4 : S.countP (λx=>decide (t ≤ x)) = (S.take (S.length - f + 1) ++ S.drop (S.length - f + 1)).countP (λx=>decide (t ≤ x)):=by rw [List.take_append_drop]
   rw [List.countP_append,h2] at h4
   simp only [List.length_drop] at h3
   omega
  ·exact h1
 ·intro h
  have h1 : (S.drop (S.length - f)).countP (λx=>decide (t ≤ x)) = (S.drop (S.length - f)).length:=by
   rw [List.countP_eq_length]
   intro x hx
   obtain ⟨j,hj,rfl⟩:=List.getElem_of_mem hx
   simp only [List.length_drop] at hj
   rw [List.getElem_drop]
   simp only [decide_eq_true_eq]
   rcases Nat.eq_zero_or_pos j with rfl | h3
   ·simpa using h
   ·have:=List.pairwise_iff_getElem.1 hs (S.length - f) (S.length - f + j) (by omega) (by omega) (by omega); omega
  have h4 : S.countP (λx=>decide (t ≤ x)) = (S.take (S.length - f) ++ S.drop (S.length - f)).countP (λx=>decide (t ≤ x)):=by rw [List.take_append_drop]
  rw [List.countP_append,h1] at h4
  simp only [List.length_drop] at h4
  omega
def srt (l : List Int) : List Int:=l.mergeSort λx y=>decide (x ≤ y)
def commF (acks : List Int) (me last : Int) : Int :=
 let f:=(acks.length - 1) / 2
 let S:=srt (oth me acks 0)
 if f = 0 then max 0 last else if h : f ≤ S.length ∧ 0 < f then max 0 (min last (S[S.length - f]'(by omega))) else 0
theorem Qfp (l : List Int) : (srt l).length = l.length:=by unfold srt; exact List.length_mergeSort l
theorem Qjt (l : List Int) : (srt l).Pairwise (· ≤ ·):=by
 have:=List.pairwise_mergeSort (le:=λx y : Int=>decide (x ≤ y)) (λa b c h1 h2=>by simp at *; omega) (λa b=>by simp; omega) l
 exact this.imp λh=>by simpa using h
theorem Qmf {acks : List Int} {me last : Int} (h : (acks.length - 1) / 2 = 0) : commF acks me last = max 0 last:=by
 unfold commF; dsimp only; rw [if_pos h]
theorem Quj {acks : List Int} {me last : Int} (h : ¬ (acks.length - 1) / 2 = 0) (h2 : (oth me acks 0).length < (acks.length - 1) / 2) : commF acks me last = 0:=by
 unfold commF; dsimp only; rw [if_neg h,dif_neg (by rw [Qfp]; omega)]
theorem Qu2 {acks : List Int} {me last : Int} {f j : Nat} (hf : (acks.length - 1) / 2 = f) (h : 0 < f) (h2 : f ≤ (oth me acks 0).length) (hj : j = (oth me acks 0).length - f) (hj2 : j < (srt (oth me acks 0)).length) : commF acks me last = max 0 (min last (srt (oth me acks 0))[j]):=by
 subst hf
 unfold commF; dsimp only
 rw [if_neg (by omega),dif_pos ⟨by rw [Qfp]; exact h2,h⟩]
 have : (srt (oth me acks 0)).length - (acks.length - 1) / 2 = j:=by rw [Qfp]; exact hj.symm
 simp only [this]
theorem Qkb (me : Int) (l : List Int) (t : Int) : manyL me l t = (srt (oth me l 0)).countP (λx=>decide (t ≤ x)) :=
 ((List.mergeSort_perm _ _).countP_eq _).symm
theorem comm_at {acks : List Int} {me last t : Int} (h0 : 0 < t) (hl : t ≤ last) (hn : ∀ u,t < u → u ≤ last → manyL me acks u < (acks.length - 1) / 2) (h : (acks.length - 1) / 2 ≤ manyL me acks t) : commF acks me last = t:=by
 unfold commF
 dsimp only
 by_cases hf : (acks.length - 1) / 2 = 0
 ·rw [if_pos hf]
  rcases Int.lt_or_le t last with h1 | h1
  ·have:=hn last h1 (Int.le_refl _); omega
  ·omega
 ·rw [if_neg hf]
  have hlen : (acks.length - 1) / 2 ≤ (srt (oth me acks 0)).length:=by rw [Qkb] at h; exact Nat.le_trans h List.countP_le_length
  rw [dif_pos ⟨hlen,by omega⟩]
  rw [Qkb,Qmt (Qjt _) (by omega) hlen] at h
  rcases Int.lt_or_le t last with h1 | h1
  ·have:=hn (t + 1) (by omega) (by omega)
   rw [Qkb] at this
   have h2:=mt (Qmt (Qjt (oth me acks 0)) (by omega) hlen (t + 1)).2 (by omega)
   omega
  ·omega
theorem Qtw {acks : List Int} {me last : Int} (hn : ∀ u,0 < u → u ≤ last → manyL me acks u < (acks.length - 1) / 2) : commF acks me last = 0:=by
 unfold commF
 dsimp only
 by_cases h1 : 0 < last
 ·have h2:=hn last h1 (Int.le_refl _)
  have hf : ¬ (acks.length - 1) / 2 = 0:=by omega
  rw [if_neg hf]
  split
  ·rename_i h3
   have h4:=hn 1 (by omega) (by omega)
   rw [Qkb] at h4
   have h5:=mt (Qmt (Qjt (oth me acks 0)) h3.2 h3.1 1).2 (by omega)
   omega
  ·rfl
 ·split
  ·omega
  ·split <;> omega
end Go.Ev
namespace Go.Proofs.YtnnjlnkoomeadaaGreat.Pv
open Go.Ev Go.Ev.Rp
set_option maxRecDepth 100000
set_option maxHeartbeats 4000000
def IntR (_ : Fz) (c : List SV) (a : Int) : Prop:=c = intC a
theorem Qn6 {M : Fz} : ∀ {cs : List (List SV)} {l : List Int},All2 (IntR M) cs l → cs = l.map intC
 | [],[],_=>rfl
 | c :: cs,a :: l,h=>by rw [show c = intC a from h.1,Qn6 h.2]; rfl
theorem Qtx {lo : Nat} {M : Fz} {x : SV} {l : List Int} (h : Grow lo M 1 IntR x l) : IntsX (From lo M) x l:=by
 obtain ⟨cs,h1,h2⟩:=h
 rw [Qn6 h2] at h1; exact h1
theorem cm_flat (l : List Int) : (l.map intC).flatten = l.map (SV.int .i64):=by
 induction l with
 | nil=>rfl
 | cons a l ih=>rw [List.map_cons,List.flatten_cons,ih]; rfl
theorem cm_mkd (l : List Int) : mkd (l.map (SV.int .i64)) = false:=by cases l <;> rfl
theorem cm_sub {l : List Int} {j : Nat} (h : j < l.length) : List.take 1 (List.drop (j * 1) (l.map (SV.int .i64))) = [I l[j]]:=by
 rw [Nat.mul_one,List.drop_eq_getElem_cons (by simpa using h)]
 simp
theorem Qd8 {tm : TM} : evs tm [] = []:=rfl
theorem Qd4 {tm : TM} {x : Od} {l : List Od} : evs tm (x :: l) = ev tm x :: evs tm l:=rfl
def SortC (P : Program) : Prop:=∀ (id cap : Nat) (l : List Int) (fz : Fz) (mu : St) (n : Nat) (k : AV → St → Nat → Prop),Ev.look mu id = some (l.map (SV.int .i64)) → l.length < 4611686018427387904 → k (.tp []) (putS mu id ((srt l).map (SV.int .i64))) n → CP P n_Qas [.one (.osl id 0 l.length cap 1)] fz mu n k
variable {P : Program} (H : Fs P)
include H
theorem replica_Committed (hS : SortC P) (x : SV) (acks : List Int) (me last : Int) (hl : acks.length ≤ 17592186044415) : Ctr P n_Qa2 [.one x, .one (I me), .one (I last)] (fun M => IntsR M x acks) (fun _ _ _ v => v = .one (I (commF acks me last))) := Ctr.of H.mx H.Qa2 (fun _ => acks.length + 1) fun fz mu n k hfr s1 hk => by
 obtain ⟨xl,xs,xk,xm⟩:=s1.len
 rw [i_Qa2,dc_at b_Qa2.eq_1]
 simp only [↓E1,E2,zA,zB,zC,zD,zE,zF,zG,zH,zI,zJ,zK,zL,zM,zN,reduceIte,zO,zP, *]
 refine loopI (x:=0) (L:=acks.length) (p:=λ_=>true) (λi e mu' n'=>∃ xo,Gr n fz mu mu' n n' ∧ Grow n (with' mu' fz) 1 IntR xo (oth me (acks.take i) 0) ∧ e 0 0 = .one x ∧ e 0 1 = .one (I me) ∧ e 0 2 = .one (I last) ∧ e 0 7 = .one xo ∧ e 0 11 = .one x ∧ e 0 12 = .one (.int .i64 acks.length) ∧ e 0 13 = .one (.int .i64 i)) (λe mu' n'=>False) ?_ ?_ _ _ _ _ _ (by omega) ?_ ?_ ?_
 ·rintro i e mu1 n1 K hi ⟨xo,g1,c4,e0,e1,e2,e7,e11,e12,e13⟩ hy hn
  rw [dc_at l_Qa2_0.eq_1]
  have hw:=Qdt hi (by omega)
  obtain ⟨id,off,cap,B,rfl,hB,hmk,hbd,hsub⟩:=(IntsR.mono (λ_ _ hh=>g1.old hfr hh) s1).elem hi
  have hot:=Qqn me hi
  obtain ⟨xol,xos,xok,xom⟩:=c4.len
  have hol:=Qh1 me (acks.take i) 0
  rw [List.length_take] at hol
  simp only [↓E1,E2,zA,zB,zC,zD,zE,zF,zG,zH,zI,zJ,zK,zL,zM,zN,reduceIte,zO,zP, *]
  refine Qdv (λhb=>?_) (λhb=>?_)
  ·have hme : (i : Int) = me:=by simpa using hb
   rw [if_pos hme] at hot
   clear hme
   simp only [↓E1,E2,zA,zB,zC,zD,zE,zF,zG,zH,zI,zJ,zK,zL,zM,zN,reduceIte,zO,zP, *]
   refine hy rfl _ _ _ ⟨xo,g1,by rw [hot]; exact c4,?_,?_,?_,?_,?_,?_,?_⟩
   all_goals simp [updN,updE, *]
  ·have hme : ¬ (i : Int) = me:=by simpa using hb
   rw [if_neg hme] at hot
   clear hme
   simp only [↓E1,E2,zA,zB,zC,zD,zE,zF,zG,zH,zI,zJ,zK,zL,zM,zN,reduceIte,zO,zP, *]
   refine Grow.more (R:=IntR) (λ_ h=>h) (a:=acks[i]) c4 g1.free g1.le (λj hj=>hfr.fz j hj) ((Gr.refl g1.free).cons (Nat.le_refl _) _) rfl ⟨rfl,rfl⟩ (Qef (by omega) (by decide) (by decide)) (λmu3 g3 G3=>?_)
   simp only [↓E1,E2,zA,zB,zC,zD,zE,zF,zG,zH,zI,zJ,zK,zL,zM,zN,reduceIte,zO,zP, *]
   refine hy rfl _ _ _ ⟨_,g1.trans g3,by rw [hot]; exact G3,?_,?_,?_,?_,?_,?_,?_⟩
   all_goals simp [updN,updE, *]
 ·rintro e mu1 n1 K ⟨xo,g1,c4,e0,e1,e2,e7,e11,e12,e13⟩ hx
  rw [dc_at l_Qa2_0.eq_1]
  have hlt : ((acks.length : Int) < acks.length) = False:=by simp
  simp only [↓E1,E2,zA,zB,zC,zD,zE,zF,zG,zH,zI,zJ,zK,zL,zM,zN,reduceIte,zO,zP, *]
  exact hx _ _ _ ⟨xo,g1,c4,by simp [updN,updE,e0],by simp [updN,updE,e1],by simp [updN,updE,e2],by simp [updN,updE,e7],by simp [updN,updE,e11],by simp [updN,updE,e12],by simp [updN,updE,e13]⟩
 ·exact ⟨.nsl,Gr.refl hfr,Grow.nil,by simp [updN,updE,envI],by simp [updN,updE,envI],by simp [updN,updE,envI],by simp [updN,updE],by simp [updN,updE],by simp [updN,updE],by simp [updN,updE]⟩
 ·rintro - e1 mu1 n1 ⟨xo,g1,c4,e0,e1,e2,e7,e11,e12,e13⟩
  rw [List.take_length] at c4
  obtain ⟨f,hf⟩ : ∃ f,(acks.length - 1) / 2 = f:=⟨_,rfl⟩
  have hw1 : IntKind.i64.wrap ((acks.length : Int) - 1) = (acks.length : Int) - 1:=wrap64 (by omega) (by omega)
  have hq : ((acks.length : Int) - 1).tdiv 2 = (f : Int):=by
   rcases Nat.eq_zero_or_pos acks.length with h0 | h0
   ·rw [h0] at hf ⊢; subst hf; rfl
   ·rw [Int.tdiv_eq_ediv_of_nonneg (by omega)]; omega
  have hw2 : IntKind.i64.wrap (f : Int) = (f : Int):=wrap64 (by omega) (by omega)
  obtain ⟨xol,xos,xok,xom⟩:=c4.len
  have hol:=Qh1 me acks 0
  simp only [↓E1,E2,zA,zB,zC,zD,zE,zF,zG,zH,zI,zJ,zK,zL,zM,zN,reduceIte,zO,zP, *]
  refine Qdv (λhb=>?_) (λhb=>?_)
  ·simp only [↓E1,E2,zA,zB,zC,zD,zE,zF,zG,zH,zI,zJ,zK,zL,zM,zN,reduceIte,zO,zP, *]
   simp only [Qd4,Qd8]
   simp only [↓E1,E2,zA,zB,zC,zD,zE,zF,zG,zH,zI,zJ,zK,zL,zM,zN,reduceIte,zO,zP]
   refine hk _ _ _ g1 ?_
   have h0 : acks.length = 0:=by simpa using hb
   have h1 : f = 0:=by omega
   rw [Qmf (hf.trans h1)]
  ·simp only [↓E1,E2,zA,zB,zC,zD,zE,zF,zG,zH,zI,zJ,zK,zL,zM,zN,reduceIte,zO,zP, *]
   refine Qdv (λhc=>?_) (λhc=>?_)
   ·simp only [↓E1,E2,zA,zB,zC,zD,zE,zF,zG,zH,zI,zJ,zK,zL,zM,zN,reduceIte,zO,zP, *]
    simp only [Qd4,Qd8]
    simp only [↓E1,E2,zA,zB,zC,zD,zE,zF,zG,zH,zI,zJ,zK,zL,zM,zN,reduceIte,zO,zP]
    refine hk _ _ _ g1 ?_
    have h1 : f = 0:=by have : (f : Int) ≤ 0:=(by simpa using hc); omega
    rw [Qmf (hf.trans h1)]
   ·simp only [↓E1,E2,zA,zB,zC,zD,zE,zF,zG,zH,zI,zJ,zK,zL,zM,zN,reduceIte,zO,zP, *]
    have h1 : 0 < f:=by have : ¬ (f : Int) ≤ 0:=(by simpa using hc); omega
    refine Qdv (λhd=>?_) (λhd=>?_)
    ·simp only [↓E1,E2,zA,zB,zC,zD,zE,zF,zG,zH,zI,zJ,zK,zL,zM,zN,reduceIte,zO,zP, *]
     refine hk _ _ _ g1 ?_
     have h2 : (oth me acks 0).length < f:=by simpa using hd
     rw [Quj (by omega) (by omega)]
    ·have h2 : f ≤ (oth me acks 0).length:=Nat.not_lt.1 (of_decide_eq_false hd)
     rcases Qtx c4 with ⟨_,h3⟩ | ⟨id,rfl,h3,hmk,hes⟩
     ·have h9 : (oth me acks 0).length = 0:=by have:=congrArg List.length h3; rwa [List.length_map] at this
      omega
     have hlk : Ev.look mu1 id = some ((oth me acks 0).map (SV.int .i64)):=by
      obtain ⟨h4,h5⟩:=From.el h3
      rw [Qe1 (hfr.fz id h4)] at h5
      rw [h5,cm_flat]
     have hid : n ≤ id:=From.lt h3
     clear h3 hmk hes c4
     simp only [List.length_map] at e7 xol xos xok xom
     obtain ⟨j,hj⟩ : ∃ j,j = (oth me acks 0).length - f:=⟨_,rfl⟩
     have hj2 : j < (srt (oth me acks 0)).length:=by rw [Qfp]; omega
     have hco:=Qu2 (last:=last) hf h1 h2 hj hj2
     have hw5 : IntKind.i64.wrap (((oth me acks 0).length : Int) - f) = (j : Int):=by rw [wrap64 (by omega) (by omega)]; omega
     have hcall:=hS id (oth me acks 0).length (oth me acks 0) fz mu1 n1
     simp only [↓E1,E2,zA,zB,zC,zD,zE,zF,zG,zH,zI,zJ,zK,zL,zM,zN,reduceIte,zO,zP, *]
     refine hcall _ hlk (by omega) ?_
     have hB : with' (putS mu1 id ((srt (oth me acks 0)).map (SV.int .i64))) fz id = some ((srt (oth me acks 0)).map (SV.int .i64)):=by rw [Qds hlk,if_pos rfl]
     have hmk:=cm_mkd (srt (oth me acks 0))
     have hbd : j * 1 + 1 ≤ ((srt (oth me acks 0)).map (SV.int .i64)).length:=by rw [List.length_map]; omega
     have hsub:=cm_sub hj2
     have hjl : j < (oth me acks 0).length:=by omega
     have gp:=g1.put hid hlk (c:=(srt (oth me acks 0)).map (SV.int .i64))
     clear hj
     simp only [↓E1,E2,zA,zB,zC,zD,zE,zF,zG,zH,zI,zJ,zK,zL,zM,zN,reduceIte,zO,zP, *]
     simp only [Qd4,Qd8]
     simp only [↓E1,E2,zA,zB,zC,zD,zE,zF,zG,zH,zI,zJ,zK,zL,zM,zN,reduceIte,zO,zP]
     try simp only [Qd4,Qd8]
     try simp only [↓E1,E2,zA,zB,zC,zD,zE,zF,zG,zH,zI,zJ,zK,zL,zM,zN,reduceIte,zO,zP]
     exact hk _ _ _ gp (by rw [hco])
 ·rintro ⟨_,_,_,h⟩; cases h
end Go.Proofs.YtnnjlnkoomeadaaGreat.Pv
namespace Go.Proofs.YtnnjlnkoomeadaaGreat.Pv
open Go.Ev Go.Ev.Rp
set_option maxRecDepth 100000
set_option maxHeartbeats 4000000
theorem RepSz.s (r : Rep) (h : RepSz r) : r.starts.length ≤ 1152921504606846976 ∧ r.dos.length ≤ 1152921504606846976 ∧ r.acks.length ≤ 1152921504606846976:=⟨by have:=h.starts; omega,by have:=h.dos; omega,by have:=h.acks; omega⟩
variable {P : Program} (H : Fs P)
include H
end Go.Proofs.YtnnjlnkoomeadaaGreat.Pv
namespace Go.Proofs.YtnnjlnkoomeadaaGreat.Pv
open Go.Ev Go.Ev.Rp
set_option maxRecDepth 100000
set_option maxHeartbeats 4000000
def tx0 : Tx:=⟨0,0,by decide⟩
theorem Qkl (k : Nat) : rep [I 0] k = ((List.replicate k (0 : Int)).map intC).flatten:=by
 induction k with
 | zero=>rfl
 | succ k ih=>rw [rep_s,ih]; rfl
variable {P : Program} (H : Fs P)
include H
end Go.Proofs.YtnnjlnkoomeadaaGreat.Pv
