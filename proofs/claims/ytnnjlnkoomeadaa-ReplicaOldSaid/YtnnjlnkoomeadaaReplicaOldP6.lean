/-
  ReplicaOld: part 6 of what the proof is made of.
-/
import Derived.Test.YtnnjlnkoomeadaaReplicaOldP5
import Derived.SizedLaws
import Derived.Test.YtnnjlnkoomeadaaProg
import Derived.KernelRfl
import Derived.Carry
import Derived.OpenShut
set_option linter.unusedVariables false
set_option linter.unusedSimpArgs false
namespace Go.Ev
set_option linter.unusedVariables false
section
variable {H : Type} {enc : TypeId × Value → H} {P : Program} {w : World}
def ImpT {H : Type} (enc : TypeId × Value → H) (P : Program) (w : World) (T : TypeId) (q : Fz → List SV → Prop) : Prop :=
  ∀ fuel cs d ps,DataW.trod enc P w 0 (λ_=>true) true fuel T cs = some (d,ps) → (∀ k ∈ d.weights P T,k ≤ reachBytes) → ∀ n fz ρ,Imp w n fz ρ → Im w n fz ρ cs q
def Mono (q : Fz → List SV → Prop) : Prop:=∀ M M' c,Sub M M' → q M c → q M' c
theorem ImpT.mono {T : TypeId} {q r : Fz → List SV → Prop} (h : ImpT enc P w T q) (hq : ∀ M c,q M c → r M c) : ImpT enc P w T r:=λfuel cs d ps h1 h2 n fz ρ h3=>(h fuel cs d ps h1 h2 n fz ρ h3).mono hq
theorem impT_int {T : TypeId} (ht : P.underlying T = some (.int .i64)) : ImpT enc P w T λ_ c=>∃ i : Int,(Lit.int .i64 i).wf = true ∧ c = [.int .i64 i]:=λfuel cs d ps h _ n fz ρ hi=>by
  obtain ⟨i,rfl,_,hw⟩:=DataW.trod_int ht h
  exact (Im.one hi (c:=[.int .i64 i]) (vs:=[.int .i64 i]) (λ_=>⟨rfl,trivial⟩) rfl).mono λ_ _ h=>⟨i,hw,h⟩
theorem impT_str {T : TypeId} (ht : P.underlying T = some .string) : ImpT enc P w T λ_ c=>∃ l m,m < 256 ^ l ∧ l ≤ reachBytes ∧ c = [.str l m]:=λfuel cs d ps h hwt n fz ρ hi=>by
  obtain ⟨s,rfl,hx,_⟩:=DataW.trod_string ht h
  have hd : d = .lit (.string s.data.toList):=congrArg Prod.fst hx
  subst hd
  have hb:=hwt s.data.toList.length (by simp [DataW.weights])
  have hs : sOf s.data.toList.length (nOf s.data.toList) = s:=by
    apply ByteArray.ext
    apply Array.ext'
    show sB _ _ = _
    rw [nOf_eq]
  exact (Im.one hi (c:=[.str s.data.toList.length (nOf s.data.toList)]) (vs:=[.string s]) (λ_=>⟨⟨nOf_lt _,by rw [hs]⟩,trivial⟩) rfl).mono λ_ _ h=>⟨_,_,nOf_lt _,hb,h⟩
theorem imp_fields : ∀ (ts : List (TypeId × (Fz → List SV → Prop))) (segs : List (List Value)),(∀ p ∈ ts,Mono p.2) → All2 (λp cs=>∀ n fz ρ,Imp w n fz ρ → Im w n fz ρ cs p.2) ts segs → ∀ n fz ρ,Imp w n fz ρ → Im w n fz ρ segs.flatten λM c=>∃ cs,c = cs.flatten ∧ All2 (λp d=>p.2 M d) ts cs
  | [],[],_,_,n,fz,ρ,h=>(Im.one h (c:=[]) (vs:=[]) (λ_=>trivial) rfl).mono λ_ _ h=>⟨[],h,trivial⟩
  | [],_ :: _,_,h,_,_,_,_=>h.elim
  | _ :: _,[],_,h,_,_,_,_=>h.elim
  | p :: ts,s :: segs,hm,h,n,fz,ρ,hi=>by
    refine (Im.seq (q:=p.2) (λhs hq=>hm p (by simp) _ _ _ hs hq) (h.1 n fz ρ hi) λn fz ρ hi=>imp_fields ts segs (λp hp=>hm p (by simp [hp])) h.2 n fz ρ hi).mono ?_
    rintro M c ⟨a,b,rfl,h1,cs,rfl,h2⟩
    exact ⟨a :: cs,rfl,h1,h2⟩
def segsOf (P : Program) : List TypeId → List Value → List (List Value)
  | [],_=>[]
  | t :: ts,cs=>cs.take (P.cellsOf t) :: segsOf P ts (cs.drop (P.cellsOf t))
theorem segs_flat : ∀ (ts : List TypeId) (cs : List Value),cs.length = (ts.map P.cellsOf).sum → (segsOf P ts cs).flatten = cs
  | [],cs,h=>by simp at h; simp [segsOf,h]
  | t :: ts,cs,h=>by
    simp only [List.map_cons,List.sum_cons] at h
    simp only [segsOf,List.flatten_cons]
    rw [segs_flat ts _ (by simp; omega),List.take_append_drop]
theorem weights_each {ts : List TypeId} {ds : List (DataW H)} {i : Nat} {t : TypeId} {d : DataW H} (ht : ts[i]? = some t) (hd : ds[i]? = some d) : ∀ k ∈ d.weights P t,k ∈ DataW.weightsEach P ts ds:=λk hk=>DataW.weights_mem_each ht hd k hk
theorem weights_all {e : TypeId} : ∀ {ds : List (DataW H)} {d : DataW H},d ∈ ds → ∀ k ∈ d.weights P e,k ∈ DataW.weightsAll P e ds
  | [],_,h,_,_=>by cases h
  | x :: ds,d,h,k,hk=>by
    simp only [DataW.weightsAll,List.mem_append]
    rcases List.mem_cons.1 h with rfl | h
    · exact .inl hk
    · exact .inr (weights_all h k hk)
theorem impT_struct {T : TypeId} {fs : Array Field} (ht : P.underlying T = some (.struct fs)) (ts : List (TypeId × (Fz → List SV → Prop))) (hts : fs.toList.map (·.type) = ts.map (·.1)) (hoff : fs.toList.map (·.offset) = (List.range ts.length).map fun i => (((ts.map (·.1)).take i).map P.cellsOf).sum)
    (hsz : P.cellsOf T = ((ts.map (·.1)).map P.cellsOf).sum) (hm : ∀ p ∈ ts,Mono p.2) (hi : ∀ p ∈ ts,ImpT enc P w p.1 p.2) : ImpT enc P w T λM c=>∃ cs,c = cs.flatten ∧ All2 (λp d=>p.2 M d) ts cs:=λfuel cs d ps h hwt n fz ρ himp=>by
  obtain ⟨xs,m,_,hx,hlen,hxl,hf⟩:=DataW.trod_struct ht h
  have hd : d = .agg (xs.map (·.1)):=congrArg Prod.fst hx
  subst hd
  have hfl : fs.toList.length = ts.length:=by have:=congrArg List.length hts; simpa using this
  rw [show cs = (segsOf P (ts.map (·.1)) cs).flatten from (segs_flat _ _ (by rw [hlen,hsz])).symm]
  have hseg : ∀ (us : List TypeId) (cs : List Value) (i : Nat) (h : i < us.length),(segsOf P us cs)[i]? = some ((cs.drop ((us.take i).map P.cellsOf).sum).take (P.cellsOf us[i])):=by
    intro us
    induction us with
    | nil=>intro cs i h; simp at h
    | cons u us ih =>
      intro cs i h
      cases i with
      | zero=>simp [segsOf]
      | succ i =>
        have:=ih (cs.drop (P.cellsOf u)) i (by simpa using h)
        simp only [segsOf,List.getElem?_cons_succ,this,List.drop_drop,List.take_succ_cons,List.map_cons,List.sum_cons,List.getElem_cons_succ]
  have hsl : ∀ (us : List TypeId) (cs : List Value),(segsOf P us cs).length = us.length:=by
    intro us
    induction us with
    | nil=>intro cs; rfl
    | cons u us ih=>intro cs; simp [segsOf,ih]
  refine imp_fields ts _ hm (All2.of_get (by rw [hsl]; simp) λi p sg hp hsg n fz ρ himp=>?_) n fz ρ himp
  have hil : i < ts.length:=(List.getElem?_eq_some_iff.1 hp).1
  have hpe : ts[i] = p:=(List.getElem?_eq_some_iff.1 hp).2
  obtain ⟨f,hfi⟩ : ∃ f,fs[i]? = some f:=⟨fs[i]'(by have : fs.size = fs.toList.length:=rfl; omega),Array.getElem?_eq_getElem _⟩
  have hfi' : fs.toList[i]? = some f:=by simpa using hfi
  have e1 : f.type = p.1:=by
    have:=congrArg (·[i]?) hts
    simp only [List.getElem?_map,hfi',hp,Option.map_some] at this
    exact Option.some.inj this
  have e2 : f.offset = (((ts.map (·.1)).take i).map P.cellsOf).sum:=by
    have:=congrArg (·[i]?) hoff
    simp only [List.getElem?_map,hfi',List.getElem?_range hil,Option.map_some] at this
    exact Option.some.inj this
  have h1:=hf i f hfi
  rw [hseg _ _ i (by simpa using hil)] at hsg
  cases hsg
  have hxi : i < xs.length:=by rw [hxl]; have : fs.size = fs.toList.length:=rfl; omega
  rw [List.getElem?_eq_getElem hxi,e1,e2] at h1
  rw [List.getElem_map,hpe]
  refine hi p (List.mem_of_getElem? hp) m _ xs[i].1 xs[i].2 h1 (λk hk=>hwt k ?_) n fz ρ himp
  simp only [DataW.weights,ht]
  exact weights_each (i:=i) (t:=p.1) (d:=xs[i].1) (by rw [List.getElem?_map,hfi',Option.map_some,e1]) (by rw [List.getElem?_map,List.getElem?_eq_getElem hxi,Option.map_some]) k hk
theorem impT_slice {T e : TypeId} (ht : P.underlying T = some (.slice e)) {s b : Nat} (hs : P.cellsOf e = s) (hs0 : 0 < s) (hb : P.bytesOf e = b) {q : Fz → List SV → Prop} (hm : Mono q) (hi : ImpT enc P w e q) :
    ImpT enc P w T λM c=>∃ x css,c = [x] ∧ Sl M s x css ∧ css.length * b ≤ reachBytes ∧ ∀ d ∈ css,q M d:=λfuel cs d ps h hwt n fz ρ himp=>by
  rcases Go.Deep.open_slice ht h with ⟨rfl,_⟩ | ⟨a,len,cap,m,k,D,Pl,rfl,_,hle,hcap,hmm,hx,hel⟩
  · exact (Im.one himp (c:=[.nsl]) (vs:=[.slice none 0 0]) (λ_=>⟨rfl,trivial⟩) rfl).mono λM c hc=>⟨.nsl,[],hc,.inl ⟨.inl rfl,rfl⟩,by simp,λd hd=>(by cases hd)⟩
  · have hmm : m = cap:=hmm
    rw [hmm] at hx hel
    have hd : d = .slice ((List.range len).map D) ((List.range (cap - len)).map λj=>D (len + j)):=congrArg Prod.fst hx
    subst hd
    have hel' : ∀ i,i < cap → ∃ cs',w.cells? 0 (a.add (i * s)) s = some cs' ∧ DataW.trod enc P w 0 (λ_=>true) true k e cs' = some (D i,Pl i):=λi hi=>by rw [← hs]; exact hel i hi
    have hC : ∃ C : Nat → List Value,∀ i,i < cap → w.cells? 0 (a.add (i * s)) s = some (C i) ∧ DataW.trod enc P w 0 (λ_=>true) true k e (C i) = some (D i,Pl i):=by
      refine ⟨λi=>((w.cells? 0 (a.add (i * s)) s).getD []),λi hi=>?_⟩
      obtain ⟨cs',h1,h2⟩:=hel' i hi
      simp only [h1,Option.getD_some]; exact ⟨trivial,h2⟩
    obtain ⟨C,hC⟩:=hC
    have hw1 : ∀ i,i < len → ∀ k ∈ (D i).weights P e,k ≤ reachBytes:=λi hi k hk=>hwt k (by
      simp only [DataW.weights,ht,List.mem_cons,List.mem_append]
      exact .inr (.inl (weights_all (List.mem_map.2 ⟨i,by simpa using hi,rfl⟩) k hk)))
    have hw2 : len * b ≤ reachBytes:=by
      have:=hwt _ (by simp only [DataW.weights,ht,List.mem_cons]; exact .inl rfl)
      simp only [List.length_map,List.length_range,hb] at this
      have h3 : len * b ≤ (len + (cap - len)) * b:=Nat.mul_le_mul_right _ (by omega)
      omega
    refine (imp_slice hs0 (C:=C) (λi hi=>(hC i hi).1) hle hcap (El:=λM c _=>q M c) (λhs hq=>hm _ _ _ hs hq) (λi hi' n fz ρ h=>hi k (C i) _ _ (hC i (by omega)).2 (hw1 i hi') n fz ρ h) himp).mono ?_
    rintro M c ⟨x,css,rfl,h1,h2,h3⟩
    refine ⟨x,css,rfl,h1,by rw [h2]; exact hw2,λd hd=>?_⟩
    obtain ⟨i,hi,rfl⟩:=List.getElem_of_mem hd
    exact h3 i hi
end
end Go.Ev
namespace Go.Proofs.Ytnnjlnkoomeadaa.Pv
open Go.Ev Go.Ev.Rp
set_option maxRecDepth 100000
set_option linter.unusedSimpArgs false
set_option linter.unusedVariables false
set_option linter.unusedSectionVars false
theorem small_eq (x : Int) : decide (x = IntKind.i64.wrap (IntKind.i32.wrap x)) = smallB x:=by
  unfold smallB
  have h1 : IntKind.i32.wrap x = (x + 2147483648) % 4294967296 - 2147483648:=by simp [IntKind.wrap,IntKind.bits,IntKind.signed]; omega
  have h2 : IntKind.i64.wrap (IntKind.i32.wrap x) = IntKind.i32.wrap x:=wrap64 (by rw [h1]; omega) (by rw [h1]; omega)
  rw [h2,h1,Bool.eq_iff_iff]
  simp; omega
abbrev BoolC (P : Program) (f : Nat) (args : List AV) (pre : Fz → Prop) (b : Bool) : Prop:=Ctr P f args pre λ_ _ _ v=>v = .one (.bool b)
theorem boolC {P : Program} {f : Nat} {af : AFunc} {args : List AV} {pre : Fz → Prop} {b : Bool} (hmx : P.follows .mixedOrders = true) (hf : FOk P f af) (fu : Nat) (h : ∀ fz mu n k,Free fz mu n → Gr n fz mu mu n n → pre (with' mu fz) → (∀ mu' n',Gr n fz mu mu' n n' → k (.one (.bool b)) mu' n') → textP P fu af args fz mu n k) : BoolC P f args pre b :=
  Ctr.of hmx hf (λ_=>fu) λfz mu n k h1 h2 h3=>h fz mu n k h1 (Gr.refl h1) h2 λmu' n' g=>h3 _ mu' n' g rfl
theorem ok_byte (b : Nat) : okByte b = (decide ((97 : Int) ≤ b) && decide ((b : Int) ≤ 122) || (decide ((48 : Int) ≤ b) && decide ((b : Int) ≤ 57) || decide ((b : Int) = 95))):=by
  unfold okByte
  rw [Bool.eq_iff_iff]; simp; omega
theorem tx_empty (t : Tx) : strEq t.l t.n 0 0 = decide (t.l = 0):=by
  rw [Bool.eq_iff_iff,strEq_iff,decide_eq_true_iff]
  refine ⟨λh=>h.1,λh=>⟨h,?_⟩⟩
  have:=t.wf
  rw [h] at this; simpa using this
theorem nodes_eq (b : Int) : nodesB b = (decide (1 ≤ b) && decide (b ≤ 7) && decide (b.tmod 2 = 1)):=by
  unfold nodesB
  rw [Bool.eq_iff_iff]
  simp only [Bool.or_eq_true,Bool.and_eq_true,decide_eq_true_eq]
  constructor
  · rintro (((rfl | rfl) | rfl) | rfl) <;> decide
  · rintro ⟨⟨h1,h2⟩,h3⟩
    rw [Int.tmod_eq_emod_of_nonneg (by omega)] at h3; omega
def meB (a b : Int) : Bool:=nodesB b && decide (0 ≤ a) && decide (a < b)
variable {P : Program} (H : Fs P)
include H
theorem point_Small (x : Int) : BoolC P n_point_Small [.one (I x)] (λ_=>True) (smallB x):=boolC H.mx H.point_Small 0 λfz mu n k hfr g0 _ h=>by
  rw [i_point_Small,dc_at b_point_Small.eq_1]
  simp only [↓E1,E2,Int.reduceEq,Int.reduceNe,Int.reduceLT,Int.reduceLE,Int.reduceNeg,Int.reduceAdd,Int.reduceSub,Int.reduceToNat,Nat.reduceEqDiff,Nat.reduceAdd,Nat.reduceMul,Nat.reduceSub,Nat.reduceLeDiff,Nat.reduceBEq,reduceIte,Nat.reduceLT,Nat.reduceBneDiff,small_eq]
  exact h _ _ g0
theorem point_Name (t : Tx) : BoolC P n_point_Name [.one t.sv] (λ_=>True) (nameB t):=boolC H.mx H.point_Name 14 λfz mu n k hfr g0 _ h=>by
  rw [i_point_Name,dc_at b_point_Name.eq_1]
  simp only [↓E1,E2,Int.reduceEq,Int.reduceNe,Int.reduceLT,Int.reduceLE,Int.reduceNeg,Int.reduceAdd,Int.reduceSub,Int.reduceToNat,Nat.reduceEqDiff,Nat.reduceAdd,Nat.reduceMul,Nat.reduceSub,Nat.reduceLeDiff,Nat.reduceBEq,reduceIte,Nat.reduceLT,Nat.reduceBneDiff,tx_empty]
  repeat' (refine Br_intro (λhb=>?_) (λhb=>?_) <;> simp only [↓E1,E2,Int.reduceEq,Int.reduceNe,Int.reduceLT,Int.reduceLE,Int.reduceNeg,Int.reduceAdd,Int.reduceSub,Int.reduceToNat,Nat.reduceEqDiff,Nat.reduceAdd,Nat.reduceMul,Nat.reduceSub,Nat.reduceLeDiff,Nat.reduceBEq,reduceIte,Nat.reduceLT,Nat.reduceBneDiff,hb])
  · have e : nameB t = false := by
      unfold nameB; simp at hb; simp [hb]
    rw [← e]; exact h _ _ g0
  · have e : nameB t = false := by
      unfold nameB; simp at hb
      have : ¬ t.l ≤ 12:=by omega
      simp [this]
    rw [← e]; exact h _ _ g0
  · rename_i hb0
    have hl : t.l ≤ 12:=by simp at hb; omega
    have hl1 : 1 ≤ t.l:=by simp at hb0; omega
    refine scan (x:=0) (L:=t.l) (q:=0) (r:=14) (p:=λi=>okByte (byteAt t.l t.n i)) (λe mu n=>Free fz mu n ∧ e 0 0 = .one t.sv ∧ e 0 13 = .one (.int .i64 t.l)) (λe=>e 0 2 = .one (.bool false)) (λ_ _ _ h=>h.1) ?_ ?_ t.l 0 14 _ mu n _ _ (by omega) (by omega) (by omega) ⟨hfr,?_,?_⟩ ?_ ?_ ?_
    · rintro i e mu n K hi ⟨hf,h0,h13⟩ hc hy hn
      rw [dc_at l_point_Name_0.eq_1]
      have hw:=wrap_succ hi (by omega)
      obtain ⟨b,hbe⟩ : ∃ b,t.n / 256 ^ (t.l - 1 - i) % 256 = b:=⟨_,rfl⟩
      rw [show byteAt t.l t.n i = b from hbe,ok_byte] at hy hn
      simp only [↓E1,E2,Int.reduceEq,Int.reduceNe,Int.reduceLT,Int.reduceLE,Int.reduceNeg,Int.reduceAdd,Int.reduceSub,Int.reduceToNat,Nat.reduceEqDiff,Nat.reduceAdd,Nat.reduceMul,Nat.reduceSub,Nat.reduceLeDiff,Nat.reduceBEq,reduceIte,Nat.reduceLT,Nat.reduceBneDiff,h0,h13,hc,hi,hbe]
      repeat' (refine Br_intro (λhb=>?_) (λhb=>?_) <;> simp only [↓E1,E2,Int.reduceEq,Int.reduceNe,Int.reduceLT,Int.reduceLE,Int.reduceNeg,Int.reduceAdd,Int.reduceSub,Int.reduceToNat,Nat.reduceEqDiff,Nat.reduceAdd,Nat.reduceMul,Nat.reduceSub,Nat.reduceLeDiff,Nat.reduceBEq,reduceIte,Nat.reduceLT,Nat.reduceBneDiff,hb,hc,hw,hbe])
      all_goals first
        | (refine hn (by simp only [↓E1,E2,Int.reduceEq,Int.reduceNe,Int.reduceLT,Int.reduceLE,Int.reduceNeg,Int.reduceAdd,Int.reduceSub,Int.reduceToNat,Nat.reduceEqDiff,Nat.reduceAdd,Nat.reduceMul,Nat.reduceSub,Nat.reduceLeDiff,Nat.reduceBEq,reduceIte,Nat.reduceLT,Nat.reduceBneDiff, *]) _ _ _ (Gr.refl hf) ?_; simp [updN,updE]; done)
        | (refine hy (by simp only [↓E1,E2,Int.reduceEq,Int.reduceNe,Int.reduceLT,Int.reduceLE,Int.reduceNeg,Int.reduceAdd,Int.reduceSub,Int.reduceToNat,Nat.reduceEqDiff,Nat.reduceAdd,Nat.reduceMul,Nat.reduceSub,Nat.reduceLeDiff,Nat.reduceBEq,reduceIte,Nat.reduceLT,Nat.reduceBneDiff, *]) _ _ _ (Gr.refl hf) ⟨hf,?_,?_⟩ ?_ <;> simp [updN,updE,h0,h13]; done)
    · rintro e mu n K ⟨hf,h0,h13⟩ hc hx
      rw [dc_at l_point_Name_0.eq_1]
      have hlt : (t.l < t.l) = False:=by simp
      simp only [↓E1,E2,Int.reduceEq,Int.reduceNe,Int.reduceLT,Int.reduceLE,Int.reduceNeg,Int.reduceAdd,Int.reduceSub,Int.reduceToNat,Nat.reduceEqDiff,Nat.reduceAdd,Nat.reduceMul,Nat.reduceSub,Nat.reduceLeDiff,Nat.reduceBEq,reduceIte,Nat.reduceLT,Nat.reduceBneDiff,h0,h13,hc,hlt]
      exact hx _ _ _ (Gr.refl hf) ⟨hf,by simp [updN,updE,h0],by simp [updN,updE,h13]⟩
    · simp [updN,updE,envI]
    · simp [updN,updE]
    · simp [updN,updE]
    · intro ha e' mu' n' g hI
      simp only [↓E1,E2,Int.reduceEq,Int.reduceNe,Int.reduceLT,Int.reduceLE,Int.reduceNeg,Int.reduceAdd,Int.reduceSub,Int.reduceToNat,Nat.reduceEqDiff,Nat.reduceAdd,Nat.reduceMul,Nat.reduceSub,Nat.reduceLeDiff,Nat.reduceBEq,reduceIte,Nat.reduceLT,Nat.reduceBneDiff]
      have e : nameB t = true:=by
        unfold nameB; simp [hl,hl1,all_range ha]
      rw [← e]; exact h _ _ g
    · intro hx e' mu' n' g hR
      simp only [↓E1,E2,Int.reduceEq,Int.reduceNe,Int.reduceLT,Int.reduceLE,Int.reduceNeg,Int.reduceAdd,Int.reduceSub,Int.reduceToNat,Nat.reduceEqDiff,Nat.reduceAdd,Nat.reduceMul,Nat.reduceSub,Nat.reduceLeDiff,Nat.reduceBEq,reduceIte,Nat.reduceLT,Nat.reduceBneDiff,hR]
      have e : nameB t = false:=by
        unfold nameB; rw [not_all_range hx]; simp
      rw [← e]; exact h _ _ g
theorem message_Node (x : Int) : BoolC P n_message_Node [.one (I x)] (λ_=>True) (decide (0 ≤ x) && decide (x < 7)):=boolC H.mx H.message_Node 0 λfz mu n k hfr g0 _ h=>by
  rw [i_message_Node,dc_at b_message_Node.eq_1]
  simp only [↓E1,E2,Int.reduceEq,Int.reduceNe,Int.reduceLT,Int.reduceLE,Int.reduceNeg,Int.reduceAdd,Int.reduceSub,Int.reduceToNat,Nat.reduceEqDiff,Nat.reduceAdd,Nat.reduceMul,Nat.reduceSub,Nat.reduceLeDiff,Nat.reduceBEq,reduceIte,Nat.reduceLT,Nat.reduceBneDiff]
  repeat' (refine Br_intro (λhb=>?_) (λhb=>?_) <;> simp only [↓E1,E2,Int.reduceEq,Int.reduceNe,Int.reduceLT,Int.reduceLE,Int.reduceNeg,Int.reduceAdd,Int.reduceSub,Int.reduceToNat,Nat.reduceEqDiff,Nat.reduceAdd,Nat.reduceMul,Nat.reduceSub,Nat.reduceLeDiff,Nat.reduceBEq,reduceIte,Nat.reduceLT,Nat.reduceBneDiff,hb])
  all_goals first
    | (have:=h _ _ g0; simp_all; done)
theorem message_Client (x : Int) : BoolC P n_message_Client [.one (I x)] (λ_=>True) (decide (100 ≤ x) && decide (x < 108)):=boolC H.mx H.message_Client 0 λfz mu n k hfr g0 _ h=>by
  rw [i_message_Client,dc_at b_message_Client.eq_1]
  simp only [↓E1,E2,Int.reduceEq,Int.reduceNe,Int.reduceLT,Int.reduceLE,Int.reduceNeg,Int.reduceAdd,Int.reduceSub,Int.reduceToNat,Nat.reduceEqDiff,Nat.reduceAdd,Nat.reduceMul,Nat.reduceSub,Nat.reduceLeDiff,Nat.reduceBEq,reduceIte,Nat.reduceLT,Nat.reduceBneDiff]
  repeat' (refine Br_intro (λhb=>?_) (λhb=>?_) <;> simp only [↓E1,E2,Int.reduceEq,Int.reduceNe,Int.reduceLT,Int.reduceLE,Int.reduceNeg,Int.reduceAdd,Int.reduceSub,Int.reduceToNat,Nat.reduceEqDiff,Nat.reduceAdd,Nat.reduceMul,Nat.reduceSub,Nat.reduceLeDiff,Nat.reduceBEq,reduceIte,Nat.reduceLT,Nat.reduceBneDiff,hb])
  all_goals (have:=h _ _ g0; simp_all)
theorem point_May (p : Pt) : BoolC P n_point_May [.ag (ptC p)] (λ_=>True) (ptB p):=boolC H.mx H.point_May 0 λfz mu n k hfr gg _ h=>by
  rw [i_point_May,dc_at b_point_May.eq_1]
  unfold ptC
  simp only [↓E1,E2,Int.reduceEq,Int.reduceNe,Int.reduceLT,Int.reduceLE,Int.reduceNeg,Int.reduceAdd,Int.reduceSub,Int.reduceToNat,Nat.reduceEqDiff,Nat.reduceAdd,Nat.reduceMul,Nat.reduceSub,Nat.reduceLeDiff,Nat.reduceBEq,reduceIte,Nat.reduceLT,Nat.reduceBneDiff]
  have hle:=Nat.le_refl n
  repeat' (first | ((with_reducible refine Br_intro (λhb=>?_) (λhb=>?_)) <;> simp only [↓E1,E2,Int.reduceEq,Int.reduceNe,Int.reduceLT,Int.reduceLE,Int.reduceNeg,Int.reduceAdd,Int.reduceSub,Int.reduceToNat,Nat.reduceEqDiff,Nat.reduceAdd,Nat.reduceMul,Nat.reduceSub,Nat.reduceLeDiff,Nat.reduceBEq,reduceIte,Nat.reduceLT,Nat.reduceBneDiff, *]) | ((with_reducible refine CPr_f (f:=n_point_Name) ?_); ((first | (refine (point_Name H p.series).d2 hfr (by first | trivial | assumption) ?_; rintro v mu2 n2 g2 rfl) | (refine (point_Name H p.series).d3 hfr (λhm=>by first | trivial) ?_; rintro v mu2 n2 g2 b1 rfl) | (refine (point_Name H p.series).c1 hfr (by first | trivial | assumption) ?_; rintro v mu2 n2 g2 rfl) | (refine (point_Name H p.series).c2 hfr (λhm=>by first | trivial) ?_; rintro v mu2 n2 g2 b1 rfl) | (refine (point_Name H p.series).c3 hfr (λhm=>by first | trivial) ?_; rintro v mu2 n2 g2 b1 b2 rfl)); (try replace b1:=g2.old hfr b1); replace gg:=gg.trans (g2.weaken hle); replace hle:=Nat.le_trans hle g2.le; replace hfr:=g2.free; clear g2; simp only [↓E1,E2,Int.reduceEq,Int.reduceNe,Int.reduceLT,Int.reduceLE,Int.reduceNeg,Int.reduceAdd,Int.reduceSub,Int.reduceToNat,Nat.reduceEqDiff,Nat.reduceAdd,Nat.reduceMul,Nat.reduceSub,Nat.reduceLeDiff,Nat.reduceBEq,reduceIte,Nat.reduceLT,Nat.reduceBneDiff, *])) | ((with_reducible refine CPr_f (f:=n_point_Small) ?_); ((first | (refine (point_Small H _).d2 hfr (by first | trivial | assumption) ?_; rintro v mu2 n2 g2 rfl) | (refine (point_Small H _).d3 hfr (λhm=>by first | trivial) ?_; rintro v mu2 n2 g2 b1 rfl) | (refine (point_Small H _).c1 hfr (by first | trivial | assumption) ?_; rintro v mu2 n2 g2 rfl) | (refine (point_Small H _).c2 hfr (λhm=>by first | trivial) ?_; rintro v mu2 n2 g2 b1 rfl) | (refine (point_Small H _).c3 hfr (λhm=>by first | trivial) ?_; rintro v mu2 n2 g2 b1 b2 rfl)); (try replace b1:=g2.old hfr b1); replace gg:=gg.trans (g2.weaken hle); replace hle:=Nat.le_trans hle g2.le; replace hfr:=g2.free; clear g2; simp only [↓E1,E2,Int.reduceEq,Int.reduceNe,Int.reduceLT,Int.reduceLE,Int.reduceNeg,Int.reduceAdd,Int.reduceSub,Int.reduceToNat,Nat.reduceEqDiff,Nat.reduceAdd,Nat.reduceMul,Nat.reduceSub,Nat.reduceLeDiff,Nat.reduceBEq,reduceIte,Nat.reduceLT,Nat.reduceBneDiff, *])))
  all_goals (refine leafB h (by first | exact gg | exact gg.cons hle _ | exact (gg.cons hle _).cons (Nat.le_succ_of_le hle) _) ?_; (try clear loop); (try clear u); clear h; first | (simp_all [ptB]; done) | (simp_all [ptB]; omega))
theorem point_Batch_1 (p : Pt) : BoolC P n_point_Batch_1 [.ag (ptC p)] (λ_=>True) (!ptB p):=boolC H.mx H.point_Batch_1 0 λfz mu n k hfr g0 _ h=>by
  rw [i_point_Batch_1,dc_at b_point_Batch_1.eq_1]
  unfold ptC
  simp only [↓E1,E2,Int.reduceEq,Int.reduceNe,Int.reduceLT,Int.reduceLE,Int.reduceNeg,Int.reduceAdd,Int.reduceSub,Int.reduceToNat,Nat.reduceEqDiff,Nat.reduceAdd,Nat.reduceMul,Nat.reduceSub,Nat.reduceLeDiff,Nat.reduceBEq,reduceIte,Nat.reduceLT,Nat.reduceBneDiff]
  refine (point_May H p).c1 (hfr.cons _) trivial ?_
  rintro v mu1 n1 g1 rfl
  simp only [↓E1,E2,Int.reduceEq,Int.reduceNe,Int.reduceLT,Int.reduceLE,Int.reduceNeg,Int.reduceAdd,Int.reduceSub,Int.reduceToNat,Nat.reduceEqDiff,Nat.reduceAdd,Nat.reduceMul,Nat.reduceSub,Nat.reduceLeDiff,Nat.reduceBEq,reduceIte,Nat.reduceLT,Nat.reduceBneDiff]
  exact h _ _ ((g0.cons (Nat.le_refl _) _).trans (g1.weaken (Nat.le_succ _)))
theorem index_pts (g : Nat) (p : Pt → Bool) (hg : ∀ a,BoolC P g [.ag (ptC a)] (λ_=>True) (p a)) (x : SV) (l : List Pt) (hl : l.length ≤ 4611686018427387904) : Ctr P n_slices_IndexFunc_api_Point_api_Point [.one x,.one (.fn g [])] (λM=>PtsR M x l) (λ_ _ _ v=>∃ i : Int,v = .one (I i) ∧ decide (0 ≤ i) = l.any p) :=
 Ctr.of H.mx H.slices_IndexFunc_api_Point_api_Point (λ_=>l.length + 1) λfz mu n k hfr hx hk=>by
  obtain ⟨xl,xs,xk,xm⟩:=hx.len
  rw [i_slices_IndexFunc_api_Point_api_Point,dc_at b_slices_IndexFunc_api_Point_api_Point.eq_1]
  simp only [↓E1,E2,Int.reduceEq,Int.reduceNe,Int.reduceLT,Int.reduceLE,Int.reduceNeg,Int.reduceAdd,Int.reduceSub,Int.reduceToNat,Nat.reduceEqDiff,Nat.reduceAdd,Nat.reduceMul,Nat.reduceSub,Nat.reduceLeDiff,Nat.reduceBEq,reduceIte,Nat.reduceLT,Nat.reduceBneDiff,xl,xs]
  refine scan (x:=0) (L:=l.length) (q:=0) (r:=8) (p:=λi=>!((l[i]?.map p).getD false)) (λe mu n=>Free fz mu n ∧ PtsR (with' mu fz) x l ∧ e 0 0 = .one x ∧ e 0 1 = .one (.fn g []) ∧ e 0 7 = .one (.int .i64 l.length)) (λe=>∃ j : Nat,e 0 4 = .one (I j)) (λ_ _ _ h=>h.1) ?_ ?_ l.length 0 (l.length + 1) _ mu n _ _ (by omega) (by omega) (by omega) ⟨hfr,hx,?_,?_,?_⟩ ?_ ?_ ?_
  · rintro i e mu n K hi ⟨hf,hx,h0,h1,h7⟩ hc hy hn
    obtain ⟨id,off,cap,B,rfl,hB,hmk,hbd,hsub⟩:=hx.elem hi
    rw [dc_at l_slices_IndexFunc_api_Point_api_Point_0.eq_1]
    have hw:=wrap_succ hi hl
    simp only [↓E1,E2,Int.reduceEq,Int.reduceNe,Int.reduceLT,Int.reduceLE,Int.reduceNeg,Int.reduceAdd,Int.reduceSub,Int.reduceToNat,Nat.reduceEqDiff,Nat.reduceAdd,Nat.reduceMul,Nat.reduceSub,Nat.reduceLeDiff,Nat.reduceBEq,reduceIte,Nat.reduceLT,Nat.reduceBneDiff,h0,h1,h7,hc,hi,hB,hmk,hbd,hsub]
    refine (hg l[i]).c1 hf trivial ?_
    rintro v mu' n' g rfl
    cases hp : p l[i] with
    | true =>
      simp only [↓E1,E2,Int.reduceEq,Int.reduceNe,Int.reduceLT,Int.reduceLE,Int.reduceNeg,Int.reduceAdd,Int.reduceSub,Int.reduceToNat,Nat.reduceEqDiff,Nat.reduceAdd,Nat.reduceMul,Nat.reduceSub,Nat.reduceLeDiff,Nat.reduceBEq,reduceIte,Nat.reduceLT,Nat.reduceBneDiff]
      exact hn (by simp [hi,hp]) _ _ _ g ⟨i,by simp [updN,updE]⟩
    | false =>
      simp only [↓E1,E2,Int.reduceEq,Int.reduceNe,Int.reduceLT,Int.reduceLE,Int.reduceNeg,Int.reduceAdd,Int.reduceSub,Int.reduceToNat,Nat.reduceEqDiff,Nat.reduceAdd,Nat.reduceMul,Nat.reduceSub,Nat.reduceLeDiff,Nat.reduceBEq,reduceIte,Nat.reduceLT,Nat.reduceBneDiff,hc,hw]
      exact hy (by simp [hi,hp]) _ _ _ g ⟨g.free,PtsR.mono (λid B h=>g.old hf h) hx,by simp [updN,updE,h0],by simp [updN,updE,h1],by simp [updN,updE,h7]⟩ (by simp [updN,updE])
  · rintro e mu n K ⟨hf,hx,h0,h1,h7⟩ hc hy
    rw [dc_at l_slices_IndexFunc_api_Point_api_Point_0.eq_1]
    have hlt : (l.length < l.length) = False:=by simp
    simp only [↓E1,E2,Int.reduceEq,Int.reduceNe,Int.reduceLT,Int.reduceLE,Int.reduceNeg,Int.reduceAdd,Int.reduceSub,Int.reduceToNat,Nat.reduceEqDiff,Nat.reduceAdd,Nat.reduceMul,Nat.reduceSub,Nat.reduceLeDiff,Nat.reduceBEq,reduceIte,Nat.reduceLT,Nat.reduceBneDiff,h0,h1,h7,hc,hlt]
    exact hy _ _ _ (Gr.refl hf) ⟨hf,hx,by simp [updN,updE,h0],by simp [updN,updE,h1],by simp [updN,updE,h7]⟩
  · simp [updN,updE,envI]
  · simp [updN,updE,envI]
  · simp [updN,updE]
  · simp [updN,updE]
  · intro ha e' mu' n' g hI
    simp only [↓E1,E2,Int.reduceEq,Int.reduceNe,Int.reduceLT,Int.reduceLE,Int.reduceNeg,Int.reduceAdd,Int.reduceSub,Int.reduceToNat,Nat.reduceEqDiff,Nat.reduceAdd,Nat.reduceMul,Nat.reduceSub,Nat.reduceLeDiff,Nat.reduceBEq,reduceIte,Nat.reduceLT,Nat.reduceBneDiff]
    refine hk _ _ _ g ⟨-1,rfl,?_⟩
    rw [any_no ha]; rfl
  · rintro hx' e' mu' n' g ⟨j,hj⟩
    simp only [↓E1,E2,Int.reduceEq,Int.reduceNe,Int.reduceLT,Int.reduceLE,Int.reduceNeg,Int.reduceAdd,Int.reduceSub,Int.reduceToNat,Nat.reduceEqDiff,Nat.reduceAdd,Nat.reduceMul,Nat.reduceSub,Nat.reduceLeDiff,Nat.reduceBEq,reduceIte,Nat.reduceLT,Nat.reduceBneDiff,hj]
    refine hk _ _ _ g ⟨j,rfl,?_⟩
    rw [any_yes hx']; simp
theorem contains_pts (g : Nat) (p : Pt → Bool) (hg : ∀ a,BoolC P g [.ag (ptC a)] (λ_=>True) (p a)) (x : SV) (l : List Pt) (hl : l.length ≤ 4611686018427387904) : BoolC P n_slices_ContainsFunc_api_Point_api_Point [.one x,.one (.fn g [])] (λM=>PtsR M x l) (l.any p) :=
 boolC H.mx H.slices_ContainsFunc_api_Point_api_Point 0 λfz mu n k hfr g0 hx h=>by
  rw [i_slices_ContainsFunc_api_Point_api_Point,dc_at b_slices_ContainsFunc_api_Point_api_Point.eq_1]
  simp only [↓E1,E2,Int.reduceEq,Int.reduceNe,Int.reduceLT,Int.reduceLE,Int.reduceNeg,Int.reduceAdd,Int.reduceSub,Int.reduceToNat,Nat.reduceEqDiff,Nat.reduceAdd,Nat.reduceMul,Nat.reduceSub,Nat.reduceLeDiff,Nat.reduceBEq,reduceIte,Nat.reduceLT,Nat.reduceBneDiff]
  refine (index_pts H g p hg x l hl).c1 hfr hx ?_
  rintro v mu1 n1 g1 ⟨i,rfl,hi⟩
  simp only [↓E1,E2,Int.reduceEq,Int.reduceNe,Int.reduceLT,Int.reduceLE,Int.reduceNeg,Int.reduceAdd,Int.reduceSub,Int.reduceToNat,Nat.reduceEqDiff,Nat.reduceAdd,Nat.reduceMul,Nat.reduceSub,Nat.reduceLeDiff,Nat.reduceBEq,reduceIte,Nat.reduceLT,Nat.reduceBneDiff,hi]
  exact h _ _ g1
theorem index_ints (g : Nat) (p : Int → Bool) (hg : ∀ a,BoolC P g [.one (I a)] (λ_=>True) (p a)) (x : SV) (l : List Int) (hl : l.length ≤ 4611686018427387904) : Ctr P n_slices_IndexFunc_int_int [.one x,.one (.fn g [])] (λM=>IntsR M x l) (λ_ _ _ v=>∃ i : Int,v = .one (I i) ∧ decide (0 ≤ i) = l.any p) :=
 Ctr.of H.mx H.slices_IndexFunc_int_int (λ_=>l.length + 1) λfz mu n k hfr hx hk=>by
  obtain ⟨xl,xs,xk,xm⟩:=hx.len
  rw [i_slices_IndexFunc_int_int,dc_at b_slices_IndexFunc_int_int.eq_1]
  simp only [↓E1,E2,Int.reduceEq,Int.reduceNe,Int.reduceLT,Int.reduceLE,Int.reduceNeg,Int.reduceAdd,Int.reduceSub,Int.reduceToNat,Nat.reduceEqDiff,Nat.reduceAdd,Nat.reduceMul,Nat.reduceSub,Nat.reduceLeDiff,Nat.reduceBEq,reduceIte,Nat.reduceLT,Nat.reduceBneDiff,xl,xs]
  refine scan (x:=0) (L:=l.length) (q:=0) (r:=8) (p:=λi=>!((l[i]?.map p).getD false)) (λe mu n=>Free fz mu n ∧ IntsR (with' mu fz) x l ∧ e 0 0 = .one x ∧ e 0 1 = .one (.fn g []) ∧ e 0 7 = .one (.int .i64 l.length)) (λe=>∃ j : Nat,e 0 4 = .one (I j)) (λ_ _ _ h=>h.1) ?_ ?_ l.length 0 (l.length + 1) _ mu n _ _ (by omega) (by omega) (by omega) ⟨hfr,hx,?_,?_,?_⟩ ?_ ?_ ?_
  · rintro i e mu n K hi ⟨hf,hx,h0,h1,h7⟩ hc hy hn
    obtain ⟨id,off,cap,B,rfl,hB,hmk,hbd,hsub⟩:=hx.elem hi
    rw [dc_at l_slices_IndexFunc_int_int_0.eq_1]
    have hw:=wrap_succ hi hl
    simp only [↓E1,E2,Int.reduceEq,Int.reduceNe,Int.reduceLT,Int.reduceLE,Int.reduceNeg,Int.reduceAdd,Int.reduceSub,Int.reduceToNat,Nat.reduceEqDiff,Nat.reduceAdd,Nat.reduceMul,Nat.reduceSub,Nat.reduceLeDiff,Nat.reduceBEq,reduceIte,Nat.reduceLT,Nat.reduceBneDiff,h0,h1,h7,hc,hi,hB,hmk,hbd,hsub]
    refine (hg l[i]).c1 hf trivial ?_
    rintro v mu' n' g rfl
    cases hp : p l[i] with
    | true =>
      simp only [↓E1,E2,Int.reduceEq,Int.reduceNe,Int.reduceLT,Int.reduceLE,Int.reduceNeg,Int.reduceAdd,Int.reduceSub,Int.reduceToNat,Nat.reduceEqDiff,Nat.reduceAdd,Nat.reduceMul,Nat.reduceSub,Nat.reduceLeDiff,Nat.reduceBEq,reduceIte,Nat.reduceLT,Nat.reduceBneDiff]
      exact hn (by simp [hi,hp]) _ _ _ g ⟨i,by simp [updN,updE]⟩
    | false =>
      simp only [↓E1,E2,Int.reduceEq,Int.reduceNe,Int.reduceLT,Int.reduceLE,Int.reduceNeg,Int.reduceAdd,Int.reduceSub,Int.reduceToNat,Nat.reduceEqDiff,Nat.reduceAdd,Nat.reduceMul,Nat.reduceSub,Nat.reduceLeDiff,Nat.reduceBEq,reduceIte,Nat.reduceLT,Nat.reduceBneDiff,hc,hw]
      exact hy (by simp [hi,hp]) _ _ _ g ⟨g.free,IntsR.mono (λid B h=>g.old hf h) hx,by simp [updN,updE,h0],by simp [updN,updE,h1],by simp [updN,updE,h7]⟩ (by simp [updN,updE])
  · rintro e mu n K ⟨hf,hx,h0,h1,h7⟩ hc hy
    rw [dc_at l_slices_IndexFunc_int_int_0.eq_1]
    have hlt : (l.length < l.length) = False:=by simp
    simp only [↓E1,E2,Int.reduceEq,Int.reduceNe,Int.reduceLT,Int.reduceLE,Int.reduceNeg,Int.reduceAdd,Int.reduceSub,Int.reduceToNat,Nat.reduceEqDiff,Nat.reduceAdd,Nat.reduceMul,Nat.reduceSub,Nat.reduceLeDiff,Nat.reduceBEq,reduceIte,Nat.reduceLT,Nat.reduceBneDiff,h0,h1,h7,hc,hlt]
    exact hy _ _ _ (Gr.refl hf) ⟨hf,hx,by simp [updN,updE,h0],by simp [updN,updE,h1],by simp [updN,updE,h7]⟩
  · simp [updN,updE,envI]
  · simp [updN,updE,envI]
  · simp [updN,updE]
  · simp [updN,updE]
  · intro ha e' mu' n' g hI
    simp only [↓E1,E2,Int.reduceEq,Int.reduceNe,Int.reduceLT,Int.reduceLE,Int.reduceNeg,Int.reduceAdd,Int.reduceSub,Int.reduceToNat,Nat.reduceEqDiff,Nat.reduceAdd,Nat.reduceMul,Nat.reduceSub,Nat.reduceLeDiff,Nat.reduceBEq,reduceIte,Nat.reduceLT,Nat.reduceBneDiff]
    refine hk _ _ _ g ⟨-1,rfl,?_⟩
    rw [any_no ha]; rfl
  · rintro hx' e' mu' n' g ⟨j,hj⟩
    simp only [↓E1,E2,Int.reduceEq,Int.reduceNe,Int.reduceLT,Int.reduceLE,Int.reduceNeg,Int.reduceAdd,Int.reduceSub,Int.reduceToNat,Nat.reduceEqDiff,Nat.reduceAdd,Nat.reduceMul,Nat.reduceSub,Nat.reduceLeDiff,Nat.reduceBEq,reduceIte,Nat.reduceLT,Nat.reduceBneDiff,hj]
    refine hk _ _ _ g ⟨j,rfl,?_⟩
    rw [any_yes hx']; simp
theorem contains_ints (g : Nat) (p : Int → Bool) (hg : ∀ a,BoolC P g [.one (I a)] (λ_=>True) (p a)) (x : SV) (l : List Int) (hl : l.length ≤ 4611686018427387904) : BoolC P n_slices_ContainsFunc_int_int [.one x,.one (.fn g [])] (λM=>IntsR M x l) (l.any p) :=
 boolC H.mx H.slices_ContainsFunc_int_int 0 λfz mu n k hfr g0 hx h=>by
  rw [i_slices_ContainsFunc_int_int,dc_at b_slices_ContainsFunc_int_int.eq_1]
  simp only [↓E1,E2,Int.reduceEq,Int.reduceNe,Int.reduceLT,Int.reduceLE,Int.reduceNeg,Int.reduceAdd,Int.reduceSub,Int.reduceToNat,Nat.reduceEqDiff,Nat.reduceAdd,Nat.reduceMul,Nat.reduceSub,Nat.reduceLeDiff,Nat.reduceBEq,reduceIte,Nat.reduceLT,Nat.reduceBneDiff]
  refine (index_ints H g p hg x l hl).c1 hfr hx ?_
  rintro v mu1 n1 g1 ⟨i,rfl,hi⟩
  simp only [↓E1,E2,Int.reduceEq,Int.reduceNe,Int.reduceLT,Int.reduceLE,Int.reduceNeg,Int.reduceAdd,Int.reduceSub,Int.reduceToNat,Nat.reduceEqDiff,Nat.reduceAdd,Nat.reduceMul,Nat.reduceSub,Nat.reduceLeDiff,Nat.reduceBEq,reduceIte,Nat.reduceLT,Nat.reduceBneDiff,hi]
  exact h _ _ g1
theorem point_Batch (x : SV) (l : List Pt) : BoolC P n_point_Batch [.one x] (λM=>PtsR M x l) (batchB l):=boolC H.mx H.point_Batch 0 λfz mu n k hfr g0 hx h=>by
  obtain ⟨xl,xs,xk,xm⟩:=hx.len
  rw [i_point_Batch,dc_at b_point_Batch.eq_1]
  simp only [↓E1,E2,Int.reduceEq,Int.reduceNe,Int.reduceLT,Int.reduceLE,Int.reduceNeg,Int.reduceAdd,Int.reduceSub,Int.reduceToNat,Nat.reduceEqDiff,Nat.reduceAdd,Nat.reduceMul,Nat.reduceSub,Nat.reduceLeDiff,Nat.reduceBEq,reduceIte,Nat.reduceLT,Nat.reduceBneDiff,xl,xs]
  refine Br_intro (λhb=>?_) (λhb=>?_) <;> simp only [↓E1,E2,Int.reduceEq,Int.reduceNe,Int.reduceLT,Int.reduceLE,Int.reduceNeg,Int.reduceAdd,Int.reduceSub,Int.reduceToNat,Nat.reduceEqDiff,Nat.reduceAdd,Nat.reduceMul,Nat.reduceSub,Nat.reduceLeDiff,Nat.reduceBEq,reduceIte,Nat.reduceLT,Nat.reduceBneDiff,hb]
  · refine (contains_pts H _ _ (point_Batch_1 H) x l (by simp at hb; omega)).c1 hfr hx ?_
    rintro v mu1 n1 g1 rfl
    simp only [↓E1,E2,Int.reduceEq,Int.reduceNe,Int.reduceLT,Int.reduceLE,Int.reduceNeg,Int.reduceAdd,Int.reduceSub,Int.reduceToNat,Nat.reduceEqDiff,Nat.reduceAdd,Nat.reduceMul,Nat.reduceSub,Nat.reduceLeDiff,Nat.reduceBEq,reduceIte,Nat.reduceLT,Nat.reduceBneDiff,hb]
    have e : batchB l = !(l.any λp=>!ptB p):=by
      unfold batchB
      have : l.length ≤ 8:=by simp at hb; omega
      simp [this,List.all_eq_not_any_not]
    rw [← e]; exact h _ _ g1
  · have e : batchB l = false := by
      unfold batchB
      have : ¬ l.length ≤ 8:=by simp at hb; omega
      simp [this]
    rw [← e]; exact h _ _ g0
theorem message_MayEntry (e : Ent) (b : SV) : BoolC P n_message_MayEntry [.ag (entC e b)] (λM=>PtsR M b e.batch) (entB e):=boolC H.mx H.message_MayEntry 5 λfz mu n k hfr gg s1 h=>by
  obtain ⟨xl,xs,xk,xm⟩:=s1.len
  have u : ∀ en mu n k,dcode pOrc False (CP P) fz 5 l_message_MayEntry_0 (tmE 40 en) mu n k = _:=λen mu n k=>dc_at l_message_MayEntry_0.eq_1
  rw [i_message_MayEntry,dc_at b_message_MayEntry.eq_1]
  unfold entC
  simp only [↓E1,E2,Int.reduceEq,Int.reduceNe,Int.reduceLT,Int.reduceLE,Int.reduceNeg,Int.reduceAdd,Int.reduceSub,Int.reduceToNat,Nat.reduceEqDiff,Nat.reduceAdd,Nat.reduceMul,Nat.reduceSub,Nat.reduceLeDiff,Nat.reduceBEq,reduceIte,Nat.reduceLT,Nat.reduceBneDiff,xl,xs,xk,xm,↓u,↓Lp_step]
  have hle:=Nat.le_refl n
  repeat' (first | ((with_reducible refine Br_intro (λhb=>?_) (λhb=>?_)) <;> simp only [↓E1,E2,Int.reduceEq,Int.reduceNe,Int.reduceLT,Int.reduceLE,Int.reduceNeg,Int.reduceAdd,Int.reduceSub,Int.reduceToNat,Nat.reduceEqDiff,Nat.reduceAdd,Nat.reduceMul,Nat.reduceSub,Nat.reduceLeDiff,Nat.reduceBEq,reduceIte,Nat.reduceLT,Nat.reduceBneDiff, *,↓u,↓Lp_step]) | ((with_reducible refine CPr_f (f:=n_point_Batch) ?_); ((first | (refine (point_Batch H b e.batch).d2 hfr (by first | trivial | exact s1 | assumption) ?_; rintro v mu2 n2 g2 rfl) | (refine (point_Batch H b e.batch).d3 hfr (λhm=>by first | trivial | exact PtsR.mono hm s1) ?_; rintro v mu2 n2 g2 b1 rfl) | (refine (point_Batch H b e.batch).c1 hfr (by first | trivial | exact s1 | assumption) ?_; rintro v mu2 n2 g2 rfl) | (refine (point_Batch H b e.batch).c2 hfr (λhm=>by first | trivial | exact PtsR.mono hm s1) ?_; rintro v mu2 n2 g2 b1 rfl) | (refine (point_Batch H b e.batch).c3 hfr (λhm=>by first | trivial | exact PtsR.mono hm s1) ?_; rintro v mu2 n2 g2 b1 b2 rfl)); (try replace b1:=g2.old hfr b1); (try replace b2:=g2.old hfr b2); (try replace s1:=PtsR.mono (λ_ _ hh=>g2.old hfr hh) s1); replace gg:=gg.trans (g2.weaken hle); replace hle:=Nat.le_trans hle g2.le; replace hfr:=g2.free; clear g2; simp only [↓E1,E2,Int.reduceEq,Int.reduceNe,Int.reduceLT,Int.reduceLE,Int.reduceNeg,Int.reduceAdd,Int.reduceSub,Int.reduceToNat,Nat.reduceEqDiff,Nat.reduceAdd,Nat.reduceMul,Nat.reduceSub,Nat.reduceLeDiff,Nat.reduceBEq,reduceIte,Nat.reduceLT,Nat.reduceBneDiff, *,↓u,↓Lp_step])))
  all_goals clear u
  all_goals (refine leafB h (by first | exact gg | exact gg.cons hle _ | exact (gg.cons hle _).cons (Nat.le_succ_of_le hle) _) ?_; (try clear loop); (try clear u); clear h; first | (simp_all [entB,countB]; done) | (simp_all [entB,countB]; omega))
theorem message_MayLog (l : Lg) (x : SV) : BoolC P n_message_MayLog [.ag (lgC l x)] (λM=>EntsR M x l.ents) (lgB l):=boolC H.mx H.message_MayLog 4098 λfz mu n k hfr gg s1 h=>by
  obtain ⟨xl,xs,xk,xm⟩:=s1.len
  have loop : ∀ (e : Env) mu1 n1 (K : LK) w, l.ents.length ≤ 4096 → Gr n fz mu mu1 n n1 → EntsR (with' mu1 fz) x l.ents → e 2 4 = .one x → e 2 5 = .one (.int .i64 l.ents.length) → e 2 6 = .one (.int .i64 0) →
      (l.ents.all entB = true → ∀ e' mu' n',Gr n fz mu mu' n n' → K (.exit 0) (tmE 46 e') mu' n') → (l.ents.all entB = false → ∀ e' mu' n',Gr n fz mu mu' n n' → e' 0 2 = .one (.bool false) → K .ret (tmE 46 e') mu' n') →
      Lp (dcode pOrc False (CP P) fz 4098 l_message_MayLog_0) 4098 (tmE 46 e) mu1 n1 K w:=by
    intro e mu1 n1 K w hl g1 s1 i1 i2 i3 hd hr
    refine scan (x:=0) (L:=l.ents.length) (p:=λi=>(l.ents[i]?.map entB).getD true) (λe mu n=>Free fz mu n ∧ EntsR (with' mu fz) x l.ents ∧ e 2 4 = .one x ∧ e 2 5 = .one (.int .i64 l.ents.length)) (λe=>e 0 2 = .one (.bool false)) (λ_ _ _ h=>h.1) ?_ ?_ l.ents.length 0 4098 e mu1 n1 K w (by omega) (by omega) (by omega) ⟨g1.free,s1,i1,i2⟩ i3
      (λha e' mu' n' g _=>hd (all_list ha) e' mu' n' (g1.trans (g.weaken g1.le))) (λha e' mu' n' g hR=>hr (not_all_list ha) e' mu' n' (g1.trans (g.weaken g1.le)) hR)
    · rintro i e mu n K hi ⟨hfr,s1,i1,i2⟩ hc hy hn
      obtain ⟨id,off,cap,B,bx,rfl,hB,hmk,hbd,hsub,s2⟩:=s1.elem hi
      have hw:=wrap_succ hi (by omega)
      have gg:=Gr.refl (lo:=n) hfr
      have hle:=Nat.le_refl n
      rw [dc_at l_message_MayLog_0.eq_1]
      obtain ⟨yl,ys,yk,ym⟩:=s2.len; unfold entC at hsub
      simp only [↓E1,E2,Int.reduceEq,Int.reduceNe,Int.reduceLT,Int.reduceLE,Int.reduceNeg,Int.reduceAdd,Int.reduceSub,Int.reduceToNat,Nat.reduceEqDiff,Nat.reduceAdd,Nat.reduceMul,Nat.reduceSub,Nat.reduceLeDiff,Nat.reduceBEq,reduceIte,Nat.reduceLT,Nat.reduceBneDiff, *]
      repeat' (first | ((with_reducible refine Br_intro (λhb=>?_) (λhb=>?_)) <;> simp only [↓E1,E2,Int.reduceEq,Int.reduceNe,Int.reduceLT,Int.reduceLE,Int.reduceNeg,Int.reduceAdd,Int.reduceSub,Int.reduceToNat,Nat.reduceEqDiff,Nat.reduceAdd,Nat.reduceMul,Nat.reduceSub,Nat.reduceLeDiff,Nat.reduceBEq,reduceIte,Nat.reduceLT,Nat.reduceBneDiff, *]) | ((with_reducible refine CPr_f (f:=n_message_MayEntry) ?_); ((first | (refine (message_MayEntry H l.ents[i] bx).d2 hfr (by first | trivial | exact s1 | exact s2 | assumption) ?_; rintro v mu2 n2 g2 rfl) | (refine (message_MayEntry H l.ents[i] bx).d3 hfr (λhm=>by first | trivial | exact EntsR.mono hm s1 | exact PtsR.mono hm s2) ?_; rintro v mu2 n2 g2 b1 rfl) | (refine (message_MayEntry H l.ents[i] bx).c1 hfr (by first | trivial | exact s1 | exact s2 | assumption) ?_; rintro v mu2 n2 g2 rfl) | (refine (message_MayEntry H l.ents[i] bx).c2 hfr (λhm=>by first | trivial | exact EntsR.mono hm s1 | exact PtsR.mono hm s2) ?_; rintro v mu2 n2 g2 b1 rfl) | (refine (message_MayEntry H l.ents[i] bx).c3 hfr (λhm=>by first | trivial | exact EntsR.mono hm s1 | exact PtsR.mono hm s2) ?_; rintro v mu2 n2 g2 b1 b2 rfl)); (try replace s1:=EntsR.mono (λ_ _ hh=>g2.old hfr hh) s1); (try replace s2:=PtsR.mono (λ_ _ hh=>g2.old hfr hh) s2); replace gg:=gg.trans (g2.weaken hle); replace hle:=Nat.le_trans hle g2.le; replace hfr:=g2.free; clear g2; simp only [↓E1,E2,Int.reduceEq,Int.reduceNe,Int.reduceLT,Int.reduceLE,Int.reduceNeg,Int.reduceAdd,Int.reduceSub,Int.reduceToNat,Nat.reduceEqDiff,Nat.reduceAdd,Nat.reduceMul,Nat.reduceSub,Nat.reduceLeDiff,Nat.reduceBEq,reduceIte,Nat.reduceLT,Nat.reduceBneDiff, *])))
      all_goals first
        | (refine hy (by simp_all [entB]) _ _ _ (by first | exact gg | exact gg.cons hle _ | exact (gg.cons hle _).cons (Nat.le_succ_of_le hle) _) ⟨(by first | exact hfr | exact hfr.cons _ | exact (hfr.cons _).cons _),(by first | exact s1 | exact EntsR.mono (λ_ _ hh=>((Gr.refl (lo:=_) hfr).cons (Nat.le_refl _) _).old hfr hh) s1 | exact EntsR.mono (λ_ _ hh=>(((Gr.refl (lo:=_) hfr).cons (Nat.le_refl _) _).cons (Nat.le_succ _) _).old hfr hh) s1),by simp [updN,updE, *],by simp [updN,updE, *]⟩ (by simp [updN,updE, *]); done)
        | (refine hn (by simp_all [entB]) _ _ _ (by first | exact gg | exact gg.cons hle _ | exact (gg.cons hle _).cons (Nat.le_succ_of_le hle) _) (by simp [updN,updE, *]); done)
    · rintro e mu n K ⟨hfr,s1,i1,i2⟩ hc hy
      rw [dc_at l_message_MayLog_0.eq_1]
      have hlt : (l.ents.length < l.ents.length) = False:=by simp
      simp only [↓E1,E2,Int.reduceEq,Int.reduceNe,Int.reduceLT,Int.reduceLE,Int.reduceNeg,Int.reduceAdd,Int.reduceSub,Int.reduceToNat,Nat.reduceEqDiff,Nat.reduceAdd,Nat.reduceMul,Nat.reduceSub,Nat.reduceLeDiff,Nat.reduceBEq,reduceIte,Nat.reduceLT,Nat.reduceBneDiff, *]
      exact hy _ _ _ (Gr.refl hfr) ⟨hfr,s1,by simp [updN,updE, *],by simp [updN,updE, *]⟩
  rw [i_message_MayLog,dc_at b_message_MayLog.eq_1]
  unfold lgC
  simp only [↓E1,E2,Int.reduceEq,Int.reduceNe,Int.reduceLT,Int.reduceLE,Int.reduceNeg,Int.reduceAdd,Int.reduceSub,Int.reduceToNat,Nat.reduceEqDiff,Nat.reduceAdd,Nat.reduceMul,Nat.reduceSub,Nat.reduceLeDiff,Nat.reduceBEq,reduceIte,Nat.reduceLT,Nat.reduceBneDiff,xl,xs,xk,xm,tx_empty]
  have hle:=Nat.le_refl n
  repeat' (first | ((with_reducible refine Br_intro (λhb=>?_) (λhb=>?_)) <;> simp only [↓E1,E2,Int.reduceEq,Int.reduceNe,Int.reduceLT,Int.reduceLE,Int.reduceNeg,Int.reduceAdd,Int.reduceSub,Int.reduceToNat,Nat.reduceEqDiff,Nat.reduceAdd,Nat.reduceMul,Nat.reduceSub,Nat.reduceLeDiff,Nat.reduceBEq,reduceIte,Nat.reduceLT,Nat.reduceBneDiff, *,tx_empty]))
  all_goals try (refine leafB h (gg.cons hle _) ?_; clear loop h; first | (simp_all [lgB,countB]; done) | (simp_all [lgB,countB]; omega))
  all_goals (refine loop _ _ _ _ _ (by clear loop h; first | assumption | (simp_all; omega) | (simp_all; done)) (by first | exact gg | exact gg.cons hle _ | exact (gg.cons hle _).cons (Nat.le_succ_of_le hle) _) (by first | exact s1 | exact EntsR.mono (λ_ _ hh=>((Gr.refl (lo:=_) hfr).cons (Nat.le_refl _) _).old hfr hh) s1 | exact EntsR.mono (λ_ _ hh=>(((Gr.refl (lo:=_) hfr).cons (Nat.le_refl _) _).cons (Nat.le_succ _) _).old hfr hh) s1) (by simp [updN,updE, *]) (by simp [updN,updE, *]) (by simp [updN,updE, *]) (λha e' mu' n' g=>?_) (λha e' mu' n' g hR=>?_) <;> simp only [↓E1,E2,Int.reduceEq,Int.reduceNe,Int.reduceLT,Int.reduceLE,Int.reduceNeg,Int.reduceAdd,Int.reduceSub,Int.reduceToNat,Nat.reduceEqDiff,Nat.reduceAdd,Nat.reduceMul,Nat.reduceSub,Nat.reduceLeDiff,Nat.reduceBEq,reduceIte,Nat.reduceLT,Nat.reduceBneDiff, *] <;> (refine leafB h g ?_; (first | (simp_all [lgB,countB]; done) | (simp_all [lgB,countB]; omega))))
theorem repair_Nodes (a b : Int) : BoolC P n_repair_Nodes [.one (I a),.one (I b)] (λ_=>True) (meB a b):=boolC H.mx H.repair_Nodes 0 λfz mu n k hfr gg _ h=>by
  rw [i_repair_Nodes,dc_at b_repair_Nodes.eq_1]
  simp only [↓E1,E2,Int.reduceEq,Int.reduceNe,Int.reduceLT,Int.reduceLE,Int.reduceNeg,Int.reduceAdd,Int.reduceSub,Int.reduceToNat,Nat.reduceEqDiff,Nat.reduceAdd,Nat.reduceMul,Nat.reduceSub,Nat.reduceLeDiff,Nat.reduceBEq,reduceIte,Nat.reduceLT,Nat.reduceBneDiff,← nodes_eq]
  have hle:=Nat.le_refl n
  repeat' (first | ((with_reducible refine Br_intro (λhb=>?_) (λhb=>?_)) <;> simp only [↓E1,E2,Int.reduceEq,Int.reduceNe,Int.reduceLT,Int.reduceLE,Int.reduceNeg,Int.reduceAdd,Int.reduceSub,Int.reduceToNat,Nat.reduceEqDiff,Nat.reduceAdd,Nat.reduceMul,Nat.reduceSub,Nat.reduceLeDiff,Nat.reduceBEq,reduceIte,Nat.reduceLT,Nat.reduceBneDiff, *]))
  all_goals (refine leafB h (by first | exact gg | exact gg.cons hle _ | exact (gg.cons hle _).cons (Nat.le_succ_of_le hle) _) ?_; (try clear loop); (try clear u); clear h; first | (simp_all [meB,nodes_eq]; done) | (simp_all [meB,nodes_eq]; omega))
theorem replica_within (x : Int) : BoolC P n_replica_within [.one (I x)] (λ_=>True) (countB x):=boolC H.mx H.replica_within 0 λfz mu n k hfr g0 _ h=>by
  rw [i_replica_within,dc_at b_replica_within.eq_1]
  simp only [↓E1,E2,Int.reduceEq,Int.reduceNe,Int.reduceLT,Int.reduceLE,Int.reduceNeg,Int.reduceAdd,Int.reduceSub,Int.reduceToNat,Nat.reduceEqDiff,Nat.reduceAdd,Nat.reduceMul,Nat.reduceSub,Nat.reduceLeDiff,Nat.reduceBEq,reduceIte,Nat.reduceLT,Nat.reduceBneDiff]
  repeat' (refine Br_intro (λhb=>?_) (λhb=>?_) <;> simp only [↓E1,E2,Int.reduceEq,Int.reduceNe,Int.reduceLT,Int.reduceLE,Int.reduceNeg,Int.reduceAdd,Int.reduceSub,Int.reduceToNat,Nat.reduceEqDiff,Nat.reduceAdd,Nat.reduceMul,Nat.reduceSub,Nat.reduceLeDiff,Nat.reduceBEq,reduceIte,Nat.reduceLT,Nat.reduceBneDiff,hb])
  all_goals (have:=h _ _ g0; simp_all [countB])
theorem replica_May_1 (x : Int) : BoolC P n_replica_May_1 [.one (I x)] (λ_=>True) (!countB x):=boolC H.mx H.replica_May_1 0 λfz mu n k hfr g0 _ h=>by
  rw [i_replica_May_1,dc_at b_replica_May_1.eq_1]
  simp only [↓E1,E2,Int.reduceEq,Int.reduceNe,Int.reduceLT,Int.reduceLE,Int.reduceNeg,Int.reduceAdd,Int.reduceSub,Int.reduceToNat,Nat.reduceEqDiff,Nat.reduceAdd,Nat.reduceMul,Nat.reduceSub,Nat.reduceLeDiff,Nat.reduceBEq,reduceIte,Nat.reduceLT,Nat.reduceBneDiff]
  refine (replica_within H x).c1 hfr trivial ?_
  rintro v mu1 n1 g1 rfl
  simp only [↓E1,E2,Int.reduceEq,Int.reduceNe,Int.reduceLT,Int.reduceLE,Int.reduceNeg,Int.reduceAdd,Int.reduceSub,Int.reduceToNat,Nat.reduceEqDiff,Nat.reduceAdd,Nat.reduceMul,Nat.reduceSub,Nat.reduceLeDiff,Nat.reduceBEq,reduceIte,Nat.reduceLT,Nat.reduceBneDiff]
  exact h _ _ g1
theorem choose_Last (l : Lg) (x : SV) : Ctr P n_choose_Last [.ag (lgC l x)] (λM=>EntsR M x l.ents) (λ_ _ _ v=>v = .one (I (last l))):=Ctr.of H.mx H.choose_Last (λ_=>0) λfz mu n k hfr hx hk=>by
  obtain ⟨xl,xs,xk,xm⟩:=hx.len
  rw [i_choose_Last,dc_at b_choose_Last.eq_1]
  unfold lgC
  simp only [↓E1,E2,Int.reduceEq,Int.reduceNe,Int.reduceLT,Int.reduceLE,Int.reduceNeg,Int.reduceAdd,Int.reduceSub,Int.reduceToNat,Nat.reduceEqDiff,Nat.reduceAdd,Nat.reduceMul,Nat.reduceSub,Nat.reduceLeDiff,Nat.reduceBEq,reduceIte,Nat.reduceLT,Nat.reduceBneDiff,xl,xs,xk,xm]
  exact hk _ _ _ ((Gr.refl hfr).cons (Nat.le_refl _) _) rfl
end Go.Proofs.Ytnnjlnkoomeadaa.Pv
namespace Go.Proofs.Ytnnjlnkoomeadaa.Pv
open Go.Ev Go.Ev.Rp
set_option maxRecDepth 100000
set_option maxHeartbeats 4000000
set_option linter.unusedSimpArgs false
set_option linter.unusedVariables false
set_option linter.unusedSectionVars false
def prv (p : Int) (l : List Int) (i : Nat) : Int:=if i = 0 then p else l.getD (i - 1) 0
def riseAt (me k p : Int) (l : List Int) (i : Nat) : Bool:=decide (prv p l i < l.getD i 0) && decide (l.getD i 0 < k) && decide (l.getD i 0 ≠ me)
theorem rises_all (me k : Int) : ∀ (l : List Int) (p : Int),risesB me k p l = (List.range l.length).all (riseAt me k p l)
  | [],p=>rfl
  | a :: l,p=>by
    rw [risesB,rises_all me k l a,List.length_cons,List.range_succ_eq_map,List.all_cons,List.all_map]
    congr 1
    apply List.all_congr rfl
    intro i
    cases i <;> rfl
def dosOk (r : Rep) (i : Nat) : Bool:=match r.dos[i]? with | none=>true | some d=>lgB d.log && decide (0 ≤ d.normal) && decide (d.normal < r.view) && decide (0 ≤ d.commit)
theorem dos_all (r : Rep) : dosB r = (List.range r.dos.length).all (dosOk r):=by
  unfold dosB
  rw [Bool.eq_iff_iff,List.all_eq_true,List.all_eq_true]
  constructor
  · intro h i hi
    have hi : i < r.dos.length:=by simpa using hi
    unfold dosOk
    rw [List.getElem?_eq_getElem hi]
    exact h _ (List.getElem_mem hi)
  · intro h d hd
    obtain ⟨i,hi,rfl⟩:=List.getElem_of_mem hd
    have:=h i (by simpa using hi)
    unfold dosOk at this
    rw [List.getElem?_eq_getElem hi] at this
    exact this
def doAt (r : Rep) (i : Nat) : Bool:=riseAt r.me r.nodes (-1) (r.dos.map (·.frm)) i && dosOk r i
theorem do_all (r : Rep) : (risesB r.me r.nodes (-1) (r.dos.map (·.frm)) && dosB r) = (List.range r.dos.length).all (doAt r):=by
  rw [rises_all,dos_all,List.length_map]
  unfold doAt
  rw [Bool.eq_iff_iff]
  simp only [Bool.and_eq_true,List.all_eq_true]
  exact ⟨λh i hi=>⟨h.1 i hi,h.2 i hi⟩,λh=>⟨λi hi=>(h i hi).1,λi hi=>(h i hi).2⟩⟩
theorem repB_eq (r : Rep) : repB r = (meB r.me r.nodes && decide (0 ≤ r.status) && decide (r.status ≤ 2) && countB r.view && countB r.normal && countB r.commit &&
  decide (r.normal ≤ r.view) && (decide (r.status ≠ 0) || decide (r.normal = r.view)) && lgB r.log && decide (r.log.base ≤ r.commit) && decide (r.commit ≤ last r.log) &&
  decide ((r.acks.length : Int) = r.nodes) && !(r.acks.any λa=>!countB a) && (decide (r.status = 1) || decide (r.starts.length = 0) && decide (r.dos.length = 0) && !r.sent) &&
  risesB r.me r.nodes (-1) r.starts && (risesB r.me r.nodes (-1) (r.dos.map (·.frm)) && dosB r)):=by
  unfold repB meB
  rw [List.all_eq_not_any_not,Bool.and_assoc (_ && risesB r.me r.nodes (-1) r.starts)]
variable {P : Program} (H : Fs P)
include H
theorem replica_May (r : Rep) (xe xa xs xd : SV) (hl1 : r.starts.length ≤ 1152921504606846976) (hl2 : r.dos.length ≤ 1152921504606846976) (hl3 : r.acks.length ≤ 1152921504606846976) :
    BoolC P n_replica_May [.ag (repC r xe xa xs xd)] (λM=>EntsR M xe r.log.ents ∧ IntsR M xa r.acks ∧ IntsR M xs r.starts ∧ DvsR M xd r.dos) (repB r):=boolC H.mx H.replica_May (r.starts.length + r.dos.length + 1) λfz mu n k hfr gg s h=>by
  obtain ⟨s1,s2,s3,s4⟩:=s
  obtain ⟨xel,xes,xek,xem⟩:=s1.len
  obtain ⟨xal,xas,xak,xam⟩:=s2.len
  obtain ⟨xsl,xss,xsk,xsm⟩:=s3.len
  obtain ⟨xdl,xds,xdk,xdm⟩:=s4.len
  have hfr0:=hfr
  have loop0 : Hide (∀ (e : Env) mu1 n1 (K : LK) w, Gr n fz mu mu1 n n1 → with' mu1 fz n = some (repC r xe xa xs xd) → e 0 1 = .one (.optr n 0) → e 6 14 = .one xs → e 6 15 = .one (.int .i64 r.starts.length) → e 7 0 = .one (.int .i64 0) → e 0 3 = .one (.int .i64 (-1)) →
      (risesB r.me r.nodes (-1) r.starts = true → ∀ e' mu' n',Gr n fz mu mu' n n' → with' mu' fz n = some (repC r xe xa xs xd) → e' 0 1 = .one (.optr n 0) → K (.exit 0) (tmE 184 e') mu' n') →
      (risesB r.me r.nodes (-1) r.starts = false → ∀ e' mu' n',Gr n fz mu mu' n n' → e' 0 2 = .one (.bool false) → K .ret (tmE 184 e') mu' n') →
      Lp (dcode pOrc False (CP P) fz (r.starts.length + r.dos.length + 1) l_replica_May_0) (r.starts.length + r.dos.length + 1) (tmE 184 e) mu1 n1 K w):=⟨by
    intro e mu1 n1 K w g1 a1 a2 a3 a4 a5 a6 hd hr
    rw [rises_all] at hd hr
    refine loopI (x:=0) (L:=r.starts.length) (p:=riseAt r.me r.nodes (-1) r.starts) (λi e mu' n'=>Gr n fz mu mu' n n' ∧ with' mu' fz n = some (repC r xe xa xs xd) ∧ e 0 1 = .one (.optr n 0) ∧ e 6 14 = .one xs ∧ e 6 15 = .one (.int .i64 r.starts.length) ∧ e 7 0 = .one (.int .i64 i) ∧ e 0 3 = .one (.int .i64 (prv (-1) r.starts i)))
      (λe mu' n'=>Gr n fz mu mu' n n' ∧ e 0 2 = .one (.bool false)) ?_ ?_ e mu1 n1 K w (by omega) ⟨g1,a1,a2,a3,a4,a5,a6⟩ (λha e' mu' n' hI=>hd (all_range ha) e' mu' n' hI.1 hI.2.1 hI.2.2.1) (λhx e' mu' n' hR=>hr (not_all_range hx) e' mu' n' hR.1 hR.2)
    · rintro i e mu1 n1 K hi ⟨g1,b1,a2,a3,a4,a5,a6⟩ hy hn
      have t3:=IntsR.mono (λ_ _ hh=>g1.old hfr0 hh) s3
      obtain ⟨id,off,cap,B,rfl,hB,hmk,hbd,hsub⟩:=t3.elem hi
      have hw:=wrap_succ hi (by omega)
      have hle:=Nat.le_refl n1
      have hp : prv (-1) r.starts (i + 1) = r.starts[i]:=by simp [prv,hi]
      have hg : r.starts.getD i 0 = r.starts[i]:=by simp [hi]
      clear hd hr h
      unfold repC at b1
      rw [dc_at l_replica_May_0.eq_1]
      simp only [↓E1,E2,Int.reduceEq,Int.reduceNe,Int.reduceLT,Int.reduceLE,Int.reduceNeg,Int.reduceAdd,Int.reduceSub,Int.reduceToNat,Nat.reduceEqDiff,Nat.reduceAdd,Nat.reduceMul,Nat.reduceSub,Nat.reduceLeDiff,Nat.reduceBEq,reduceIte,Nat.reduceLT,Nat.reduceBneDiff, *]
      repeat' (first | ((with_reducible refine Br_intro (λhb=>?_) (λhb=>?_)) <;> simp only [↓E1,E2,Int.reduceEq,Int.reduceNe,Int.reduceLT,Int.reduceLE,Int.reduceNeg,Int.reduceAdd,Int.reduceSub,Int.reduceToNat,Nat.reduceEqDiff,Nat.reduceAdd,Nat.reduceMul,Nat.reduceSub,Nat.reduceLeDiff,Nat.reduceBEq,reduceIte,Nat.reduceLT,Nat.reduceBneDiff, *]))
      all_goals first
        | (refine hy ?_ _ _ _ ⟨g1,b1,?_,?_,?_,?_,?_⟩ <;> (try simp [updN,updE, *]) <;> (clear hy hn; simp_all [riseAt]); done)
        | (refine hn ?_ _ _ _ ⟨g1,?_⟩ <;> (try simp [updN,updE, *]) <;> (clear hy hn; simp_all [riseAt]; try omega); done)
    · rintro e mu n K hI hd
      obtain ⟨g1,a1,a2,a3,a4,a5,a6⟩:=id hI
      rw [dc_at l_replica_May_0.eq_1]
      have hlt : (r.starts.length < r.starts.length) = False:=by simp
      simp only [↓E1,E2,Int.reduceEq,Int.reduceNe,Int.reduceLT,Int.reduceLE,Int.reduceNeg,Int.reduceAdd,Int.reduceSub,Int.reduceToNat,Nat.reduceEqDiff,Nat.reduceAdd,Nat.reduceMul,Nat.reduceSub,Nat.reduceLeDiff,Nat.reduceBEq,reduceIte,Nat.reduceLT,Nat.reduceBneDiff, *]
      all_goals refine hd _ _ _ ⟨g1,a1,by simp [updN,updE, *],by simp [updN,updE, *],by simp [updN,updE, *],by simp [updN,updE, *],by simp [updN,updE, *]⟩⟩
  have loop1 : Hide (∀ (e : Env) mu1 n1 (K : LK) w, Gr n fz mu mu1 n n1 → with' mu1 fz n = some (repC r xe xa xs xd) → e 0 1 = .one (.optr n 0) → e 8 6 = .one xd → e 8 7 = .one (.int .i64 r.dos.length) → e 8 8 = .one (.int .i64 0) → e 0 3 = .one (.int .i64 (-1)) →
      ((risesB r.me r.nodes (-1) (r.dos.map (·.frm)) && dosB r) = true → ∀ e' mu' n',Gr n fz mu mu' n n' → K (.exit 2) (tmE 184 e') mu' n') →
      ((risesB r.me r.nodes (-1) (r.dos.map (·.frm)) && dosB r) = false → ∀ e' mu' n',Gr n fz mu mu' n n' → e' 0 2 = .one (.bool false) → K .ret (tmE 184 e') mu' n') →
      Lp (dcode pOrc False (CP P) fz (r.starts.length + r.dos.length + 1) l_replica_May_1) (r.starts.length + r.dos.length + 1) (tmE 184 e) mu1 n1 K w):=⟨by
    clear loop0
    intro e mu1 n1 K w g1 a1 a2 a3 a4 a5 a6 hd hr
    rw [do_all] at hd hr
    refine loopI (x:=2) (L:=r.dos.length) (p:=doAt r) (λi e mu' n'=>Gr n fz mu mu' n n' ∧ with' mu' fz n = some (repC r xe xa xs xd) ∧ e 0 1 = .one (.optr n 0) ∧ e 8 6 = .one xd ∧ e 8 7 = .one (.int .i64 r.dos.length) ∧ e 8 8 = .one (.int .i64 i) ∧ e 0 3 = .one (.int .i64 (prv (-1) (r.dos.map (·.frm)) i)))
      (λe mu' n'=>Gr n fz mu mu' n n' ∧ e 0 2 = .one (.bool false)) ?_ ?_ e mu1 n1 K w (by omega) ⟨g1,a1,a2,a3,a4,a5,a6⟩ (λha e' mu' n' hI=>hd (all_range ha) e' mu' n' hI.1) (λhx e' mu' n' hR=>hr (not_all_range hx) e' mu' n' hR.1 hR.2)
    · rintro i e mu1 n1 K hi ⟨g1,b1,a2,a3,a4,a5,a6⟩ hy hn
      have t4:=DvsR.mono (λ_ _ hh=>g1.old hfr0 hh) s4
      obtain ⟨id,off,cap,B,bx,rfl,hB,hmk,hbd,hsub,t5⟩:=t4.elem hi
      obtain ⟨ybl,ybs,ybk,ybm⟩:=t5.len
      have hw:=wrap_succ hi (by omega)
      have hle:=Nat.le_refl n1
      have hfr:=g1.free
      have gg:=Gr.refl (lo:=n1) hfr
      have hp : prv (-1) (r.dos.map (·.frm)) (i + 1) = r.dos[i].frm:=by simp [prv,hi]
      have hg : (r.dos.map (·.frm)).getD i 0 = r.dos[i].frm:=by simp [hi]
      have hgi : r.dos[i]? = some r.dos[i]:=List.getElem?_eq_getElem hi
      have hn1 : n < n1:=g1.free.lt b1
      have hne : ¬ n1 = n:=by omega
      have hmm:=message_MayLog H r.dos[i].log bx
      clear hd hr h
      unfold repC at b1
      unfold dvC at hsub
      rw [dc_at l_replica_May_1.eq_1]
      simp only [↓E1,E2,Int.reduceEq,Int.reduceNe,Int.reduceLT,Int.reduceLE,Int.reduceNeg,Int.reduceAdd,Int.reduceSub,Int.reduceToNat,Nat.reduceEqDiff,Nat.reduceAdd,Nat.reduceMul,Nat.reduceSub,Nat.reduceLeDiff,Nat.reduceBEq,reduceIte,Nat.reduceLT,Nat.reduceBneDiff, *]
      repeat' (first | ((with_reducible refine Br_intro (λhb=>?_) (λhb=>?_)) <;> simp only [↓E1,E2,Int.reduceEq,Int.reduceNe,Int.reduceLT,Int.reduceLE,Int.reduceNeg,Int.reduceAdd,Int.reduceSub,Int.reduceToNat,Nat.reduceEqDiff,Nat.reduceAdd,Nat.reduceMul,Nat.reduceSub,Nat.reduceLeDiff,Nat.reduceBEq,reduceIte,Nat.reduceLT,Nat.reduceBneDiff, *]) | ((with_reducible refine CPr_f (f:=n_message_MayLog) ?_); ((first | (refine (hmm).d2 hfr (by first | trivial | exact t5 | assumption) ?_; rintro v mu2 n2 g2 rfl) | (refine (hmm).d3 hfr (λhm=>by first | trivial | exact EntsR.mono hm t5) ?_; rintro v mu2 n2 g2 b7 rfl) | (refine (hmm).c1 hfr (by first | trivial | exact t5 | assumption) ?_; rintro v mu2 n2 g2 rfl) | (refine (hmm).c2 hfr (λhm=>by first | trivial | exact EntsR.mono hm t5) ?_; rintro v mu2 n2 g2 b7 rfl) | (refine (hmm).c3 hfr (λhm=>by first | trivial | exact EntsR.mono hm t5) ?_; rintro v mu2 n2 g2 b7 b8 rfl)); (try replace b1:=g2.old hfr b1); (try replace b7:=g2.old hfr b7); (try replace t5:=EntsR.mono (λ_ _ hh=>g2.old hfr hh) t5); replace gg:=gg.trans (g2.weaken hle); replace hle:=Nat.le_trans hle g2.le; replace hfr:=g2.free; clear g2; simp only [↓E1,E2,Int.reduceEq,Int.reduceNe,Int.reduceLT,Int.reduceLE,Int.reduceNeg,Int.reduceAdd,Int.reduceSub,Int.reduceToNat,Nat.reduceEqDiff,Nat.reduceAdd,Nat.reduceMul,Nat.reduceSub,Nat.reduceLeDiff,Nat.reduceBEq,reduceIte,Nat.reduceLT,Nat.reduceBneDiff, *])))
      all_goals first
        | (refine hy ?_ _ _ _ ⟨g1.trans (gg.weaken g1.le),b1,?_,?_,?_,?_,?_⟩ <;> (try simp [updN,updE, *]) <;> (clear hy hn hmm; simp_all [doAt,riseAt,dosOk]); done)
        | (refine hn ?_ _ _ _ ⟨(by first | exact g1.trans (gg.weaken g1.le) | exact g1.cons g1.le _),?_⟩ <;> (try simp [updN,updE, *]) <;> (clear hy hn hmm; simp_all [doAt,riseAt,dosOk]; try omega); done)
    · rintro e mu n K hI hd
      obtain ⟨g1,a1,a2,a3,a4,a5,a6⟩:=id hI
      rw [dc_at l_replica_May_1.eq_1]
      have hlt : (r.dos.length < r.dos.length) = False:=by simp
      simp only [↓E1,E2,Int.reduceEq,Int.reduceNe,Int.reduceLT,Int.reduceLE,Int.reduceNeg,Int.reduceAdd,Int.reduceSub,Int.reduceToNat,Nat.reduceEqDiff,Nat.reduceAdd,Nat.reduceMul,Nat.reduceSub,Nat.reduceLeDiff,Nat.reduceBEq,reduceIte,Nat.reduceLT,Nat.reduceBneDiff, *]
      all_goals refine hd _ _ _ ⟨g1,a1,by simp [updN,updE, *],by simp [updN,updE, *],by simp [updN,updE, *],by simp [updN,updE, *],by simp [updN,updE, *]⟩⟩
  rw [i_replica_May,dc_at b_replica_May.eq_1]
  have hA : True:=trivial
  have hle:=Nat.le_refl n
  have hwa : IntKind.i64.wrap ((r.starts.length : Int) + r.dos.length) = ((r.starts.length + r.dos.length : Nat) : Int):=by rw [wrap64 (by omega) (by omega)]; rfl
  unfold repC
  simp only [↓E1,E2,Int.reduceEq,Int.reduceNe,Int.reduceLT,Int.reduceLE,Int.reduceNeg,Int.reduceAdd,Int.reduceSub,Int.reduceToNat,Nat.reduceEqDiff,Nat.reduceAdd,Nat.reduceMul,Nat.reduceSub,Nat.reduceLeDiff,Nat.reduceBEq,reduceIte,Nat.reduceLT,Nat.reduceBneDiff, *]
  repeat' (first | ((with_reducible refine Br_intro (λhb=>?_) (λhb=>?_)) <;> (replace hA:=And.intro hA hb; clear hb; simp only [↓E1,E2,Int.reduceEq,Int.reduceNe,Int.reduceLT,Int.reduceLE,Int.reduceNeg,Int.reduceAdd,Int.reduceSub,Int.reduceToNat,Nat.reduceEqDiff,Nat.reduceAdd,Nat.reduceMul,Nat.reduceSub,Nat.reduceLeDiff,Nat.reduceBEq,reduceIte,Nat.reduceLT,Nat.reduceBneDiff, *])) | ((with_reducible refine CPr_f (f:=n_repair_Nodes) ?_); ((first | (refine (repair_Nodes H _ _).d2 hfr (by first | trivial | exact s1 | exact s2 | exact s3 | exact s4 | assumption) ?_; rintro v mu2 n2 g2 rfl) | (refine (repair_Nodes H _ _).d3 hfr (λhm=>by first | trivial | exact EntsR.mono hm s1 | exact IntsR.mono hm s2 | exact IntsR.mono hm s3 | exact DvsR.mono hm s4) ?_; rintro v mu2 n2 g2 b1 rfl) | (refine (repair_Nodes H _ _).c1 hfr (by first | trivial | exact s1 | exact s2 | exact s3 | exact s4 | assumption) ?_; rintro v mu2 n2 g2 rfl) | (refine (repair_Nodes H _ _).c2 hfr (λhm=>by first | trivial | exact EntsR.mono hm s1 | exact IntsR.mono hm s2 | exact IntsR.mono hm s3 | exact DvsR.mono hm s4) ?_; rintro v mu2 n2 g2 b1 rfl) | (refine (repair_Nodes H _ _).c3 hfr (λhm=>by first | trivial | exact EntsR.mono hm s1 | exact IntsR.mono hm s2 | exact IntsR.mono hm s3 | exact DvsR.mono hm s4) ?_; rintro v mu2 n2 g2 b1 b2 rfl)); (try replace b1:=g2.old hfr b1); (try replace s1:=EntsR.mono (λ_ _ hh=>g2.old hfr hh) s1); (try replace s2:=IntsR.mono (λ_ _ hh=>g2.old hfr hh) s2); (try replace s3:=IntsR.mono (λ_ _ hh=>g2.old hfr hh) s3); (try replace s4:=DvsR.mono (λ_ _ hh=>g2.old hfr hh) s4); replace gg:=gg.trans (g2.weaken hle); replace hle:=Nat.le_trans hle g2.le; replace hfr:=g2.free; clear g2; simp only [↓E1,E2,Int.reduceEq,Int.reduceNe,Int.reduceLT,Int.reduceLE,Int.reduceNeg,Int.reduceAdd,Int.reduceSub,Int.reduceToNat,Nat.reduceEqDiff,Nat.reduceAdd,Nat.reduceMul,Nat.reduceSub,Nat.reduceLeDiff,Nat.reduceBEq,reduceIte,Nat.reduceLT,Nat.reduceBneDiff, *])) | ((with_reducible refine CPr_f (f:=n_replica_within) ?_); ((first | (refine (replica_within H _).d2 hfr (by first | trivial | exact s1 | exact s2 | exact s3 | exact s4 | assumption) ?_; rintro v mu2 n2 g2 rfl) | (refine (replica_within H _).d3 hfr (λhm=>by first | trivial | exact EntsR.mono hm s1 | exact IntsR.mono hm s2 | exact IntsR.mono hm s3 | exact DvsR.mono hm s4) ?_; rintro v mu2 n2 g2 b1 rfl) | (refine (replica_within H _).c1 hfr (by first | trivial | exact s1 | exact s2 | exact s3 | exact s4 | assumption) ?_; rintro v mu2 n2 g2 rfl) | (refine (replica_within H _).c2 hfr (λhm=>by first | trivial | exact EntsR.mono hm s1 | exact IntsR.mono hm s2 | exact IntsR.mono hm s3 | exact DvsR.mono hm s4) ?_; rintro v mu2 n2 g2 b1 rfl) | (refine (replica_within H _).c3 hfr (λhm=>by first | trivial | exact EntsR.mono hm s1 | exact IntsR.mono hm s2 | exact IntsR.mono hm s3 | exact DvsR.mono hm s4) ?_; rintro v mu2 n2 g2 b1 b2 rfl)); (try replace b1:=g2.old hfr b1); (try replace s1:=EntsR.mono (λ_ _ hh=>g2.old hfr hh) s1); (try replace s2:=IntsR.mono (λ_ _ hh=>g2.old hfr hh) s2); (try replace s3:=IntsR.mono (λ_ _ hh=>g2.old hfr hh) s3); (try replace s4:=DvsR.mono (λ_ _ hh=>g2.old hfr hh) s4); replace gg:=gg.trans (g2.weaken hle); replace hle:=Nat.le_trans hle g2.le; replace hfr:=g2.free; clear g2; simp only [↓E1,E2,Int.reduceEq,Int.reduceNe,Int.reduceLT,Int.reduceLE,Int.reduceNeg,Int.reduceAdd,Int.reduceSub,Int.reduceToNat,Nat.reduceEqDiff,Nat.reduceAdd,Nat.reduceMul,Nat.reduceSub,Nat.reduceLeDiff,Nat.reduceBEq,reduceIte,Nat.reduceLT,Nat.reduceBneDiff, *])) | ((with_reducible refine CPr_f (f:=n_message_MayLog) ?_); ((first | (refine (message_MayLog H r.log xe).d2 hfr (by first | trivial | exact s1 | exact s2 | exact s3 | exact s4 | assumption) ?_; rintro v mu2 n2 g2 rfl) | (refine (message_MayLog H r.log xe).d3 hfr (λhm=>by first | trivial | exact EntsR.mono hm s1 | exact IntsR.mono hm s2 | exact IntsR.mono hm s3 | exact DvsR.mono hm s4) ?_; rintro v mu2 n2 g2 b1 rfl) | (refine (message_MayLog H r.log xe).c1 hfr (by first | trivial | exact s1 | exact s2 | exact s3 | exact s4 | assumption) ?_; rintro v mu2 n2 g2 rfl) | (refine (message_MayLog H r.log xe).c2 hfr (λhm=>by first | trivial | exact EntsR.mono hm s1 | exact IntsR.mono hm s2 | exact IntsR.mono hm s3 | exact DvsR.mono hm s4) ?_; rintro v mu2 n2 g2 b1 rfl) | (refine (message_MayLog H r.log xe).c3 hfr (λhm=>by first | trivial | exact EntsR.mono hm s1 | exact IntsR.mono hm s2 | exact IntsR.mono hm s3 | exact DvsR.mono hm s4) ?_; rintro v mu2 n2 g2 b1 b2 rfl)); (try replace b1:=g2.old hfr b1); (try replace s1:=EntsR.mono (λ_ _ hh=>g2.old hfr hh) s1); (try replace s2:=IntsR.mono (λ_ _ hh=>g2.old hfr hh) s2); (try replace s3:=IntsR.mono (λ_ _ hh=>g2.old hfr hh) s3); (try replace s4:=DvsR.mono (λ_ _ hh=>g2.old hfr hh) s4); replace gg:=gg.trans (g2.weaken hle); replace hle:=Nat.le_trans hle g2.le; replace hfr:=g2.free; clear g2; simp only [↓E1,E2,Int.reduceEq,Int.reduceNe,Int.reduceLT,Int.reduceLE,Int.reduceNeg,Int.reduceAdd,Int.reduceSub,Int.reduceToNat,Nat.reduceEqDiff,Nat.reduceAdd,Nat.reduceMul,Nat.reduceSub,Nat.reduceLeDiff,Nat.reduceBEq,reduceIte,Nat.reduceLT,Nat.reduceBneDiff, *])) | ((with_reducible refine CPr_f (f:=n_choose_Last) ?_); ((first | (refine (choose_Last H r.log xe).d2 hfr (by first | trivial | exact s1 | exact s2 | exact s3 | exact s4 | assumption) ?_; rintro v mu2 n2 g2 rfl) | (refine (choose_Last H r.log xe).d3 hfr (λhm=>by first | trivial | exact EntsR.mono hm s1 | exact IntsR.mono hm s2 | exact IntsR.mono hm s3 | exact DvsR.mono hm s4) ?_; rintro v mu2 n2 g2 b1 rfl) | (refine (choose_Last H r.log xe).c1 hfr (by first | trivial | exact s1 | exact s2 | exact s3 | exact s4 | assumption) ?_; rintro v mu2 n2 g2 rfl) | (refine (choose_Last H r.log xe).c2 hfr (λhm=>by first | trivial | exact EntsR.mono hm s1 | exact IntsR.mono hm s2 | exact IntsR.mono hm s3 | exact DvsR.mono hm s4) ?_; rintro v mu2 n2 g2 b1 rfl) | (refine (choose_Last H r.log xe).c3 hfr (λhm=>by first | trivial | exact EntsR.mono hm s1 | exact IntsR.mono hm s2 | exact IntsR.mono hm s3 | exact DvsR.mono hm s4) ?_; rintro v mu2 n2 g2 b1 b2 rfl)); (try replace b1:=g2.old hfr b1); (try replace s1:=EntsR.mono (λ_ _ hh=>g2.old hfr hh) s1); (try replace s2:=IntsR.mono (λ_ _ hh=>g2.old hfr hh) s2); (try replace s3:=IntsR.mono (λ_ _ hh=>g2.old hfr hh) s3); (try replace s4:=DvsR.mono (λ_ _ hh=>g2.old hfr hh) s4); replace gg:=gg.trans (g2.weaken hle); replace hle:=Nat.le_trans hle g2.le; replace hfr:=g2.free; clear g2; simp only [↓E1,E2,Int.reduceEq,Int.reduceNe,Int.reduceLT,Int.reduceLE,Int.reduceNeg,Int.reduceAdd,Int.reduceSub,Int.reduceToNat,Nat.reduceEqDiff,Nat.reduceAdd,Nat.reduceMul,Nat.reduceSub,Nat.reduceLeDiff,Nat.reduceBEq,reduceIte,Nat.reduceLT,Nat.reduceBneDiff, *])) | ((with_reducible refine CPr_f (f:=n_slices_ContainsFunc_int_int) ?_); ((first | (refine (contains_ints H _ _ (replica_May_1 H) xa r.acks (Nat.le_trans hl3 (by decide))).d2 hfr (by first | trivial | exact s1 | exact s2 | exact s3 | exact s4 | assumption) ?_; rintro v mu2 n2 g2 rfl) | (refine (contains_ints H _ _ (replica_May_1 H) xa r.acks (Nat.le_trans hl3 (by decide))).d3 hfr (λhm=>by first | trivial | exact EntsR.mono hm s1 | exact IntsR.mono hm s2 | exact IntsR.mono hm s3 | exact DvsR.mono hm s4) ?_; rintro v mu2 n2 g2 b1 rfl) | (refine (contains_ints H _ _ (replica_May_1 H) xa r.acks (Nat.le_trans hl3 (by decide))).c1 hfr (by first | trivial | exact s1 | exact s2 | exact s3 | exact s4 | assumption) ?_; rintro v mu2 n2 g2 rfl) | (refine (contains_ints H _ _ (replica_May_1 H) xa r.acks (Nat.le_trans hl3 (by decide))).c2 hfr (λhm=>by first | trivial | exact EntsR.mono hm s1 | exact IntsR.mono hm s2 | exact IntsR.mono hm s3 | exact DvsR.mono hm s4) ?_; rintro v mu2 n2 g2 b1 rfl) | (refine (contains_ints H _ _ (replica_May_1 H) xa r.acks (Nat.le_trans hl3 (by decide))).c3 hfr (λhm=>by first | trivial | exact EntsR.mono hm s1 | exact IntsR.mono hm s2 | exact IntsR.mono hm s3 | exact DvsR.mono hm s4) ?_; rintro v mu2 n2 g2 b1 b2 rfl)); (try replace b1:=g2.old hfr b1); (try replace s1:=EntsR.mono (λ_ _ hh=>g2.old hfr hh) s1); (try replace s2:=IntsR.mono (λ_ _ hh=>g2.old hfr hh) s2); (try replace s3:=IntsR.mono (λ_ _ hh=>g2.old hfr hh) s3); (try replace s4:=DvsR.mono (λ_ _ hh=>g2.old hfr hh) s4); replace gg:=gg.trans (g2.weaken hle); replace hle:=Nat.le_trans hle g2.le; replace hfr:=g2.free; clear g2; simp only [↓E1,E2,Int.reduceEq,Int.reduceNe,Int.reduceLT,Int.reduceLE,Int.reduceNeg,Int.reduceAdd,Int.reduceSub,Int.reduceToNat,Nat.reduceEqDiff,Nat.reduceAdd,Nat.reduceMul,Nat.reduceSub,Nat.reduceLeDiff,Nat.reduceBEq,reduceIte,Nat.reduceLT,Nat.reduceBneDiff, *])))
  all_goals try (refine leafB h (by first | exact gg | exact gg.cons hle _ | exact (gg.cons hle _).cons (Nat.le_succ_of_le hle) _) ?_; (clear h gg hle hfr); (try clear loop); (try clear loop0); (try clear loop1); (try clear s1); (try clear s2); (try clear s3); (try clear s4); (try clear b1); (try clear b2); clear xel xes xek xem xal xas xak xam xsl xss xsk xsm xdl xds xdk xdm hfr0 hwa; rw [repB_eq]; (try generalize (r.acks.any λa=>!countB a) = qq at hA ⊢); first | (simp_all [-List.length_eq_zero_iff]; done) | (simp_all [-List.length_eq_zero_iff]; omega))
  all_goals ((with_reducible refine Lp_at ?_); refine loop0.out _ _ _ _ _ gg b1 (by simp [updN,updE]) (by simp [updN,updE]) (by simp [updN,updE]) (by simp [updN,updE]) (by simp [updN,updE]) (λhr e1 mu1 n1 g1 b1 a2=>?_) (λhr e1 mu1 n1 g1 a1=>?_))
  all_goals (replace hA:=And.intro hA hr; clear hr gg s1 s2 s3 s4 hfr hle)
  all_goals try (simp only [↓E1,E2,Int.reduceEq,Int.reduceNe,Int.reduceLT,Int.reduceLE,Int.reduceNeg,Int.reduceAdd,Int.reduceSub,Int.reduceToNat,Nat.reduceEqDiff,Nat.reduceAdd,Nat.reduceMul,Nat.reduceSub,Nat.reduceLeDiff,Nat.reduceBEq,reduceIte,Nat.reduceLT,Nat.reduceBneDiff, *]; refine leafB h g1 ?_; clear h g1 loop0 loop1 b1 xel xes xek xem xal xas xak xam xsl xss xsk xsm xdl xds xdk xdm hfr0 hwa; rw [repB_eq]; (try generalize (r.acks.any λa=>!countB a) = qq at hA ⊢); simp_all [-List.length_eq_zero_iff]; done)
  all_goals
    have b0:=b1
    unfold repC at b1
    simp only [↓E1,E2,Int.reduceEq,Int.reduceNe,Int.reduceLT,Int.reduceLE,Int.reduceNeg,Int.reduceAdd,Int.reduceSub,Int.reduceToNat,Nat.reduceEqDiff,Nat.reduceAdd,Nat.reduceMul,Nat.reduceSub,Nat.reduceLeDiff,Nat.reduceBEq,reduceIte,Nat.reduceLT,Nat.reduceBneDiff, *]
    refine loop1.out _ _ _ _ _ g1 b0 (by simp [updN,updE, *]) (by simp [updN,updE, *]) (by simp [updN,updE, *]) (by simp [updN,updE, *]) (by simp [updN,updE, *]) (λhr e2 mu2 n2 g2=>?_) (λhr e2 mu2 n2 g2 a1=>?_)
  all_goals (replace hA:=And.intro hA hr; clear hr; simp only [↓E1,E2,Int.reduceEq,Int.reduceNe,Int.reduceLT,Int.reduceLE,Int.reduceNeg,Int.reduceAdd,Int.reduceSub,Int.reduceToNat,Nat.reduceEqDiff,Nat.reduceAdd,Nat.reduceMul,Nat.reduceSub,Nat.reduceLeDiff,Nat.reduceBEq,reduceIte,Nat.reduceLT,Nat.reduceBneDiff, *]; refine leafB h g2 ?_; clear h g1 g2 loop0 loop1 b0 b1 xel xes xek xem xal xas xak xam xsl xss xsk xsm xdl xds xdk xdm hfr0 hwa; rw [repB_eq]; (try generalize (r.acks.any λa=>!countB a) = qq at hA ⊢); first | (simp_all [-List.length_eq_zero_iff]; done) | (simp_all [-List.length_eq_zero_iff]; omega) | (simp_all [-List.length_eq_zero_iff]; exfalso; omega))
end Go.Proofs.Ytnnjlnkoomeadaa.Pv
namespace Go.Proofs.Ytnnjlnkoomeadaa.Pv
open Go.Ev Go.Ev.Rp
set_option maxRecDepth 100000
set_option maxHeartbeats 4000000
set_option linter.unusedSimpArgs false
set_option linter.unusedVariables false
set_option linter.unusedSectionVars false
def numP (id o : Nat) (f : Int) : SV :=
  if f = 0 then .optr id (o + 3) else if f = 1 then .optr id (o + 4) else if f = 2 then .optr id (o + 5) else if f = 3 then .optr id (o + 6) else if f = 4 then .optr id (o + 7) else if f = 5 then .optr id (o + 8) else
  if f = 6 then .optr id (o + 9) else if f = 7 then .optr id (o + 10) else if f = 8 then .optr id (o + 11) else if f = 9 then .optr id (o + 12) else if f = 10 then .optr id (o + 13) else .npt
def limLo (kind f : Int) : Int:=if f = 8 then 0 else if f = 9 then 0 else if f = 2 ∧ kind = 1 then -1 else if (f = 2 ∨ f = 10) ∧ (kind = 2 ∨ kind = 3) then -2147483648 else 0
def limHi (f : Int) : Int:=if f = 8 then 9 else if f = 9 then 4 else 2147483647
def isNode (x : Int) : Bool:=decide (0 ≤ x) && decide (x < 7)
def isClient (x : Int) : Bool:=decide (100 ≤ x) && decide (x < 108)
def whoB (k a b : Int) : Bool:=(if k = 0 ∨ k = 2 then isClient a else isNode a) && (if k = 1 ∨ k = 3 then isClient b else isNode b)
def fieldsL (k : Int) : List Int :=
  if k = 0 then [6,7,12] else if k = 1 then [6,7,8,2] else if k = 2 then [7,9,11,2,10] else if k = 3 then [7,8,2,4] else if k = 4 then [0,2,3,5,6,7,12] else if k = 5 then [0,2] else if k = 6 then [0,2,3] else
  if k = 7 then [0] else if k = 8 then [0,1,3,13] else if k = 9 then [0,3,13] else if k = 10 then [0,2] else if k = 11 then [0,3,13] else if k = 12 then [0,4] else if k = 13 then [0,4] else if k = 14 then [2] else if k = 15 then [2] else [2,14]
theorem kinds (k : Int) (h0 : 0 ≤ k) (h : k < 17) : k = 0 ∨ k = 1 ∨ k = 2 ∨ k = 3 ∨ k = 4 ∨ k = 5 ∨ k = 6 ∨ k = 7 ∨ k = 8 ∨ k = 9 ∨ k = 10 ∨ k = 11 ∨ k = 12 ∨ k = 13 ∨ k = 14 ∨ k = 15 ∨ k = 16:=by omega
def hasF (k : Int) (f : Nat) : Bool:=(fieldsL k).contains (f : Int)
def hasL (l : List Int) : List SV:=[.bool (l.contains 0),.bool (l.contains 1),.bool (l.contains 2),.bool (l.contains 3),.bool (l.contains 4),.bool (l.contains 5),.bool (l.contains 6),.bool (l.contains 7),.bool (l.contains 8),.bool (l.contains 9),.bool (l.contains 10),.bool (l.contains 11),.bool (l.contains 12),.bool (l.contains 13),.bool (l.contains 14)]
theorem lits (i : Nat) (h : i < 15) : i = 0 ∨ i = 1 ∨ i = 2 ∨ i = 3 ∨ i = 4 ∨ i = 5 ∨ i = 6 ∨ i = 7 ∨ i = 8 ∨ i = 9 ∨ i = 10 ∨ i = 11 ∨ i = 12 ∨ i = 13 ∨ i = 14:=by omega
theorem hasL_len (l : List Int) : (hasL l).length = 15:=rfl
theorem hasL_mkd (l : List Int) : mkd (hasL l) = false:=rfl
theorem over_has (l : List Int) (v : Nat) (h : v < 15) : over (hasL l) v [.bool true] = hasL (l ++ [(v : Int)]):=by
  rcases lits v h with rfl | rfl | rfl | rfl | rfl | rfl | rfl | rfl | rfl | rfl | rfl | rfl | rfl | rfl | rfl <;> simp [over,hasL]
theorem fields_lt (k : Int) (hk : 0 ≤ k ∧ k < 17) : ∀ v ∈ fieldsL k,∃ j : Nat,j < 15 ∧ v = (j : Int):=by
  have h : ∀ l : List Int,(l.all λv=>decide (0 ≤ v) && decide (v < 15)) = true → ∀ v ∈ l,∃ j : Nat,j < 15 ∧ v = (j : Int):=λl h v hv=>by
    have:=List.all_eq_true.1 h v hv
    simp at this
    exact ⟨v.toNat,by omega,by omega⟩
  apply h
  rcases kinds k hk.1 hk.2 with rfl | rfl | rfl | rfl | rfl | rfl | rfl | rfl | rfl | rfl | rfl | rfl | rfl | rfl | rfl | rfl | rfl <;> decide
theorem fields_len (k : Int) (hk : 0 ≤ k ∧ k < 17) : (fieldsL k).length ≤ 7:=by
  rcases kinds k hk.1 hk.2 with rfl | rfl | rfl | rfl | rfl | rfl | rfl | rfl | rfl | rfl | rfl | rfl | rfl | rfl | rfl | rfl | rfl <;> decide
theorem mkd_ints : ∀ l : List Int,mkd (l.map I) = false
  | []=>rfl
  | _ :: _=>rfl
def numV (m : Msg) : Nat → Option Int
  | 0=>some m.view
  | 1=>some m.normal
  | 2=>some m.at'
  | 3=>some m.commit
  | 4=>some m.round
  | 5=>some m.client
  | 6=>some m.session
  | 7=>some m.number
  | 8=>some m.code
  | 9=>some m.agg
  | 10=>some m.until'
  | _=>none
def fieldOk (m : Msg) (f : Nat) : Bool:=match numV m f with | none=>true | some x=>(hasF m.kind f || decide (x = 0)) && decide (limLo m.kind f ≤ x) && decide (x ≤ limHi f)
def msgB (m : Msg) : Bool :=
  decide (0 ≤ m.kind) && decide (m.kind < 17) && whoB m.kind m.frm m.to && (List.range 15).all (fieldOk m) && (if hasF m.kind 11 then nameB m.series else decide (m.series.l = 0)) &&
  decide (m.text.l ≤ 65536) && (hasF m.kind 14 || decide (m.text.l = 0)) && batchB m.batch && (hasF m.kind 12 || decide (m.batch.length = 0)) && lgB m.log && (hasF m.kind 13 || decide (m.log.base = 0) && decide (m.log.ents.length = 0))
variable {P : Program} (H : Fs P)
include H
theorem message_number (id o : Nat) (f : Int) : Ctr P n_message_number [.one (.optr id o),.one (I f)] (λ_=>True) (λ_ _ _ v=>v = .one (numP id o f)):=Ctr.of H.mx H.message_number (λ_=>0) λfz mu n k hfr _ h=>by
  rw [i_message_number,dc_at b_message_number.eq_1]
  have gg:=Gr.refl (lo:=n) hfr
  simp only [↓E1,E2,Int.reduceEq,Int.reduceNe,Int.reduceLT,Int.reduceLE,Int.reduceNeg,Int.reduceAdd,Int.reduceSub,Int.reduceToNat,Nat.reduceEqDiff,Nat.reduceAdd,Nat.reduceMul,Nat.reduceSub,Nat.reduceLeDiff,Nat.reduceBEq,reduceIte,Nat.reduceLT,Nat.reduceBneDiff]
  repeat' (first | ((with_reducible refine Br_intro (λhb=>?_) (λhb=>?_)) <;> simp only [↓E1,E2,Int.reduceEq,Int.reduceNe,Int.reduceLT,Int.reduceLE,Int.reduceNeg,Int.reduceAdd,Int.reduceSub,Int.reduceToNat,Nat.reduceEqDiff,Nat.reduceAdd,Nat.reduceMul,Nat.reduceSub,Nat.reduceLeDiff,Nat.reduceBEq,reduceIte,Nat.reduceLT,Nat.reduceBneDiff, *]))
  all_goals exact h _ _ _ gg (by clear h; simp_all [numP])
theorem message_limits (k0 f : Int) : Ctr P n_message_limits [.one (I k0),.one (I f)] (λ_=>True) (λ_ _ _ v=>v = .tp [.one (I (limLo k0 f)),.one (I (limHi f))]):=Ctr.of H.mx H.message_limits (λ_=>0) λfz mu n k hfr _ h=>by
  rw [i_message_limits,dc_at b_message_limits.eq_1]
  have gg:=Gr.refl (lo:=n) hfr
  simp only [↓E1,E2,Int.reduceEq,Int.reduceNe,Int.reduceLT,Int.reduceLE,Int.reduceNeg,Int.reduceAdd,Int.reduceSub,Int.reduceToNat,Nat.reduceEqDiff,Nat.reduceAdd,Nat.reduceMul,Nat.reduceSub,Nat.reduceLeDiff,Nat.reduceBEq,reduceIte,Nat.reduceLT,Nat.reduceBneDiff]
  repeat' (first | ((with_reducible refine Br_intro (λhb=>?_) (λhb=>?_)) <;> simp only [↓E1,E2,Int.reduceEq,Int.reduceNe,Int.reduceLT,Int.reduceLE,Int.reduceNeg,Int.reduceAdd,Int.reduceSub,Int.reduceToNat,Nat.reduceEqDiff,Nat.reduceAdd,Nat.reduceMul,Nat.reduceSub,Nat.reduceLeDiff,Nat.reduceBEq,reduceIte,Nat.reduceLT,Nat.reduceBneDiff, *]))
  all_goals exact h _ _ _ gg (by clear h; simp_all [limLo,limHi])
theorem message_who (id : Nat) (m : Msg) (xb xe : SV) : BoolC P n_message_who [.one (.optr id 0)] (λM=>M id = some (msgC m xb xe)) (whoB m.kind m.frm m.to):=boolC H.mx H.message_who 0 λfz mu n k hfr gg b1 h=>by
  rw [i_message_who,dc_at b_message_who.eq_1]
  unfold msgC at b1
  have hle:=Nat.le_refl n
  simp only [↓E1,E2,Int.reduceEq,Int.reduceNe,Int.reduceLT,Int.reduceLE,Int.reduceNeg,Int.reduceAdd,Int.reduceSub,Int.reduceToNat,Nat.reduceEqDiff,Nat.reduceAdd,Nat.reduceMul,Nat.reduceSub,Nat.reduceLeDiff,Nat.reduceBEq,reduceIte,Nat.reduceLT,Nat.reduceBneDiff, *]
  repeat' (first | ((with_reducible refine Br_intro (λhb=>?_) (λhb=>?_)) <;> simp only [↓E1,E2,Int.reduceEq,Int.reduceNe,Int.reduceLT,Int.reduceLE,Int.reduceNeg,Int.reduceAdd,Int.reduceSub,Int.reduceToNat,Nat.reduceEqDiff,Nat.reduceAdd,Nat.reduceMul,Nat.reduceSub,Nat.reduceLeDiff,Nat.reduceBEq,reduceIte,Nat.reduceLT,Nat.reduceBneDiff, *]) | ((with_reducible refine CPr_f (f:=n_message_Node) ?_); ((first | (refine (message_Node H _).d2 hfr (by first | trivial | assumption) ?_; rintro v mu2 n2 g2 rfl) | (refine (message_Node H _).d3 hfr (λhm=>by first | trivial) ?_; rintro v mu2 n2 g2 b1 rfl) | (refine (message_Node H _).c1 hfr (by first | trivial | assumption) ?_; rintro v mu2 n2 g2 rfl) | (refine (message_Node H _).c2 hfr (λhm=>by first | trivial) ?_; rintro v mu2 n2 g2 b1 rfl) | (refine (message_Node H _).c3 hfr (λhm=>by first | trivial) ?_; rintro v mu2 n2 g2 b1 b2 rfl)); (try replace b1:=g2.old hfr b1); replace gg:=gg.trans (g2.weaken hle); replace hle:=Nat.le_trans hle g2.le; replace hfr:=g2.free; clear g2; simp only [↓E1,E2,Int.reduceEq,Int.reduceNe,Int.reduceLT,Int.reduceLE,Int.reduceNeg,Int.reduceAdd,Int.reduceSub,Int.reduceToNat,Nat.reduceEqDiff,Nat.reduceAdd,Nat.reduceMul,Nat.reduceSub,Nat.reduceLeDiff,Nat.reduceBEq,reduceIte,Nat.reduceLT,Nat.reduceBneDiff, *])) | ((with_reducible refine CPr_f (f:=n_message_Client) ?_); ((first | (refine (message_Client H _).d2 hfr (by first | trivial | assumption) ?_; rintro v mu2 n2 g2 rfl) | (refine (message_Client H _).d3 hfr (λhm=>by first | trivial) ?_; rintro v mu2 n2 g2 b1 rfl) | (refine (message_Client H _).c1 hfr (by first | trivial | assumption) ?_; rintro v mu2 n2 g2 rfl) | (refine (message_Client H _).c2 hfr (λhm=>by first | trivial) ?_; rintro v mu2 n2 g2 b1 rfl) | (refine (message_Client H _).c3 hfr (λhm=>by first | trivial) ?_; rintro v mu2 n2 g2 b1 b2 rfl)); (try replace b1:=g2.old hfr b1); replace gg:=gg.trans (g2.weaken hle); replace hle:=Nat.le_trans hle g2.le; replace hfr:=g2.free; clear g2; simp only [↓E1,E2,Int.reduceEq,Int.reduceNe,Int.reduceLT,Int.reduceLE,Int.reduceNeg,Int.reduceAdd,Int.reduceSub,Int.reduceToNat,Nat.reduceEqDiff,Nat.reduceAdd,Nat.reduceMul,Nat.reduceSub,Nat.reduceLeDiff,Nat.reduceBEq,reduceIte,Nat.reduceLT,Nat.reduceBneDiff, *])))
  all_goals (refine leafB h (by first | exact gg | exact gg.cons hle _ | exact (gg.cons hle _).cons (Nat.le_succ_of_le hle) _) ?_; (try clear loop); (try clear u); clear h; first | (simp_all [whoB,isNode,isClient]; done) | (simp_all [whoB,isNode,isClient]; omega))
theorem message_fields (k0 : Int) (h0 : 0 ≤ k0) (h1 : k0 < 17) : Ctr P n_message_fields [.one (I k0)] (λ_=>True) (λ_ _ M v=>∃ id,v = .tp [.one (.osl id 0 (fieldsL k0).length (fieldsL k0).length 1),.one (.bool true)] ∧ M id = some ((fieldsL k0).map I)):=Ctr.of H.mx H.message_fields (λ_=>0) λfz mu n k hfr _ h=>by
  rw [i_message_fields,dc_at b_message_fields.eq_1]
  have gg:=Gr.refl (lo:=n) hfr
  rcases kinds k0 h0 h1 with rfl | rfl | rfl | rfl | rfl | rfl | rfl | rfl | rfl | rfl | rfl | rfl | rfl | rfl | rfl | rfl | rfl
  all_goals
    simp only [↓E1,E2,Int.reduceEq,Int.reduceNe,Int.reduceLT,Int.reduceLE,Int.reduceNeg,Int.reduceAdd,Int.reduceSub,Int.reduceToNat,Nat.reduceEqDiff,Nat.reduceAdd,Nat.reduceMul,Nat.reduceSub,Nat.reduceLeDiff,Nat.reduceBEq,reduceIte,Nat.reduceLT,Nat.reduceBneDiff]
    refine h _ _ _ ?_ ⟨_,rfl,?_⟩
    · repeat (first | exact Gr.refl hfr | refine Gr.cons ?_ (by omega) _)
    · repeat (first | (rw [with_c,if_pos rfl]) | (rw [with_c,if_neg (by omega)]))
      rfl
theorem message_fields_bad (k0 : Int) (h0 : ¬ (0 ≤ k0 ∧ k0 < 17)) : Ctr P n_message_fields [.one (I k0)] (λ_=>True) (λ_ _ M v=>v = .tp [.one .nsl,.one (.bool false)]):=Ctr.of H.mx H.message_fields (λ_=>0) λfz mu n k hfr _ h=>by
  rw [i_message_fields,dc_at b_message_fields.eq_1]
  have gg:=Gr.refl (lo:=n) hfr
  simp only [↓E1,E2,Int.reduceEq,Int.reduceNe,Int.reduceLT,Int.reduceLE,Int.reduceNeg,Int.reduceAdd,Int.reduceSub,Int.reduceToNat,Nat.reduceEqDiff,Nat.reduceAdd,Nat.reduceMul,Nat.reduceSub,Nat.reduceLeDiff,Nat.reduceBEq,reduceIte,Nat.reduceLT,Nat.reduceBneDiff]
  repeat' (first | ((with_reducible refine Br_intro (λhb=>?_) (λhb=>?_)) <;> simp only [↓E1,E2,Int.reduceEq,Int.reduceNe,Int.reduceLT,Int.reduceLE,Int.reduceNeg,Int.reduceAdd,Int.reduceSub,Int.reduceToNat,Nat.reduceEqDiff,Nat.reduceAdd,Nat.reduceMul,Nat.reduceSub,Nat.reduceLeDiff,Nat.reduceBEq,reduceIte,Nat.reduceLT,Nat.reduceBneDiff, *]))
  all_goals first
    | (refine h _ _ _ ?_ rfl; (repeat (first | exact Gr.refl hfr | refine Gr.cons ?_ (by omega) _)); done)
    | (exfalso; clear h; simp_all; done)
    | (exfalso; clear h; simp_all; omega)
theorem message_May (m : Msg) (xb xe : SV) : BoolC P n_message_May [.ag (msgC m xb xe)] (λM=>PtsR M xb m.batch ∧ EntsR M xe m.log.ents) (msgB m):=boolC H.mx H.message_May 16 λfz mu n k hfr gg s h=>by
  obtain ⟨s1,s2⟩:=s
  obtain ⟨xl,xs,xk,xm⟩:=s1.len
  obtain ⟨yl,ys,yk,ym⟩:=s2.len
  rw [i_message_May,dc_at b_message_May.eq_1]
  have hle:=Nat.le_refl n
  have hmc : msgC m xb xe = msgC m xb xe:=rfl
  conv at hmc=>rhs; unfold msgC
  have z1:=s1
  have z2:=s2
  have hfr0:=hfr
  by_cases hk : 0 ≤ m.kind ∧ m.kind < 17
  · have loop0 : ∀ (e : Env) mu1 n1 (K : LK) w (fid hid : Nat), n ≤ hid → ¬ hid = fid → ¬ hid = n → Gr n fz mu mu1 n n1 → with' mu1 fz n = some (msgC m xb xe) → with' mu1 fz fid = some ((fieldsL m.kind).map I) → Ev.look mu1 hid = some (hasL []) →
        e 0 1 = .one (.optr n 0) → e 0 5 = .one (.optr hid 0) → e 1 8 = .one (.osl fid 0 (fieldsL m.kind).length (fieldsL m.kind).length 1) → e 1 9 = .one (.int .i64 (fieldsL m.kind).length) → e 1 10 = .one (.int .i64 0) →
        (∀ e' mu' n',Gr n fz mu mu' n n' → with' mu' fz n = some (msgC m xb xe) → with' mu' fz hid = some (hasL (fieldsL m.kind)) → e' 0 1 = .one (.optr n 0) → e' 0 5 = .one (.optr hid 0) → K (.exit 0) (tmE 141 e') mu' n') →
        Lp (dcode pOrc False (CP P) fz 16 l_message_May_0) 16 (tmE 141 e) mu1 n1 K w:=by
      intro e mu1 n1 K w fid hid hh1 hh2 hh3 g1 a1 a2 a3 a4 a5 a6 a7 a8 hd
      have hlen:=fields_len m.kind hk
      refine loopI (x:=0) (L:=(fieldsL m.kind).length) (p:=λ_=>true) (λi e mu' n'=>Gr n fz mu mu' n n' ∧ with' mu' fz n = some (msgC m xb xe) ∧ with' mu' fz fid = some ((fieldsL m.kind).map I) ∧ Ev.look mu' hid = some (hasL ((fieldsL m.kind).take i)) ∧
        e 0 1 = .one (.optr n 0) ∧ e 0 5 = .one (.optr hid 0) ∧ e 1 8 = .one (.osl fid 0 (fieldsL m.kind).length (fieldsL m.kind).length 1) ∧ e 1 9 = .one (.int .i64 (fieldsL m.kind).length) ∧ e 1 10 = .one (.int .i64 i)) (λ_ _ _=>False) ?_ ?_ e mu1 n1 K w (by omega) ⟨g1,a1,a2,a3,a4,a5,a6,a7,a8⟩ ?_ (λ⟨_,_,_,h⟩=>by cases h)
      · rintro i e mu n K hi ⟨g1,a1,a2,a3,a4,a5,a6,a7,a8⟩ hy _
        obtain ⟨j,hj,hv⟩:=fields_lt m.kind hk _ (List.getElem_mem hi)
        have hw:=wrap_succ hi (by omega)
        have hB : List.take 1 (List.drop i ((fieldsL m.kind).map I)) = [I j]:=by rw [← List.map_drop,← List.map_take,List.drop_eq_getElem_cons hi]; simp [hv]
        have hmk:=mkd_ints (fieldsL m.kind)
        have hi1 : i + 1 ≤ (fieldsL m.kind).length:=hi
        have hj1 : j + 1 ≤ 15:=hj
        have ho:=over_has ((fieldsL m.kind).take i) j hj
        have ht : (fieldsL m.kind).take i ++ [(j : Int)] = (fieldsL m.kind).take (i + 1):=by rw [List.take_succ_eq_append_getElem hi,hv]
        have hid1:=Gr.put (c:=hasL ((fieldsL m.kind).take (i + 1))) g1 hh1 a3
        have hnf : ¬ hid = fid:=hh2
        rw [dc_at l_message_May_0.eq_1]
        simp only [↓E1,E2,Int.reduceEq,Int.reduceNe,Int.reduceLT,Int.reduceLE,Int.reduceNeg,Int.reduceAdd,Int.reduceSub,Int.reduceToNat,Nat.reduceEqDiff,Nat.reduceAdd,Nat.reduceMul,Nat.reduceSub,Nat.reduceLeDiff,Nat.reduceBEq,reduceIte,Nat.reduceLT,Nat.reduceBneDiff, *,Nat.mul_one,List.length_map,hasL_len,hasL_mkd]
        refine hy rfl _ _ _ ⟨hid1,?_,?_,?_,?_,?_,?_,?_,?_⟩
        · rw [with_putS a3,if_neg hh3]; exact a1
        · rw [with_putS a3,if_neg hh2]; exact a2
        · rw [look_putS,if_pos rfl,a3]; rfl
        all_goals simp [updN,updE, *]
      · rintro e mu n K hI hd
        obtain ⟨g1,a1,a2,a3,a4,a5,a6,a7,a8⟩:=id hI
        rw [dc_at l_message_May_0.eq_1]
        have hlt : ((fieldsL m.kind).length < (fieldsL m.kind).length) = False:=by simp
        simp only [↓E1,E2,Int.reduceEq,Int.reduceNe,Int.reduceLT,Int.reduceLE,Int.reduceNeg,Int.reduceAdd,Int.reduceSub,Int.reduceToNat,Nat.reduceEqDiff,Nat.reduceAdd,Nat.reduceMul,Nat.reduceSub,Nat.reduceLeDiff,Nat.reduceBEq,reduceIte,Nat.reduceLT,Nat.reduceBneDiff, *]
        all_goals refine hd _ _ _ ⟨g1,a1,a2,a3,by simp [updN,updE, *],by simp [updN,updE, *],by simp [updN,updE, *],by simp [updN,updE, *],by simp [updN,updE, *]⟩
      · rintro _ e' mu' n' ⟨g1,a1,a2,a3,a4,a5,a6,a7,a8⟩
        refine hd e' mu' n' g1 a1 ?_ a4 a5
        rw [List.take_length] at a3; exact look_with a3
    have loop1 : ∀ (e : Env) mu1 n1 (K : LK) w (hid : Nat), ¬ hid = n → Gr n fz mu mu1 n n1 → with' mu1 fz n = some (msgC m xb xe) → with' mu1 fz hid = some (hasL (fieldsL m.kind)) →
        e 0 1 = .one (.optr n 0) → e 0 5 = .one (.optr hid 0) → e 2 1 = .one (.int .i64 0) →
        ((List.range 15).all (fieldOk m) = true → ∀ e' mu' n',Gr n fz mu mu' n n' → with' mu' fz n = some (msgC m xb xe) → with' mu' fz hid = some (hasL (fieldsL m.kind)) → e' 0 1 = .one (.optr n 0) → e' 0 5 = .one (.optr hid 0) → K (.exit 2) (tmE 141 e') mu' n') →
        ((List.range 15).all (fieldOk m) = false → ∀ e' mu' n',Gr n fz mu mu' n n' → e' 0 2 = .one (.bool false) → K .ret (tmE 141 e') mu' n') →
        Lp (dcode pOrc False (CP P) fz 16 l_message_May_1) 16 (tmE 141 e) mu1 n1 K w:=by
      intro e mu1 n1 K w hid hh3 g1 a1 a2 a3 a4 a5 hd hr
      refine loopI (x:=2) (L:=15) (p:=fieldOk m) (λi e mu' n'=>Gr n fz mu mu' n n' ∧ with' mu' fz n = some (msgC m xb xe) ∧ with' mu' fz hid = some (hasL (fieldsL m.kind)) ∧
        e 0 1 = .one (.optr n 0) ∧ e 0 5 = .one (.optr hid 0) ∧ e 2 1 = .one (.int .i64 i)) (λe mu' n'=>Gr n fz mu mu' n n' ∧ e 0 2 = .one (.bool false)) ?_ ?_ e mu1 n1 K w (by omega) ⟨g1,a1,a2,a3,a4,a5⟩ (λha e' mu' n' hI=>hd (all_range ha) e' mu' n' hI.1 hI.2.1 hI.2.2.1 hI.2.2.2.1 hI.2.2.2.2.1) (λhx e' mu' n' hR=>hr (not_all_range hx) e' mu' n' hR.1 hR.2)
      · rintro i e mu1 n1 K hi ⟨g1,b1,b2,a3,a4,a5⟩ hy hn
        have hfr0:=hfr
        have hfr:=g1.free
        have gg:=Gr.refl (lo:=n1) hfr
        have hle:=Nat.le_refl n1
        clear hd hr h
        unfold msgC at b1
        unfold hasL at b2
        rw [dc_at l_message_May_1.eq_1]
        rcases lits i hi with rfl | rfl | rfl | rfl | rfl | rfl | rfl | rfl | rfl | rfl | rfl | rfl | rfl | rfl | rfl
        all_goals simp only [↓E1,E2,Int.reduceEq,Int.reduceNe,Int.reduceLT,Int.reduceLE,Int.reduceNeg,Int.reduceAdd,Int.reduceSub,Int.reduceToNat,Nat.reduceEqDiff,Nat.reduceAdd,Nat.reduceMul,Nat.reduceSub,Nat.reduceLeDiff,Nat.reduceBEq,reduceIte,Nat.reduceLT,Nat.reduceBneDiff, *]
        repeat' (first | ((with_reducible refine Br_intro (λhb=>?_) (λhb=>?_)) <;> simp only [↓E1,E2,Int.reduceEq,Int.reduceNe,Int.reduceLT,Int.reduceLE,Int.reduceNeg,Int.reduceAdd,Int.reduceSub,Int.reduceToNat,Nat.reduceEqDiff,Nat.reduceAdd,Nat.reduceMul,Nat.reduceSub,Nat.reduceLeDiff,Nat.reduceBEq,reduceIte,Nat.reduceLT,Nat.reduceBneDiff, *,numP]) | ((with_reducible refine CPr_f (f:=n_message_number) ?_); ((first | (refine (message_number H _ _ _).d2 hfr (by first | trivial | assumption) ?_; rintro v mu2 n2 g2 rfl) | (refine (message_number H _ _ _).d3 hfr (λhm=>by first | trivial) ?_; rintro v mu2 n2 g2 b1 rfl) | (refine (message_number H _ _ _).c1 hfr (by first | trivial | assumption) ?_; rintro v mu2 n2 g2 rfl) | (refine (message_number H _ _ _).c2 hfr (λhm=>by first | trivial) ?_; rintro v mu2 n2 g2 b1 rfl) | (refine (message_number H _ _ _).c3 hfr (λhm=>by first | trivial) ?_; rintro v mu2 n2 g2 b1 b2 rfl)); (try replace b1:=g2.old hfr b1); (try replace b2:=g2.old hfr b2); replace gg:=gg.trans (g2.weaken hle); replace hle:=Nat.le_trans hle g2.le; replace hfr:=g2.free; clear g2; simp only [↓E1,E2,Int.reduceEq,Int.reduceNe,Int.reduceLT,Int.reduceLE,Int.reduceNeg,Int.reduceAdd,Int.reduceSub,Int.reduceToNat,Nat.reduceEqDiff,Nat.reduceAdd,Nat.reduceMul,Nat.reduceSub,Nat.reduceLeDiff,Nat.reduceBEq,reduceIte,Nat.reduceLT,Nat.reduceBneDiff, *,numP])) | ((with_reducible refine CPr_f (f:=n_message_limits) ?_); ((first | (refine (message_limits H _ _).d2 hfr (by first | trivial | assumption) ?_; rintro v mu2 n2 g2 rfl) | (refine (message_limits H _ _).d3 hfr (λhm=>by first | trivial) ?_; rintro v mu2 n2 g2 b1 rfl) | (refine (message_limits H _ _).c1 hfr (by first | trivial | assumption) ?_; rintro v mu2 n2 g2 rfl) | (refine (message_limits H _ _).c2 hfr (λhm=>by first | trivial) ?_; rintro v mu2 n2 g2 b1 rfl) | (refine (message_limits H _ _).c3 hfr (λhm=>by first | trivial) ?_; rintro v mu2 n2 g2 b1 b2 rfl)); (try replace b1:=g2.old hfr b1); (try replace b2:=g2.old hfr b2); replace gg:=gg.trans (g2.weaken hle); replace hle:=Nat.le_trans hle g2.le; replace hfr:=g2.free; clear g2; simp only [↓E1,E2,Int.reduceEq,Int.reduceNe,Int.reduceLT,Int.reduceLE,Int.reduceNeg,Int.reduceAdd,Int.reduceSub,Int.reduceToNat,Nat.reduceEqDiff,Nat.reduceAdd,Nat.reduceMul,Nat.reduceSub,Nat.reduceLeDiff,Nat.reduceBEq,reduceIte,Nat.reduceLT,Nat.reduceBneDiff, *,numP])))
        all_goals first
          | (refine hy (by clear hy hn loop0 b1 b2; first | (simp_all [fieldOk,numV,hasF]; done) | (simp_all [fieldOk,numV,hasF]; omega)) _ _ _ ⟨g1.trans (gg.weaken g1.le),b1,b2,?_,?_,?_⟩ <;> simp [updN,updE, *]; done)
          | (refine hn (by clear hy hn loop0 b1 b2; first | (simp_all [fieldOk,numV,hasF]; done) | (simp_all [fieldOk,numV,hasF]; omega)) _ _ _ ⟨g1.trans (gg.weaken g1.le),?_⟩; simp [updN,updE, *]; done)
      · rintro e mu n K hI hd
        obtain ⟨g1,a1,a2,a3,a4,a5⟩:=id hI
        rw [dc_at l_message_May_1.eq_1]
        have hlt : ((15 : Int) < 15) = False:=by simp
        simp only [↓E1,E2,Int.reduceEq,Int.reduceNe,Int.reduceLT,Int.reduceLE,Int.reduceNeg,Int.reduceAdd,Int.reduceSub,Int.reduceToNat,Nat.reduceEqDiff,Nat.reduceAdd,Nat.reduceMul,Nat.reduceSub,Nat.reduceLeDiff,Nat.reduceBEq,reduceIte,Nat.reduceLT,Nat.reduceBneDiff, *]
        all_goals refine hd _ _ _ ⟨g1,a1,a2,by simp [updN,updE, *],by simp [updN,updE, *],by simp [updN,updE, *]⟩
    have ho:=over_has
    simp only [↓E1,E2,Int.reduceEq,Int.reduceNe,Int.reduceLT,Int.reduceLE,Int.reduceNeg,Int.reduceAdd,Int.reduceSub,Int.reduceToNat,Nat.reduceEqDiff,Nat.reduceAdd,Nat.reduceMul,Nat.reduceSub,Nat.reduceLeDiff,Nat.reduceBEq,reduceIte,Nat.reduceLT,Nat.reduceBneDiff, *]
    refine (message_fields H m.kind hk.1 hk.2).c2 hfr (λ_=>trivial) ?_
    rintro v mu2 n2 g2 b1 ⟨fid,rfl,b3⟩
    (try replace b1:=g2.old hfr b1); (try replace b3:=g2.old hfr b3); (try replace s1:=PtsR.mono (λ_ _ hh=>g2.old hfr hh) s1); (try replace s2:=EntsR.mono (λ_ _ hh=>g2.old hfr hh) s2); replace gg:=gg.trans (g2.weaken hle); replace hle:=Nat.le_trans hle g2.le; replace hfr:=g2.free; clear g2
    simp only [↓E1,E2,Int.reduceEq,Int.reduceNe,Int.reduceLT,Int.reduceLE,Int.reduceNeg,Int.reduceAdd,Int.reduceSub,Int.reduceToNat,Nat.reduceEqDiff,Nat.reduceAdd,Nat.reduceMul,Nat.reduceSub,Nat.reduceLeDiff,Nat.reduceBEq,reduceIte,Nat.reduceLT,Nat.reduceBneDiff, *]
    repeat' (first | ((with_reducible refine Br_intro (λhb=>?_) (λhb=>?_)) <;> simp only [↓E1,E2,Int.reduceEq,Int.reduceNe,Int.reduceLT,Int.reduceLE,Int.reduceNeg,Int.reduceAdd,Int.reduceSub,Int.reduceToNat,Nat.reduceEqDiff,Nat.reduceAdd,Nat.reduceMul,Nat.reduceSub,Nat.reduceLeDiff,Nat.reduceBEq,reduceIte,Nat.reduceLT,Nat.reduceBneDiff, *]) | ((with_reducible refine CPr_f (f:=n_message_who) ?_); ((first | (refine (message_who H n m xb xe).d2 hfr (by first | trivial | exact s1 | exact s2 | assumption) ?_; rintro v mu2 n2 g2 rfl) | (refine (message_who H n m xb xe).d3 hfr (λhm=>by first | trivial | exact PtsR.mono hm s1 | exact EntsR.mono hm s2) ?_; rintro v mu2 n2 g2 b1 rfl) | (refine (message_who H n m xb xe).c1 hfr (by first | trivial | exact s1 | exact s2 | assumption) ?_; rintro v mu2 n2 g2 rfl) | (refine (message_who H n m xb xe).c2 hfr (λhm=>by first | trivial | exact PtsR.mono hm s1 | exact EntsR.mono hm s2) ?_; rintro v mu2 n2 g2 b1 rfl) | (refine (message_who H n m xb xe).c3 hfr (λhm=>by first | trivial | exact PtsR.mono hm s1 | exact EntsR.mono hm s2) ?_; rintro v mu2 n2 g2 b1 b2 rfl)); (try replace b1:=g2.old hfr b1); (try replace b3:=g2.old hfr b3); (try replace s1:=PtsR.mono (λ_ _ hh=>g2.old hfr hh) s1); (try replace s2:=EntsR.mono (λ_ _ hh=>g2.old hfr hh) s2); replace gg:=gg.trans (g2.weaken hle); replace hle:=Nat.le_trans hle g2.le; replace hfr:=g2.free; clear g2; simp only [↓E1,E2,Int.reduceEq,Int.reduceNe,Int.reduceLT,Int.reduceLE,Int.reduceNeg,Int.reduceAdd,Int.reduceSub,Int.reduceToNat,Nat.reduceEqDiff,Nat.reduceAdd,Nat.reduceMul,Nat.reduceSub,Nat.reduceLeDiff,Nat.reduceBEq,reduceIte,Nat.reduceLT,Nat.reduceBneDiff, *])))
    all_goals try (refine leafB h (by exact gg) (by clear loop0 loop1 h; simp_all [msgB]); done)
    have hf1:=hfr.lt b3
    have hf2:=hfr.lt b1
    have hbx : ∀ id c,with' mu2 fz id = some c → with' ((n2,hasL []) :: mu2) fz id = some c:=λid c hh=>by rw [with_c,if_neg (by have:=hfr.lt hh; omega)]; exact hh
    refine loop0 _ _ _ _ _ fid n2 hle (by omega) (by omega) (gg.cons hle _) (hbx _ _ b1) (hbx _ _ b3) own_at (by simp [updN,updE]) (by simp [updN,updE]) (by simp [updN,updE]) (by simp [updN,updE]) (by simp [updN,updE]) ?_
    clear b1 b3 s1 s2
    intro e3 mu3 n3 g3 b1 b2 a1 a2
    simp only [↓E1,E2,Int.reduceEq,Int.reduceNe,Int.reduceLT,Int.reduceLE,Int.reduceNeg,Int.reduceAdd,Int.reduceSub,Int.reduceToNat,Nat.reduceEqDiff,Nat.reduceAdd,Nat.reduceMul,Nat.reduceSub,Nat.reduceLeDiff,Nat.reduceBEq,reduceIte,Nat.reduceLT,Nat.reduceBneDiff, *]
    refine loop1 _ _ _ _ _ n2 (by omega) g3 b1 b2 (by simp [updN,updE, *]) (by simp [updN,updE, *]) (by simp [updN,updE, *]) ?_ ?_
    · intro hall e4 mu4 n4 g4 b1 b2 a1 a2
      unfold msgC at b1
      unfold hasL at b2
      have s1:=PtsR.mono (λ_ _ hh=>g4.old hfr0 hh) z1
      have s2:=EntsR.mono (λ_ _ hh=>g4.old hfr0 hh) z2
      have hfr:=g4.free
      have gg:=g4
      have hle:=g4.le
      clear loop0 loop1 g3
      simp only [↓E1,E2,Int.reduceEq,Int.reduceNe,Int.reduceLT,Int.reduceLE,Int.reduceNeg,Int.reduceAdd,Int.reduceSub,Int.reduceToNat,Nat.reduceEqDiff,Nat.reduceAdd,Nat.reduceMul,Nat.reduceSub,Nat.reduceLeDiff,Nat.reduceBEq,reduceIte,Nat.reduceLT,Nat.reduceBneDiff, *,tx_empty]
      repeat' (first | ((with_reducible refine Br_intro (λhb=>?_) (λhb=>?_)) <;> simp only [↓E1,E2,Int.reduceEq,Int.reduceNe,Int.reduceLT,Int.reduceLE,Int.reduceNeg,Int.reduceAdd,Int.reduceSub,Int.reduceToNat,Nat.reduceEqDiff,Nat.reduceAdd,Nat.reduceMul,Nat.reduceSub,Nat.reduceLeDiff,Nat.reduceBEq,reduceIte,Nat.reduceLT,Nat.reduceBneDiff, *,tx_empty]) | ((with_reducible refine CPr_f (f:=n_point_Name) ?_); ((first | (refine (point_Name H m.series).d2 hfr (by first | trivial | exact s1 | exact s2 | assumption) ?_; rintro v mu2 n2 g2 rfl) | (refine (point_Name H m.series).d3 hfr (λhm=>by first | trivial | exact PtsR.mono hm s1 | exact EntsR.mono hm s2) ?_; rintro v mu2 n2 g2 b1 rfl) | (refine (point_Name H m.series).c1 hfr (by first | trivial | exact s1 | exact s2 | assumption) ?_; rintro v mu2 n2 g2 rfl) | (refine (point_Name H m.series).c2 hfr (λhm=>by first | trivial | exact PtsR.mono hm s1 | exact EntsR.mono hm s2) ?_; rintro v mu2 n2 g2 b1 rfl) | (refine (point_Name H m.series).c3 hfr (λhm=>by first | trivial | exact PtsR.mono hm s1 | exact EntsR.mono hm s2) ?_; rintro v mu2 n2 g2 b1 b2 rfl)); (try replace b1:=g2.old hfr b1); (try replace b2:=g2.old hfr b2); (try replace s1:=PtsR.mono (λ_ _ hh=>g2.old hfr hh) s1); (try replace s2:=EntsR.mono (λ_ _ hh=>g2.old hfr hh) s2); replace gg:=gg.trans (g2.weaken hle); replace hle:=Nat.le_trans hle g2.le; replace hfr:=g2.free; clear g2; simp only [↓E1,E2,Int.reduceEq,Int.reduceNe,Int.reduceLT,Int.reduceLE,Int.reduceNeg,Int.reduceAdd,Int.reduceSub,Int.reduceToNat,Nat.reduceEqDiff,Nat.reduceAdd,Nat.reduceMul,Nat.reduceSub,Nat.reduceLeDiff,Nat.reduceBEq,reduceIte,Nat.reduceLT,Nat.reduceBneDiff, *,tx_empty])) | ((with_reducible refine CPr_f (f:=n_point_Batch) ?_); ((first | (refine (point_Batch H xb m.batch).d2 hfr (by first | trivial | exact s1 | exact s2 | assumption) ?_; rintro v mu2 n2 g2 rfl) | (refine (point_Batch H xb m.batch).d3 hfr (λhm=>by first | trivial | exact PtsR.mono hm s1 | exact EntsR.mono hm s2) ?_; rintro v mu2 n2 g2 b1 rfl) | (refine (point_Batch H xb m.batch).c1 hfr (by first | trivial | exact s1 | exact s2 | assumption) ?_; rintro v mu2 n2 g2 rfl) | (refine (point_Batch H xb m.batch).c2 hfr (λhm=>by first | trivial | exact PtsR.mono hm s1 | exact EntsR.mono hm s2) ?_; rintro v mu2 n2 g2 b1 rfl) | (refine (point_Batch H xb m.batch).c3 hfr (λhm=>by first | trivial | exact PtsR.mono hm s1 | exact EntsR.mono hm s2) ?_; rintro v mu2 n2 g2 b1 b2 rfl)); (try replace b1:=g2.old hfr b1); (try replace b2:=g2.old hfr b2); (try replace s1:=PtsR.mono (λ_ _ hh=>g2.old hfr hh) s1); (try replace s2:=EntsR.mono (λ_ _ hh=>g2.old hfr hh) s2); replace gg:=gg.trans (g2.weaken hle); replace hle:=Nat.le_trans hle g2.le; replace hfr:=g2.free; clear g2; simp only [↓E1,E2,Int.reduceEq,Int.reduceNe,Int.reduceLT,Int.reduceLE,Int.reduceNeg,Int.reduceAdd,Int.reduceSub,Int.reduceToNat,Nat.reduceEqDiff,Nat.reduceAdd,Nat.reduceMul,Nat.reduceSub,Nat.reduceLeDiff,Nat.reduceBEq,reduceIte,Nat.reduceLT,Nat.reduceBneDiff, *,tx_empty])) | ((with_reducible refine CPr_f (f:=n_message_MayLog) ?_); ((first | (refine (message_MayLog H m.log xe).d2 hfr (by first | trivial | exact s1 | exact s2 | assumption) ?_; rintro v mu2 n2 g2 rfl) | (refine (message_MayLog H m.log xe).d3 hfr (λhm=>by first | trivial | exact PtsR.mono hm s1 | exact EntsR.mono hm s2) ?_; rintro v mu2 n2 g2 b1 rfl) | (refine (message_MayLog H m.log xe).c1 hfr (by first | trivial | exact s1 | exact s2 | assumption) ?_; rintro v mu2 n2 g2 rfl) | (refine (message_MayLog H m.log xe).c2 hfr (λhm=>by first | trivial | exact PtsR.mono hm s1 | exact EntsR.mono hm s2) ?_; rintro v mu2 n2 g2 b1 rfl) | (refine (message_MayLog H m.log xe).c3 hfr (λhm=>by first | trivial | exact PtsR.mono hm s1 | exact EntsR.mono hm s2) ?_; rintro v mu2 n2 g2 b1 b2 rfl)); (try replace b1:=g2.old hfr b1); (try replace b2:=g2.old hfr b2); (try replace s1:=PtsR.mono (λ_ _ hh=>g2.old hfr hh) s1); (try replace s2:=EntsR.mono (λ_ _ hh=>g2.old hfr hh) s2); replace gg:=gg.trans (g2.weaken hle); replace hle:=Nat.le_trans hle g2.le; replace hfr:=g2.free; clear g2; simp only [↓E1,E2,Int.reduceEq,Int.reduceNe,Int.reduceLT,Int.reduceLE,Int.reduceNeg,Int.reduceAdd,Int.reduceSub,Int.reduceToNat,Nat.reduceEqDiff,Nat.reduceAdd,Nat.reduceMul,Nat.reduceSub,Nat.reduceLeDiff,Nat.reduceBEq,reduceIte,Nat.reduceLT,Nat.reduceBneDiff, *,tx_empty])))
      all_goals (refine leafB h gg ?_; clear h b1 b2 z1 z2 ho hbx hmc xl yl; unfold msgB hasF; rw [hall]; first | (simp_all [-List.length_eq_zero_iff]; done) | (simp_all [-List.length_eq_zero_iff]; omega))
    · intro hall e4 mu4 n4 g4 a1
      simp only [↓E1,E2,Int.reduceEq,Int.reduceNe,Int.reduceLT,Int.reduceLE,Int.reduceNeg,Int.reduceAdd,Int.reduceSub,Int.reduceToNat,Nat.reduceEqDiff,Nat.reduceAdd,Nat.reduceMul,Nat.reduceSub,Nat.reduceLeDiff,Nat.reduceBEq,reduceIte,Nat.reduceLT,Nat.reduceBneDiff, *]
      exact leafB h g4 (by unfold msgB; rw [hall]; simp)
  · have hf:=message_fields_bad H m.kind hk
    unfold msgC
    simp only [↓E1,E2,Int.reduceEq,Int.reduceNe,Int.reduceLT,Int.reduceLE,Int.reduceNeg,Int.reduceAdd,Int.reduceSub,Int.reduceToNat,Nat.reduceEqDiff,Nat.reduceAdd,Nat.reduceMul,Nat.reduceSub,Nat.reduceLeDiff,Nat.reduceBEq,reduceIte,Nat.reduceLT,Nat.reduceBneDiff, *]
    refine hf.c2 hfr (λ_=>trivial) ?_
    rintro v mu2 n2 g2 b1 rfl
    simp only [↓E1,E2,Int.reduceEq,Int.reduceNe,Int.reduceLT,Int.reduceLE,Int.reduceNeg,Int.reduceAdd,Int.reduceSub,Int.reduceToNat,Nat.reduceEqDiff,Nat.reduceAdd,Nat.reduceMul,Nat.reduceSub,Nat.reduceLeDiff,Nat.reduceBEq,reduceIte,Nat.reduceLT,Nat.reduceBneDiff, *]
    exact leafB h g2 (by unfold msgB; simp; omega)
end Go.Proofs.Ytnnjlnkoomeadaa.Pv
namespace Go.Proofs.Ytnnjlnkoomeadaa.Pv
open Go.Ev Go.Ev.Rp
set_option maxRecDepth 100000
set_option maxHeartbeats 4000000
set_option linter.unusedSimpArgs false
set_option linter.unusedVariables false
set_option linter.unusedSectionVars false
variable {P : Program} (H : Fs P)
include H
end Go.Proofs.Ytnnjlnkoomeadaa.Pv
namespace Go.Proofs.Ytnnjlnkoomeadaa.Pv
open Go.Ev Go.Ev.Rp
set_option maxRecDepth 100000
set_option maxHeartbeats 4000000
set_option linter.unusedSimpArgs false
set_option linter.unusedVariables false
set_option linter.unusedSectionVars false
variable {P : Program} (H : Fs P)
include H
end Go.Proofs.Ytnnjlnkoomeadaa.Pv
namespace Go.Proofs.Ytnnjlnkoomeadaa.Pv
open Go.Ev Go.Ev.Rp
set_option maxRecDepth 100000
set_option maxHeartbeats 4000000
set_option linter.unusedSimpArgs false
set_option linter.unusedVariables false
set_option linter.unusedSectionVars false
def RepS (M : Fz) (r : Rep) (xe xa xs xd : SV) : Prop:=EntsR M xe r.log.ents ∧ IntsR M xa r.acks ∧ IntsR M xs r.starts ∧ DvsR M xd r.dos
def MsgS (M : Fz) (m : Msg) (xb xe : SV) : Prop:=PtsR M xb m.batch ∧ EntsR M xe m.log.ents
theorem RepS.mono {M M' : Fz} (hm : ∀ id B,M id = some B → M' id = some B) {r : Rep} {xe xa xs xd : SV} (h : RepS M r xe xa xs xd) : RepS M' r xe xa xs xd:=⟨EntsR.mono hm h.1,IntsR.mono hm h.2.1,IntsR.mono hm h.2.2.1,DvsR.mono hm h.2.2.2⟩
theorem MsgS.mono {M M' : Fz} (hm : ∀ id B,M id = some B → M' id = some B) {m : Msg} {xb xe : SV} (h : MsgS M m xb xe) : MsgS M' m xb xe:=⟨PtsR.mono hm h.1,EntsR.mono hm h.2⟩
def Ok (l : Lg) : Prop:=∀ e ∈ l.ents,e.batch.length ≤ 1152921504606846976
variable {P : Program} (H : Fs P)
include H
end Go.Proofs.Ytnnjlnkoomeadaa.Pv
namespace Go.Proofs.Ytnnjlnkoomeadaa.Pv
open Go.Ev Go.Ev.Rp
set_option maxRecDepth 100000
set_option linter.unusedVariables false
def qI : Fz → List SV → Prop:=λ_ c=>∃ i : Int,(Lit.int .i64 i).wf = true ∧ c = [I i]
def qS : Fz → List SV → Prop:=λ_ c=>∃ t : Tx,t.l ≤ reachBytes ∧ c = [t.sv]
structure LgW (l : Lg) : Prop where
  snap : l.snap.l ≤ reachBytes
  ents : l.ents.length * 56 ≤ reachBytes
  bat : ∀ e ∈ l.ents,e.batch.length * 32 ≤ reachBytes
structure MsgW (m : Msg) : Prop where
  bat : m.batch.length * 32 ≤ reachBytes
  log : LgW m.log
def qP : Fz → List SV → Prop:=λ_ c=>∃ p : Pt,c = ptC p
def qPs : Fz → List SV → Prop:=λM c=>∃ x l,c = [x] ∧ PtsR M x l ∧ l.length * 32 ≤ reachBytes
def qE : Fz → List SV → Prop:=λM c=>∃ b e,c = entC e b ∧ PtsR M b e.batch ∧ e.batch.length * 32 ≤ reachBytes
def qEs : Fz → List SV → Prop:=λM c=>∃ x l,c = [x] ∧ EntsR M x l ∧ l.length * 56 ≤ reachBytes ∧ ∀ e ∈ l,e.batch.length * 32 ≤ reachBytes
def qL : Fz → List SV → Prop:=λM c=>∃ x l,c = lgC l x ∧ EntsR M x l.ents ∧ LgW l
def qM : Fz → List SV → Prop:=λM c=>∃ xb xe m,c = msgC m xb xe ∧ MsgS M m xb xe ∧ MsgW m
theorem qI_m : Mono qI:=λ_ _ _ _ h=>h
theorem qS_m : Mono qS:=λ_ _ _ _ h=>h
theorem qP_m : Mono qP:=λ_ _ _ _ h=>h
theorem qPs_m : Mono qPs:=λ_ _ _ s ⟨x,l,h1,h2,h3⟩=>⟨x,l,h1,PtsR.mono s h2,h3⟩
theorem qE_m : Mono qE:=λ_ _ _ s ⟨b,e,h1,h2,h3⟩=>⟨b,e,h1,PtsR.mono s h2,h3⟩
theorem qEs_m : Mono qEs:=λ_ _ _ s ⟨x,l,h1,h2,h3⟩=>⟨x,l,h1,EntsR.mono s h2,h3⟩
theorem qL_m : Mono qL:=λ_ _ _ s ⟨x,l,h1,h2,h3⟩=>⟨x,l,h1,EntsR.mono s h2,h3⟩
section
variable {H : Type} {enc : TypeId × Value → H} {w : World}
theorem im_int : ImpT enc Try.prog w 3 qI:=impT_int Try.underlying3
theorem im_str : ImpT enc Try.prog w 9 qS:=(impT_str Try.underlying9).mono λ_ _ ⟨l,m,h1,h2,h3⟩=>⟨⟨l,m,h1⟩,h2,h3⟩
theorem im_pt : ImpT enc Try.prog w 126 qP:=by
  refine (impT_struct Try.underlying126 [(9,qS),(3,qI),(3,qI)] rfl (by decide +kernel) (by decide +kernel) ?_ ?_).mono ?_
  · intro p hp; simp only [List.mem_cons,List.not_mem_nil,or_false] at hp; rcases hp with rfl | rfl | rfl <;> first | exact qS_m | exact qI_m
  · intro p hp; simp only [List.mem_cons,List.not_mem_nil,or_false] at hp; rcases hp with rfl | rfl | rfl <;> first | exact im_str | exact im_int
  · rintro M c ⟨cs,rfl,h⟩
    obtain ⟨c0,c1,c2,rfl⟩ : ∃ c0 c1 c2,cs = [c0,c1,c2]:=by
      have hl:=h.length
      rcases cs with _ | ⟨c0,cs⟩
      · simp at hl
      rcases cs with _ | ⟨c1,cs⟩
      · simp at hl
      rcases cs with _ | ⟨c2,cs⟩
      · simp at hl
      rcases cs with _ | ⟨c,cs⟩
      · exact ⟨c0,c1,c2,rfl⟩
      · simp at hl
    obtain ⟨h0,h1,h2,-⟩:=h
    obtain ⟨s,-,rfl⟩:=h0
    obtain ⟨a,-,rfl⟩:=h1
    obtain ⟨b,-,rfl⟩:=h2
    exact ⟨⟨s,a,b⟩,rfl⟩
theorem im_pts : ImpT enc Try.prog w 29 qPs:=by
  refine (impT_slice Try.underlying29 (s:=3) (b:=32) (by decide +kernel) (by decide) (by decide +kernel) qP_m im_pt).mono ?_
  rintro M c ⟨x,css,rfl,h1,h2,h3⟩
  have hl : ∃ l : List Pt,css = l.map ptC:=by
    clear h1 h2
    induction css with
    | nil=>exact ⟨[],rfl⟩
    | cons d css ih =>
      obtain ⟨l,hl⟩:=ih λd hd=>h3 d (by simp [hd])
      obtain ⟨p,rfl⟩:=h3 d (by simp)
      exact ⟨p :: l,by rw [hl]; rfl⟩
  obtain ⟨l,rfl⟩:=hl
  exact ⟨x,l,rfl,h1,by simpa using h2⟩
theorem im_ent : ImpT enc Try.prog w 47 qE:=by
  refine (impT_struct Try.underlying47 [(3,qI),(3,qI),(3,qI),(3,qI),(29,qPs)] rfl (by decide +kernel) (by decide +kernel) ?_ ?_).mono ?_
  · intro p hp; simp only [List.mem_cons,List.not_mem_nil,or_false] at hp; rcases hp with rfl | rfl | rfl | rfl | rfl <;> first | exact qI_m | exact qPs_m
  · intro p hp; simp only [List.mem_cons,List.not_mem_nil,or_false] at hp; rcases hp with rfl | rfl | rfl | rfl | rfl <;> first | exact im_int | exact im_pts
  · rintro M c ⟨cs,rfl,h⟩
    obtain ⟨c0,c1,c2,c3,c4,rfl⟩ : ∃ c0 c1 c2 c3 c4,cs = [c0,c1,c2,c3,c4]:=by
      have hl:=h.length
      rcases cs with _ | ⟨c0,cs⟩
      · simp at hl
      rcases cs with _ | ⟨c1,cs⟩
      · simp at hl
      rcases cs with _ | ⟨c2,cs⟩
      · simp at hl
      rcases cs with _ | ⟨c3,cs⟩
      · simp at hl
      rcases cs with _ | ⟨c4,cs⟩
      · simp at hl
      rcases cs with _ | ⟨c,cs⟩
      · exact ⟨c0,c1,c2,c3,c4,rfl⟩
      · simp at hl
    obtain ⟨h0,h1,h2,h3,h4,-⟩:=h
    obtain ⟨a,-,rfl⟩:=h0
    obtain ⟨b,-,rfl⟩:=h1
    obtain ⟨c,-,rfl⟩:=h2
    obtain ⟨d,-,rfl⟩:=h3
    obtain ⟨x,l,rfl,g1,g2⟩:=h4
    exact ⟨x,⟨a,b,c,d,l⟩,rfl,g1,g2⟩
theorem im_ents : ImpT enc Try.prog w 22 qEs:=by
  refine (impT_slice Try.underlying22 (s:=5) (b:=56) (by decide +kernel) (by decide) (by decide +kernel) qE_m im_ent).mono ?_
  rintro M c ⟨x,css,rfl,h1,h2,h3⟩
  have hl : ∃ l : List Ent,All2 (EntR M) css l ∧ ∀ e ∈ l,e.batch.length * 32 ≤ reachBytes:=by
    clear h1 h2
    induction css with
    | nil=>exact ⟨[],trivial,λe he=>(by cases he)⟩
    | cons d css ih =>
      obtain ⟨l,hl⟩:=ih λd hd=>h3 d (by simp [hd])
      obtain ⟨b,e,rfl,g1,g2⟩:=h3 d (by simp)
      exact ⟨e :: l,⟨⟨b,rfl,g1⟩,hl.1⟩,λe he=>by rcases List.mem_cons.1 he with rfl | he; exact g2; exact hl.2 e he⟩
  obtain ⟨l,hl,hb⟩:=hl
  exact ⟨x,l,rfl,⟨css,h1,hl⟩,by rw [← hl.length]; exact h2,hb⟩
theorem im_log : ImpT enc Try.prog w 24 qL:=by
  refine (impT_struct Try.underlying24 [(3,qI),(9,qS),(22,qEs)] rfl (by decide +kernel) (by decide +kernel) ?_ ?_).mono ?_
  · intro p hp; simp only [List.mem_cons,List.not_mem_nil,or_false] at hp; rcases hp with rfl | rfl | rfl <;> first | exact qI_m | exact qS_m | exact qEs_m
  · intro p hp; simp only [List.mem_cons,List.not_mem_nil,or_false] at hp; rcases hp with rfl | rfl | rfl <;> first | exact im_int | exact im_str | exact im_ents
  · rintro M c ⟨cs,rfl,h⟩
    obtain ⟨c0,c1,c2,rfl⟩ : ∃ c0 c1 c2,cs = [c0,c1,c2]:=by
      have hl:=h.length
      rcases cs with _ | ⟨c0,cs⟩
      · simp at hl
      rcases cs with _ | ⟨c1,cs⟩
      · simp at hl
      rcases cs with _ | ⟨c2,cs⟩
      · simp at hl
      rcases cs with _ | ⟨c,cs⟩
      · exact ⟨c0,c1,c2,rfl⟩
      · simp at hl
    obtain ⟨h0,h1,h2,-⟩:=h
    obtain ⟨a,-,rfl⟩:=h0
    obtain ⟨s,hs,rfl⟩:=h1
    obtain ⟨x,l,rfl,g1,g2,g3⟩:=h2
    exact ⟨x,⟨a,s,l⟩,rfl,g1,hs,g2,g3⟩
theorem im_msg : ImpT enc Try.prog w 31 qM:=by
  refine (impT_struct Try.underlying31 [(3,qI),(3,qI),(3,qI),(3,qI),(3,qI),(3,qI),(3,qI),(3,qI),(3,qI),(3,qI),(3,qI),(3,qI),(3,qI),(3,qI),(9,qS),(29,qPs),(24,qL),(9,qS)] rfl (by decide +kernel) (by decide +kernel) ?_ ?_).mono ?_
  · intro p hp; simp only [List.mem_cons,List.not_mem_nil,or_false] at hp; rcases hp with rfl | rfl | rfl | rfl | rfl | rfl | rfl | rfl | rfl | rfl | rfl | rfl | rfl | rfl | rfl | rfl | rfl | rfl <;> first | exact qI_m | exact qS_m | exact qPs_m | exact qL_m
  · intro p hp; simp only [List.mem_cons,List.not_mem_nil,or_false] at hp; rcases hp with rfl | rfl | rfl | rfl | rfl | rfl | rfl | rfl | rfl | rfl | rfl | rfl | rfl | rfl | rfl | rfl | rfl | rfl <;> first | exact im_int | exact im_str | exact im_pts | exact im_log
  · rintro M c ⟨cs,rfl,h⟩
    obtain ⟨c0,c1,c2,c3,c4,c5,c6,c7,c8,c9,c10,c11,c12,c13,c14,c15,c16,c17,rfl⟩ : ∃ c0 c1 c2 c3 c4 c5 c6 c7 c8 c9 c10 c11 c12 c13 c14 c15 c16 c17,cs = [c0,c1,c2,c3,c4,c5,c6,c7,c8,c9,c10,c11,c12,c13,c14,c15,c16,c17]:=by
      have hl:=h.length
      rcases cs with _ | ⟨c0,cs⟩
      · simp at hl
      rcases cs with _ | ⟨c1,cs⟩
      · simp at hl
      rcases cs with _ | ⟨c2,cs⟩
      · simp at hl
      rcases cs with _ | ⟨c3,cs⟩
      · simp at hl
      rcases cs with _ | ⟨c4,cs⟩
      · simp at hl
      rcases cs with _ | ⟨c5,cs⟩
      · simp at hl
      rcases cs with _ | ⟨c6,cs⟩
      · simp at hl
      rcases cs with _ | ⟨c7,cs⟩
      · simp at hl
      rcases cs with _ | ⟨c8,cs⟩
      · simp at hl
      rcases cs with _ | ⟨c9,cs⟩
      · simp at hl
      rcases cs with _ | ⟨c10,cs⟩
      · simp at hl
      rcases cs with _ | ⟨c11,cs⟩
      · simp at hl
      rcases cs with _ | ⟨c12,cs⟩
      · simp at hl
      rcases cs with _ | ⟨c13,cs⟩
      · simp at hl
      rcases cs with _ | ⟨c14,cs⟩
      · simp at hl
      rcases cs with _ | ⟨c15,cs⟩
      · simp at hl
      rcases cs with _ | ⟨c16,cs⟩
      · simp at hl
      rcases cs with _ | ⟨c17,cs⟩
      · simp at hl
      rcases cs with _ | ⟨c,cs⟩
      · exact ⟨c0,c1,c2,c3,c4,c5,c6,c7,c8,c9,c10,c11,c12,c13,c14,c15,c16,c17,rfl⟩
      · simp at hl
    obtain ⟨h0,h1,h2,h3,h4,h5,h6,h7,h8,h9,h10,h11,h12,h13,h14,h15,h16,h17,-⟩:=h
    obtain ⟨a0,-,rfl⟩:=h0
    obtain ⟨a1,-,rfl⟩:=h1
    obtain ⟨a2,-,rfl⟩:=h2
    obtain ⟨a3,-,rfl⟩:=h3
    obtain ⟨a4,-,rfl⟩:=h4
    obtain ⟨a5,-,rfl⟩:=h5
    obtain ⟨a6,-,rfl⟩:=h6
    obtain ⟨a7,-,rfl⟩:=h7
    obtain ⟨a8,-,rfl⟩:=h8
    obtain ⟨a9,-,rfl⟩:=h9
    obtain ⟨a10,-,rfl⟩:=h10
    obtain ⟨a11,-,rfl⟩:=h11
    obtain ⟨a12,-,rfl⟩:=h12
    obtain ⟨a13,-,rfl⟩:=h13
    obtain ⟨s,-,rfl⟩:=h14
    obtain ⟨xb,lb,rfl,g1,g2⟩:=h15
    obtain ⟨xe,l,rfl,g3,g4⟩:=h16
    obtain ⟨s2,-,rfl⟩:=h17
    exact ⟨xb,xe,⟨a0,a1,a2,a3,a4,a5,a6,a7,a8,a9,a10,a11,a12,a13,s,lb,l,s2⟩,rfl,⟨g1,g3⟩,⟨g2,g4⟩⟩
end
end Go.Proofs.Ytnnjlnkoomeadaa.Pv
namespace Go.Proofs.Ytnnjlnkoomeadaa.Pv
open Go.Ev Go.Ev.Rp
set_option maxRecDepth 100000
set_option maxHeartbeats 4000000
set_option linter.unusedSimpArgs false
set_option linter.unusedVariables false
set_option linter.unusedSectionVars false
def PtsX (M : Fz) (x : SV) (l : List Pt) : Prop:=SlX M 3 x (l.map ptC)
def IntsX (M : Fz) (x : SV) (l : List Int) : Prop:=SlX M 1 x (l.map intC)
def EntX (M : Fz) (c : List SV) (e : Ent) : Prop:=∃ b,c = entC e b ∧ PtsX M b e.batch
def EntsX (M : Fz) (x : SV) (l : List Ent) : Prop:=∃ cs,SlX M 5 x cs ∧ All2 (EntX M) cs l
def DvX (M : Fz) (c : List SV) (d : Dv) : Prop:=∃ x,c = dvC d x ∧ EntsX M x d.log.ents
def DvsX (M : Fz) (x : SV) (l : List Dv) : Prop:=∃ cs,SlX M 6 x cs ∧ All2 (DvX M) cs l
section
variable {M M' : Fz} (hm : Sub M M')
include hm
theorem PtsX.mono {x : SV} {l : List Pt} (h : PtsX M x l) : PtsX M' x l:=SlX.mono h hm
theorem IntsX.mono {x : SV} {l : List Int} (h : IntsX M x l) : IntsX M' x l:=SlX.mono h hm
theorem EntX.mono {c : List SV} {e : Ent} (h : EntX M c e) : EntX M' c e:=let ⟨b,h1,h2⟩:=h; ⟨b,h1,PtsX.mono hm h2⟩
theorem EntsX.mono {x : SV} {l : List Ent} (h : EntsX M x l) : EntsX M' x l:=let ⟨cs,h1,h2⟩:=h; ⟨cs,SlX.mono h1 hm,h2.imp λ_ _ h=>EntX.mono hm h⟩
theorem DvX.mono {c : List SV} {d : Dv} (h : DvX M c d) : DvX M' c d:=let ⟨x,h1,h2⟩:=h; ⟨x,h1,EntsX.mono hm h2⟩
theorem DvsX.mono {x : SV} {l : List Dv} (h : DvsX M x l) : DvsX M' x l:=let ⟨cs,h1,h2⟩:=h; ⟨cs,SlX.mono h1 hm,h2.imp λ_ _ h=>DvX.mono hm h⟩
end
section
variable {M : Fz}
theorem PtsX.to {x : SV} {l : List Pt} (h : PtsX M x l) : PtsR M x l:=SlX.to h
theorem IntsX.to {x : SV} {l : List Int} (h : IntsX M x l) : IntsR M x l:=SlX.to h
theorem EntX.to {c : List SV} {e : Ent} (h : EntX M c e) : EntR M c e:=let ⟨b,h1,h2⟩:=h; ⟨b,h1,h2.to⟩
theorem EntsX.to {x : SV} {l : List Ent} (h : EntsX M x l) : EntsR M x l:=let ⟨cs,h1,h2⟩:=h; ⟨cs,h1.to,h2.imp λ_ _ h=>h.to⟩
theorem DvX.to {c : List SV} {d : Dv} (h : DvX M c d) : DvR M c d:=let ⟨x,h1,h2⟩:=h; ⟨x,h1,h2.to⟩
theorem DvsX.to {x : SV} {l : List Dv} (h : DvsX M x l) : DvsR M x l:=let ⟨cs,h1,h2⟩:=h; ⟨cs,h1.to,h2.imp λ_ _ h=>h.to⟩
end
theorem pt_ok {l : List Pt} : ∀ e ∈ l.map ptC,e.length = 3 ∧ knownAll e = true:=by
  intro e he
  obtain ⟨p,_,rfl⟩:=List.mem_map.1 he
  exact ⟨rfl,rfl⟩
theorem int_ok {l : List Int} : ∀ e ∈ l.map intC,e.length = 1 ∧ knownAll e = true:=by
  intro e he
  obtain ⟨p,_,rfl⟩:=List.mem_map.1 he
  exact ⟨rfl,rfl⟩
theorem SlX.mk_new {M : Fz} {s id : Nat} {es : List (List SV)} (h1 : M id = some es.flatten) (h2 : ∀ e ∈ es,e.length = s ∧ knownAll e = true) : SlX M s (.osl id 0 es.length es.length s) es :=
  .inr ⟨id,rfl,h1,mkd_known (knownAll_flat h2),h2⟩
theorem fits_le {n b : Nat} (h : n * b ≤ 140737488355328) (h1 : 1 ≤ b) (h2 : b ≤ 65536) : fits n b = true:=by
  unfold fits
  cases Nat.ble (Nat.mul n (Nat.succ b)) roomy with
  | true=>rfl
  | false =>
    have e1 : Nat.ble (Nat.mul n b) 140737488355328 = true:=by rw [Nat.ble_eq]; exact h
    have e2 : Nat.ble 1 b = true:=by rw [Nat.ble_eq]; exact h1
    have e3 : Nat.ble b 65536 = true:=by rw [Nat.ble_eq]; exact h2
    rw [e1,e2,e3]; rfl
theorem sub1 {fz : Fz} {mu : St} {n : Nat} (hfr : Free fz mu n) {c : List SV} : Sub (with' mu fz) (with' ((n,c) :: mu) fz):=λ_ _ hh=>((Gr.refl (lo:=n) hfr).cons (Nat.le_refl _) _).old hfr hh
theorem sub2 {fz : Fz} {mu : St} {n : Nat} (hfr : Free fz mu n) {c d : List SV} : Sub (with' mu fz) (with' ((n + 1,d) :: (n,c) :: mu) fz):=λ_ _ hh=>(((Gr.refl (lo:=n) hfr).cons (Nat.le_refl _) _).cons (Nat.le_succ _) _).old hfr hh
theorem gr1 {fz : Fz} {mu : St} {n : Nat} (hfr : Free fz mu n) {c : List SV} : Gr n fz mu ((n,c) :: mu) n (n + 1):=(Gr.refl hfr).cons (Nat.le_refl _) _
theorem gr2 {fz : Fz} {mu : St} {n : Nat} (hfr : Free fz mu n) {c d : List SV} : Gr n fz mu ((n + 1,d) :: (n,c) :: mu) n (n + 2):=(gr1 hfr).cons (Nat.le_succ _) _
theorem gr3 {fz : Fz} {mu : St} {n : Nat} (hfr : Free fz mu n) {c d e : List SV} : Gr n fz mu ((n + 2,e) :: (n + 1,d) :: (n,c) :: mu) n (n + 3):=(gr2 hfr).cons (by omega) _
variable {P : Program} (H : Fs P)
include H
theorem message_CloneEntry (e : Ent) (b : SV) (hb : e.batch.length ≤ 4398046511104) : Ctr P n_message_CloneEntry [.ag (entC e b)] (λM=>PtsR M b e.batch) (λn _ M v=>∃ b',v = .ag (entC e b') ∧ PtsX (From n M) b' e.batch):=Ctr.of H.mx H.message_CloneEntry (λ_=>0) λfz mu n k hfr s1 hk=>by
  obtain ⟨xl,xs,xk,xm⟩:=s1.len
  rw [i_message_CloneEntry,dc_at b_message_CloneEntry.eq_1]
  unfold entC
  simp only [↓E1,E2,Int.reduceEq,Int.reduceNe,Int.reduceLT,Int.reduceLE,Int.reduceNeg,Int.reduceAdd,Int.reduceSub,Int.reduceToNat,Nat.reduceEqDiff,Nat.reduceAdd,Nat.reduceMul,Nat.reduceSub,Nat.reduceLeDiff,Nat.reduceBEq,reduceIte,Nat.reduceLT,Nat.reduceBneDiff, *]
  obtain ⟨h1,h2⟩:=onSrc_Sl (Sl.mono s1 (sub2 hfr (c:=[I e.view,I e.client,I e.session,I e.number,b]) (d:=[I 0,I 0,I 0,I 0,.nsl])))
  rw [h1]
  refine ⟨h2,onApp_new (.inl rfl) (fits_le (by simp; omega) (by decide) (by decide)) pt_ok (λhe=>?_) (λhe=>?_)⟩
  · simp only [↓E1,E2,Int.reduceEq,Int.reduceNe,Int.reduceLT,Int.reduceLE,Int.reduceNeg,Int.reduceAdd,Int.reduceSub,Int.reduceToNat,Nat.reduceEqDiff,Nat.reduceAdd,Nat.reduceMul,Nat.reduceSub,Nat.reduceLeDiff,Nat.reduceBEq,reduceIte,Nat.reduceLT,Nat.reduceBneDiff, *]
    exact hk _ _ _ (gr2 hfr) ⟨.nsl,rfl,.inl ⟨.inl rfl,he⟩⟩
  · simp only [↓E1,E2,Int.reduceEq,Int.reduceNe,Int.reduceLT,Int.reduceLE,Int.reduceNeg,Int.reduceAdd,Int.reduceSub,Int.reduceToNat,Nat.reduceEqDiff,Nat.reduceAdd,Nat.reduceMul,Nat.reduceSub,Nat.reduceLeDiff,Nat.reduceBEq,reduceIte,Nat.reduceLT,Nat.reduceBneDiff, *]
    exact hk _ _ _ (gr3 hfr) ⟨_,rfl,SlX.mk_new (From.at (by omega) (by rw [with_c,if_pos rfl])) pt_ok⟩
end Go.Proofs.Ytnnjlnkoomeadaa.Pv
namespace Go.Proofs.Ytnnjlnkoomeadaa.Pv
open Go.Ev Go.Ev.Rp
set_option maxRecDepth 100000
set_option maxHeartbeats 4000000
set_option linter.unusedSimpArgs false
set_option linter.unusedVariables false
set_option linter.unusedSectionVars false
variable {P : Program} (H : Fs P)
include H
theorem CloneLog_step (l : Lg) (x : SV) {fz : Fz} {mu0 : St} {n0 lo : Nat} (hfr0 : Free fz mu0 n0) (s1 : EntsR (with' mu0 fz) x l.ents) (hL : l.ents.length ≤ 2513169434916) (hb : ∀ e ∈ l.ents, e.batch.length ≤ 4398046511104) (ob : Nat) (xe : SV) (i : Nat) (hi : i < l.ents.length) {fu : Nat} {e : Env} {mu : St} {n : Nat} {K : LK}
   (hfr : Free fz mu n) (hlo : n0 ≤ lo ∧ lo ≤ n) (g0 : Gr n0 fz mu0 mu n0 n) (b1 : Ev.look mu ob = some [I l.base,l.snap.sv,xe]) (hob : n0 ≤ ob ∧ ob < lo) (G : Grow lo (with' mu fz) 5 EntX xe (l.ents.take i)) (h3 : e 0 3 = .one (.optr ob 0)) (h12 : e 0 12 = .one x) (h13 : e 0 13 = .one (.int .i64 l.ents.length)) (h14 : e 0 14 = .one (.int .i64 i))
   (hK : ∀ e' mu' n' xe',Gr n0 fz mu0 mu' n0 n' → lo ≤ n' → Ev.look mu' ob = some [I l.base,l.snap.sv,xe'] → (∀ j,j < lo → j ≠ ob → Ev.look mu' j = Ev.look mu j) → Grow lo (with' mu' fz) 5 EntX xe' (l.ents.take (i + 1)) → e' 0 2 = e 0 2 → e' 0 3 = .one (.optr ob 0) → e' 0 12 = .one x → e' 0 13 = .one (.int .i64 l.ents.length) → e' 0 14 = .one (.int .i64 ((i + 1 : Nat) : Int)) → K .normal (tmE 27 e') mu' n') :
   dcode pOrc False (CP P) fz fu l_message_CloneLog_0 (tmE 27 e) mu n K:=by
  obtain ⟨id,off,cap,B,b,rfl,hB,hmk,hbd,hsub,s2⟩:=(EntsR.mono (λ_ _ hh=>g0.old hfr0 hh) s1).elem hi
  have hw:=wrap_succ hi (by omega)
  have b2:=look_with (fz:=fz) b1
  have hno : (n = ob) = False:=by simp; omega
  obtain ⟨yl,ys,yk,ym⟩:=s2.len
  obtain ⟨-,-,zk,zm⟩:=G.len
  have hE:=message_CloneEntry H l.ents[i] b (hb _ (List.getElem_mem hi))
  unfold entC at hsub hE
  rw [dc_at l_message_CloneLog_0.eq_1]
  simp only [↓E1,E2,Int.reduceEq,Int.reduceNe,Int.reduceLT,Int.reduceLE,Int.reduceNeg,Int.reduceAdd,Int.reduceSub,Int.reduceToNat,Nat.reduceEqDiff,Nat.reduceAdd,Nat.reduceMul,Nat.reduceSub,Nat.reduceLeDiff,Nat.reduceBEq,reduceIte,Nat.reduceLT,Nat.reduceBneDiff, *]
  refine hE.d3 hfr (λhm=>s2.mono hm) ?_
  rintro v new n2 g2 bx1 ⟨b',rfl,hb'⟩
  simp only [↓E1,E2,Int.reduceEq,Int.reduceNe,Int.reduceLT,Int.reduceLE,Int.reduceNeg,Int.reduceAdd,Int.reduceSub,Int.reduceToNat,Nat.reduceEqDiff,Nat.reduceAdd,Nat.reduceMul,Nat.reduceSub,Nat.reduceLeDiff,Nat.reduceBEq,reduceIte,Nat.reduceLT,Nat.reduceBneDiff, *]
  have yk':=(SlX.len hb').2.2.1
  have hli : (l.ents.take i).length = i:=by rw [List.length_take]; omega
  refine ⟨yk',yk',Grow.more (R:=EntX) (λh g=>EntX.mono h g) (a:=l.ents[i]) G hfr hlo.2 (λj hj=>hfr0.fz j (by omega)) (g2.cons g2.le _) ⟨b',rfl,PtsX.mono ((From.mono (sub1 g2.free)).trans (From.le (by omega))) hb'⟩ ⟨rfl,by simp only [↓E1,E2,Int.reduceEq,Int.reduceNe,Int.reduceLT,Int.reduceLE,Int.reduceNeg,Int.reduceAdd,Int.reduceSub,Int.reduceToNat,Nat.reduceEqDiff,Nat.reduceAdd,Nat.reduceMul,Nat.reduceSub,Nat.reduceLeDiff,Nat.reduceBEq,reduceIte,Nat.reduceLT,Nat.reduceBneDiff,yk']⟩ (by rw [hli]; exact fits_le (by omega) (by decide) (by decide)) (λmu3 g3 G3=>?_)⟩
  have b3 : Ev.look mu3 ob = some [I l.base,l.snap.sv,xe]:=by
    rw [g3.own ob hob.2]; exact b1
  rw [hli] at G3 ⊢
  simp only [↓E1,E2,Int.reduceEq,Int.reduceNe,Int.reduceLT,Int.reduceLE,Int.reduceNeg,Int.reduceAdd,Int.reduceSub,Int.reduceToNat,Nat.reduceEqDiff,Nat.reduceAdd,Nat.reduceMul,Nat.reduceSub,Nat.reduceLeDiff,Nat.reduceBEq,reduceIte,Nat.reduceLT,Nat.reduceBneDiff, *]
  refine hK _ _ _ _ ((g0.trans (g3.weaken hlo.1)).put hob.1 b3) (by have:=g2.le; omega) (by rw [look_putS,if_pos rfl,b3]; rfl) (λj hj hne=>by rw [look_putS,if_neg (by omega)]; exact g3.own j hj) (Grow.mono (R:=EntX) (λh g=>EntX.mono h g) ?_ (From.put hob.2 b3)) ?_ ?_ ?_ ?_ ?_
  · rw [List.take_add_one,List.getElem?_eq_getElem hi]; exact G3
  all_goals simp [updN,updE, *]
omit H in
theorem growEnts {lo : Nat} {M : Fz} {x : SV} {l : List Ent} (h : Grow lo M 5 EntX x l) : EntsX (From lo M) x l:=let ⟨cs,h1,h2⟩:=h; ⟨cs,h1,h2.imp λ_ _ g=>EntX.mono Ex.sub g⟩
theorem message_CloneLogG (l : Lg) (x : SV) (hL : l.ents.length ≤ 2513169434916) (hb : ∀ e ∈ l.ents,e.batch.length ≤ 4398046511104) : Ctr P n_message_CloneLog [.ag (lgC l x)] (λM=>EntsR M x l.ents) (λn _ M v=>∃ x',v = .ag (lgC l x') ∧ Grow n M 5 EntX x' l.ents):=Ctr.of H.mx H.message_CloneLog (λ_=>l.ents.length + 1) λfz mu n k hfr s1 hk=>by
  obtain ⟨xl,xs,xk,xm⟩:=s1.len
  rw [i_message_CloneLog,dc_at b_message_CloneLog.eq_1]
  unfold lgC
  simp only [↓E1,E2,Int.reduceEq,Int.reduceNe,Int.reduceLT,Int.reduceLE,Int.reduceNeg,Int.reduceAdd,Int.reduceSub,Int.reduceToNat,Nat.reduceEqDiff,Nat.reduceAdd,Nat.reduceMul,Nat.reduceSub,Nat.reduceLeDiff,Nat.reduceBEq,reduceIte,Nat.reduceLT,Nat.reduceBneDiff, *]
  refine loopI (x:=0) (L:=l.ents.length) (p:=λ_=>true) (λi e mu' n'=>∃ xe,Gr n fz mu mu' n n' ∧ n + 3 ≤ n' ∧ Ev.look mu' (n + 1) = some [I 0,.str 0 0,.nsl] ∧ Ev.look mu' (n + 1 + 1) = some [I l.base,l.snap.sv,xe] ∧ Grow (n + 3) (with' mu' fz) 5 EntX xe (l.ents.take i) ∧ e 0 2 = .one (.optr (n + 1) 0) ∧ e 0 3 = .one (.optr (n + 1 + 1) 0) ∧ e 0 12 = .one x ∧ e 0 13 = .one (.int .i64 l.ents.length) ∧ e 0 14 = .one (.int .i64 i)) (λ_ _ _=>False) ?_ ?_ _ _ _ _ _ (by omega) ?_ ?_ ?_
  · rintro i e mu1 n1 K hi ⟨xe,g1,c2,c1,c3,c4,c5,c6,c7,c8,c9⟩ hy hn
    exact CloneLog_step H l x hfr s1 hL hb (n + 1 + 1) xe i hi g1.free ⟨by omega,c2⟩ g1 c3 (by omega) c4 c6 c7 c8 c9 (λe' mu' n' xe' g' a0 a1 a2 a3 a4 a5 a6 a7 a8=>hy rfl _ _ _ ⟨xe',g',a0,(a2 _ (by omega) (by omega)).trans c1,a1,a3,a4.trans c5,a5,a6,a7,a8⟩)
  · rintro e mu1 n1 K ⟨xe,g1,c2,c1,c3,c4,c5,c6,c7,c8,c9⟩ hx
    rw [dc_at l_message_CloneLog_0.eq_1]
    have hlt : (l.ents.length < l.ents.length) = False:=by simp
    simp only [↓E1,E2,Int.reduceEq,Int.reduceNe,Int.reduceLT,Int.reduceLE,Int.reduceNeg,Int.reduceAdd,Int.reduceSub,Int.reduceToNat,Nat.reduceEqDiff,Nat.reduceAdd,Nat.reduceMul,Nat.reduceSub,Nat.reduceLeDiff,Nat.reduceBEq,reduceIte,Nat.reduceLT,Nat.reduceBneDiff, *]
    exact hx _ _ _ ⟨xe,g1,c2,c1,c3,c4,by simp [updN,updE,c5],by simp [updN,updE,c6],by simp [updN,updE,c7],by simp [updN,updE,c8],by simp [updN,updE,c9]⟩
  · exact ⟨.nsl,gr3 hfr,by omega,by simp [look_c],by simp [look_c],Grow.nil,by simp [updN,updE],by simp [updN,updE],by simp [updN,updE],by simp [updN,updE],by simp [updN,updE]⟩
  · rintro - e1 mu1 n1 ⟨xe,g1,c2,c1,c3,c4,c5,c6,c7,c8,c9⟩
    have b3:=look_with (fz:=fz) c3
    obtain ⟨-,-,zk,zm⟩:=c4.len
    simp only [↓E1,E2,Int.reduceEq,Int.reduceNe,Int.reduceLT,Int.reduceLE,Int.reduceNeg,Int.reduceAdd,Int.reduceSub,Int.reduceToNat,Nat.reduceEqDiff,Nat.reduceAdd,Nat.reduceMul,Nat.reduceSub,Nat.reduceLeDiff,Nat.reduceBEq,reduceIte,Nat.reduceLT,Nat.reduceBneDiff, *]
    have g2:=g1.put (id:=n + 1) (by omega) c1 (c:=[I l.base,l.snap.sv,xe])
    have e1 : with' (putS mu1 (n + 1) [I l.base,l.snap.sv,xe]) fz (n + 1) = some [I l.base,l.snap.sv,xe]:=by rw [with_putS c1,if_pos rfl]
    simp only [↓E1,E2,Int.reduceEq,Int.reduceNe,Int.reduceLT,Int.reduceLE,Int.reduceNeg,Int.reduceAdd,Int.reduceSub,Int.reduceToNat,Nat.reduceEqDiff,Nat.reduceAdd,Nat.reduceMul,Nat.reduceSub,Nat.reduceLeDiff,Nat.reduceBEq,reduceIte,Nat.reduceLT,Nat.reduceBneDiff, *]
    rw [List.take_length] at c4
    exact hk _ _ _ g2 ⟨xe,rfl,Grow.weaken (R:=EntX) (lo:=n + 3) (lo':=n) (λh g=>EntX.mono h g) (by omega) (Grow.mono (R:=EntX) (λh g=>EntX.mono h g) c4 (From.put (by omega) c1))⟩
  · rintro ⟨_,_,_,h⟩; cases h
theorem message_CloneLog (l : Lg) (x : SV) (hL : l.ents.length ≤ 2513169434916) (hb : ∀ e ∈ l.ents,e.batch.length ≤ 4398046511104) : Ctr P n_message_CloneLog [.ag (lgC l x)] (λM=>EntsR M x l.ents) (λn _ M v=>∃ x',v = .ag (lgC l x') ∧ EntsX (From n M) x' l.ents) :=
  (message_CloneLogG H l x hL hb).mono λ_ _ _ _ ⟨x',h1,h2⟩=>⟨x',h1,growEnts h2⟩
end Go.Proofs.Ytnnjlnkoomeadaa.Pv
namespace Go.Proofs.Ytnnjlnkoomeadaa.Pv
open Go.Ev Go.Ev.Rp
set_option maxRecDepth 100000
set_option maxHeartbeats 4000000
set_option linter.unusedSimpArgs false
set_option linter.unusedVariables false
set_option linter.unusedSectionVars false
theorem nil_Sl {M : Fz} {s : Nat} {x : SV} {es : List (List SV)} (h : Sl M s x es) : ∃ b,nilness true x = some b ∧ (b = true → x = .nsl ∧ es = []):=by
  rcases h with ⟨h,rfl⟩ | ⟨id,off,cap,B,rfl,_⟩
  · rcases h with rfl | rfl | rfl
    · exact ⟨true,rfl,λ_=>⟨rfl,rfl⟩⟩
    · exact ⟨false,rfl,λh=>by cases h⟩
    · exact ⟨false,rfl,λh=>by cases h⟩
  · exact ⟨false,rfl,λh=>by cases h⟩
variable {P : Program} (H : Fs P)
include H
theorem slices_Clone_ints (x : SV) (l : List Int) (hl : l.length ≤ 17592186044415) : Ctr P n_slices_Clone_int_int [.one x] (λM=>IntsR M x l) (λn _ M v=>∃ x',v = .one x' ∧ IntsX (From n M) x' l):=Ctr.of H.mx H.slices_Clone_int_int (λ_=>0) λfz mu n k hfr s1 hk=>by
  obtain ⟨xl,xs,xk,xm⟩:=s1.len
  obtain ⟨b,hb1,hb2⟩:=nil_Sl s1
  rw [i_slices_Clone_int_int,dc_at b_slices_Clone_int_int.eq_1]
  simp only [↓E1,E2,Int.reduceEq,Int.reduceNe,Int.reduceLT,Int.reduceLE,Int.reduceNeg,Int.reduceAdd,Int.reduceSub,Int.reduceToNat,Nat.reduceEqDiff,Nat.reduceAdd,Nat.reduceMul,Nat.reduceSub,Nat.reduceLeDiff,Nat.reduceBEq,reduceIte,Nat.reduceLT,Nat.reduceBneDiff, *]
  cases b with
  | true =>
    obtain ⟨-,he⟩:=hb2 rfl
    simp only [↓E1,E2,Int.reduceEq,Int.reduceNe,Int.reduceLT,Int.reduceLE,Int.reduceNeg,Int.reduceAdd,Int.reduceSub,Int.reduceToNat,Nat.reduceEqDiff,Nat.reduceAdd,Nat.reduceMul,Nat.reduceSub,Nat.reduceLeDiff,Nat.reduceBEq,reduceIte,Nat.reduceLT,Nat.reduceBneDiff, *]
    exact hk _ _ _ (Gr.refl hfr) ⟨.nsl,rfl,.inl ⟨.inl rfl,he⟩⟩
  | false =>
    clear hb2
    simp only [↓E1,E2,Int.reduceEq,Int.reduceNe,Int.reduceLT,Int.reduceLE,Int.reduceNeg,Int.reduceAdd,Int.reduceSub,Int.reduceToNat,Nat.reduceEqDiff,Nat.reduceAdd,Nat.reduceMul,Nat.reduceSub,Nat.reduceLeDiff,Nat.reduceBEq,reduceIte,Nat.reduceLT,Nat.reduceBneDiff, *]
    obtain ⟨h1,h2⟩:=onSrc_Sl (Sl.mono s1 (sub1 hfr (c:=[])))
    rw [h1]; clear h1
    refine ⟨h2,app_empty hfr (fits_le (by simp; omega) (by decide) (by decide)) int_ok (λx' mu' n' g hx=>?_)⟩
    simp only [↓E1,E2,Int.reduceEq,Int.reduceNe,Int.reduceLT,Int.reduceLE,Int.reduceNeg,Int.reduceAdd,Int.reduceSub,Int.reduceToNat,Nat.reduceEqDiff,Nat.reduceAdd,Nat.reduceMul,Nat.reduceSub,Nat.reduceLeDiff,Nat.reduceBEq,reduceIte,Nat.reduceLT,Nat.reduceBneDiff]
    exact hk _ _ _ g ⟨x',rfl,hx⟩
theorem slices_Clone_dos (x : SV) (cs : List (List SV)) (hl : cs.length ≤ 1954687338267) : Ctr P n_slices_Clone_api_Do_api_Do [.one x] (λM=>Sl M 6 x cs) (λn _ M v=>∃ x',v = .one x' ∧ SlX (From n M) 6 x' cs):=Ctr.of H.mx H.slices_Clone_api_Do_api_Do (λ_=>0) λfz mu n k hfr s1 hk=>by
  obtain ⟨b,hb1,hb2⟩:=nil_Sl s1
  have hcs : ∀ e ∈ cs,e.length = 6 ∧ knownAll e = true:=by
    rcases s1 with ⟨_,rfl⟩ | ⟨_,_,_,_,_,_,_,_,_,_,h⟩
    · intro e he; cases he
    · exact h
  rw [i_slices_Clone_api_Do_api_Do,dc_at b_slices_Clone_api_Do_api_Do.eq_1]
  simp only [↓E1,E2,Int.reduceEq,Int.reduceNe,Int.reduceLT,Int.reduceLE,Int.reduceNeg,Int.reduceAdd,Int.reduceSub,Int.reduceToNat,Nat.reduceEqDiff,Nat.reduceAdd,Nat.reduceMul,Nat.reduceSub,Nat.reduceLeDiff,Nat.reduceBEq,reduceIte,Nat.reduceLT,Nat.reduceBneDiff, *]
  cases b with
  | true =>
    obtain ⟨-,he⟩:=hb2 rfl
    simp only [↓E1,E2,Int.reduceEq,Int.reduceNe,Int.reduceLT,Int.reduceLE,Int.reduceNeg,Int.reduceAdd,Int.reduceSub,Int.reduceToNat,Nat.reduceEqDiff,Nat.reduceAdd,Nat.reduceMul,Nat.reduceSub,Nat.reduceLeDiff,Nat.reduceBEq,reduceIte,Nat.reduceLT,Nat.reduceBneDiff, *]
    exact hk _ _ _ (Gr.refl hfr) ⟨.nsl,rfl,.inl ⟨.inl rfl,he⟩⟩
  | false =>
    clear hb2
    simp only [↓E1,E2,Int.reduceEq,Int.reduceNe,Int.reduceLT,Int.reduceLE,Int.reduceNeg,Int.reduceAdd,Int.reduceSub,Int.reduceToNat,Nat.reduceEqDiff,Nat.reduceAdd,Nat.reduceMul,Nat.reduceSub,Nat.reduceLeDiff,Nat.reduceBEq,reduceIte,Nat.reduceLT,Nat.reduceBneDiff, *]
    obtain ⟨h1,h2⟩:=onSrc_Sl (Sl.mono s1 (sub1 hfr (c:=[])))
    rw [h1]; clear h1
    refine ⟨h2,app_empty hfr (fits_le (by omega) (by decide) (by decide)) hcs (λx' mu' n' g hx=>?_)⟩
    simp only [↓E1,E2,Int.reduceEq,Int.reduceNe,Int.reduceLT,Int.reduceLE,Int.reduceNeg,Int.reduceAdd,Int.reduceSub,Int.reduceToNat,Nat.reduceEqDiff,Nat.reduceAdd,Nat.reduceMul,Nat.reduceSub,Nat.reduceLeDiff,Nat.reduceBEq,reduceIte,Nat.reduceLT,Nat.reduceBneDiff]
    exact hk _ _ _ g ⟨x',rfl,hx⟩
end Go.Proofs.Ytnnjlnkoomeadaa.Pv
namespace Go.Proofs.Ytnnjlnkoomeadaa.Pv
open Go.Ev Go.Ev.Rp
set_option maxRecDepth 100000
set_option maxHeartbeats 4000000
set_option linter.unusedSimpArgs false
set_option linter.unusedVariables false
set_option linter.unusedSectionVars false
structure LgSz (l : Lg) : Prop where
  ents : l.ents.length ≤ 2513169434916
  bat : ∀ e ∈ l.ents,e.batch.length ≤ 4398046511104
structure RepSz (r : Rep) : Prop where
  log : LgSz r.log
  acks : r.acks.length ≤ 17592186044415
  starts : r.starts.length ≤ 17592186044415
  dos : r.dos.length ≤ 1954687338267
  dlog : ∀ d ∈ r.dos,LgSz d.log
structure RepT (o : Nat → Nat) (M : Fz) (r : Rep) (xe xa xs xd : SV) : Prop where
  ents : ∃ cs,SlX (Tag o 1 M) 5 xe cs ∧ All2 (EntX (Tag o 2 M)) cs r.log.ents
  acks : IntsX (Tag o 3 M) xa r.acks
  starts : IntsX (Tag o 4 M) xs r.starts
  dos : ∃ cs,SlX (Tag o 5 M) 6 xd cs ∧ All2 (DvX (Tag o 6 M)) cs r.dos
def RestT (o : Nat → Nat) (M : Fz) (r : Rep) (xe xa xs : SV) : Prop:=(∃ cs,SlX (Tag o 1 M) 5 xe cs ∧ All2 (EntX (Tag o 2 M)) cs r.log.ents) ∧ IntsX (Tag o 3 M) xa r.acks ∧ IntsX (Tag o 4 M) xs r.starts
theorem RestT.mono {o o' : Nat → Nat} {M M' : Fz} (h : ∀ t,1 ≤ t → t ≤ 4 → Sub (Tag o t M) (Tag o' t M')) {r : Rep} {xe xa xs : SV} (g : RestT o M r xe xa xs) : RestT o' M' r xe xa xs:=by
  obtain ⟨⟨cs,h1,h2⟩,h3,h4⟩:=g
  exact ⟨⟨cs,h1.mono (h 1 (by omega) (by omega)),h2.imp λc a g=>EntX.mono (h 2 (by omega) (by omega)) g⟩,IntsX.mono (h 3 (by omega) (by omega)) h3,IntsX.mono (h 4 (by omega) (by omega)) h4⟩
def MixD (o : Nat → Nat) (M0 M : Fz) (l : List Dv) (i : Nat) (xd : SV) : Prop:=∃ cs,SlX (Tag o 5 M) 6 xd cs ∧ cs.length = l.length ∧ ∀ j (h1 : j < cs.length) (h2 : j < l.length),if j < i then DvX (Tag o 6 M) cs[j] l[j] else DvR M0 cs[j] l[j]
theorem MixD.mono {o o' : Nat → Nat} {M0 M M' : Fz} (h : ∀ t,5 ≤ t → t ≤ 6 → Sub (Tag o t M) (Tag o' t M')) {l : List Dv} {i : Nat} {xd : SV} (g : MixD o M0 M l i xd) : MixD o' M0 M' l i xd:=by
  obtain ⟨cs,h1,h2,h3⟩:=g
  refine ⟨cs,h1.mono (h 5 (by omega) (by omega)),h2,λj g1 g2=>?_⟩
  have:=h3 j g1 g2
  split
  · rename_i hj; rw [if_pos hj] at this; exact DvX.mono (h 6 (by omega) (by omega)) this
  · rename_i hj; rw [if_neg hj] at this; exact this
variable {P : Program} (H : Fs P)
include H
theorem Clone_step (r : Rep) (hz : RepSz r) (xe xa xs xd : SV) {fz : Fz} {mu0 : St} {n0 : Nat} (hfr0 : Free fz mu0 n0) (rb : Nat) (i : Nat) (hi : i < r.dos.length) {fu : Nat} {e : Env} {mu : St} {n : Nat} {K : LK} {o : Nat → Nat}
    (hfr : Free fz mu n) (g0 : Gr n0 fz mu0 mu n0 n) (b1 : Ev.look mu rb = some (repC r xe xa xs xd)) (hrb : n0 ≤ rb ∧ o rb = 0) (ho : ∀ j,j < n0 → o j = 0) (hD : MixD o (with' mu0 fz) (with' mu fz) r.dos i xd)
    (h1 : e 0 1 = .one (.optr rb 0)) (h6 : e 1 6 = .one (.int .i64 r.dos.length)) (h7 : e 1 7 = .one (.int .i64 i))
    (hK : ∀ e' mu' n' o',Gr n0 fz mu0 mu' n0 n' → (∀ j,o j = 0 → j < n → Ev.look mu' j = Ev.look mu j ∧ o' j = 0) → (∀ t,1 ≤ t → t ≤ 4 → Sub (Tag o t (with' mu fz)) (Tag o' t (with' mu' fz))) → MixD o' (with' mu0 fz) (with' mu' fz) r.dos (i + 1) xd → e' 0 1 = .one (.optr rb 0) → e' 0 2 = e 0 2 → e' 1 6 = .one (.int .i64 r.dos.length) → e' 1 7 = .one (.int .i64 ((i + 1 : Nat) : Int)) → K .normal (tmE 40 e') mu' n') :
    dcode pOrc False (CP P) fz fu l_replica_Clone_0 (tmE 40 e) mu n K:=by
  obtain ⟨cs,hx,hl,hall⟩:=hD
  have hw:=wrap_succ hi (by have:=hz.dos; omega)
  have hci:=hall i (by omega) hi
  rw [if_neg (by omega)] at hci
  obtain ⟨x,hc,s1⟩:=hci
  have b2:=look_with (fz:=fz) b1
  rcases hx with ⟨_,rfl⟩ | ⟨id,rfl,hM,hmk,hes⟩
  · simp at hl; omega
  obtain ⟨hot,hM'⟩:=Tag.el hM
  have hlen : ∀ e ∈ cs,e.length = 6:=λe he=>(hes e he).1
  have hfl:=flat_length hlen
  have hld:=flat_sub (i:=i) (k:=3) (m:=3) hlen (by omega) (by omega)
  rw [hc] at hld
  have hbd : i * 6 + 3 + 3 ≤ cs.flatten.length:=by rw [hfl]; omega
  have hE:=message_CloneLogG H r.dos[i].log x (hz.dlog _ (List.getElem_mem hi)).ents (hz.dlog _ (List.getElem_mem hi)).bat
  have hli : i < cs.length:=by omega
  unfold lgC at hE
  unfold repC at b1 b2
  unfold dvC at hld
  rw [dc_at l_replica_Clone_0.eq_1]
  have hbd' : i * 6 + 3 + 3 ≤ r.dos.length * 6:=by omega
  simp only [↓E1,E2,Int.reduceEq,Int.reduceNe,Int.reduceLT,Int.reduceLE,Int.reduceNeg,Int.reduceAdd,Int.reduceSub,Int.reduceToNat,Nat.reduceEqDiff,Nat.reduceAdd,Nat.reduceMul,Nat.reduceSub,Nat.reduceLeDiff,Nat.reduceBEq,reduceIte,Nat.reduceLT,Nat.reduceBneDiff, *,List.append_assoc]
  refine hE.d4 hfr (EntsR.mono (g0.sub hfr0 (Nat.le_refl _)) s1) ?_
  rintro v new n2 g2 i2 ⟨x',rfl,hG⟩
  have hidn:=hfr.lt hM'
  have hid : Ev.look (new ++ mu) id = some cs.flatten:=by
    rw [g2.own id hidn]
    have h0 : n0 ≤ id:=by
      rcases Nat.lt_or_ge id n0 with h | h
      · have:=ho id h; omega
      · exact h
    rw [← hM',with_look (hfr0.fz _ h0)]
  obtain ⟨-,-,zk,zm⟩:=hG.len
  have hov:=flat_over (es:=cs) (i:=i) (k:=3) (vs:=[I r.dos[i].log.base,r.dos[i].log.snap.sv,x']) hlen (by omega) (by simp)
  simp only [↓E1,E2,Int.reduceEq,Int.reduceNe,Int.reduceLT,Int.reduceLE,Int.reduceNeg,Int.reduceAdd,Int.reduceSub,Int.reduceToNat,Nat.reduceEqDiff,Nat.reduceAdd,Nat.reduceMul,Nat.reduceSub,Nat.reduceLeDiff,Nat.reduceBEq,reduceIte,Nat.reduceLT,Nat.reduceBneDiff, *,List.append_assoc]
  have h0 : n0 ≤ id:=by
    rcases Nat.lt_or_ge id n0 with h | h
    · have:=ho id h; omega
    · exact h
  have hot' : tagN o n (λ_=>6) id = 5:=by rw [tagN_lt hidn]; exact hot
  have hd : over (dvC r.dos[i] x) 3 [I r.dos[i].log.base,r.dos[i].log.snap.sv,x'] = dvC r.dos[i] x':=rfl
  rw [hd]
  have hcs' : ∀ e ∈ cs.set i (dvC r.dos[i] x'),e.length = 6 ∧ knownAll e = true:=by
    intro e he
    rcases List.mem_or_eq_of_mem_set he with he | rfl
    · exact hes e he
    · exact ⟨rfl,by unfold dvC; simp only [↓E1,E2,Int.reduceEq,Int.reduceNe,Int.reduceLT,Int.reduceLE,Int.reduceNeg,Int.reduceAdd,Int.reduceSub,Int.reduceToNat,Nat.reduceEqDiff,Nat.reduceAdd,Nat.reduceMul,Nat.reduceSub,Nat.reduceLeDiff,Nat.reduceBEq,reduceIte,Nat.reduceLT,Nat.reduceBneDiff,zk]⟩
  have hs : ∀ t,t ≠ 5 → Sub (Tag o t (with' mu fz)) (Tag (tagN o n (λ_=>6)) t (with' (putS (new ++ mu) id (cs.set i (dvC r.dos[i] x')).flatten) fz)):=λt ht =>
    (Tag.old hfr (g2.sub hfr (Nat.le_refl _))).trans (Tag.put (lookI hid) (by omega))
  refine hK _ _ _ (tagN o n λ_=>6) ((g0.trans (g2.weaken g0.le)).put h0 hid) (λj hj hjn=>⟨?_,by rw [tagN_lt hjn]; exact hj⟩) (λt h1 h2=>hs t (by omega)) ⟨_,.inr ⟨id,?_,?_,mkd_known (knownAll_flat hcs'),hcs'⟩,by simpa using hl,λj g1 g3=>?_⟩ ?_ ?_ ?_ ?_
  · rw [look_putS,if_neg (by rintro rfl; omega),g2.own j hjn]
  · rw [List.length_set,hl]
  · exact Tag.at hot' (by rw [with_putS hid,if_pos rfl])
  · rw [List.getElem_set]
    by_cases hij : i = j
    · subst hij
      rw [if_pos rfl,if_pos (by omega)]
      exact ⟨x',rfl,EntsX.mono ((Tag.new (λ_ _=>rfl)).trans (Tag.put (lookI hid) (by omega))) (growEnts hG)⟩
    · rw [if_neg hij]
      have:=hall j (by simpa using g1) g3
      by_cases hj : j < i
      · rw [if_pos hj] at this
        rw [if_pos (by omega)]
        exact DvX.mono (hs 6 (by omega)) this
      · rw [if_neg hj] at this
        rw [if_neg (by omega)]
        exact this
  all_goals simp [updN,updE, *]
theorem replica_Clone (r : Rep) (xe xa xs xd : SV) (hz : RepSz r) : Ctr P n_replica_Clone [.ag (repC r xe xa xs xd)] (λM=>RepS M r xe xa xs xd) (λn _ M v=>∃ xe' xa' xs' xd' o,v = .ag (repC r xe' xa' xs' xd') ∧ (∀ j,j < n → o j = 0) ∧ RepT o M r xe' xa' xs' xd'):=Ctr.of H.mx H.replica_Clone (λ_=>r.dos.length + 1) λfz mu n k hfr s hk=>by
  obtain ⟨s1,s2,s3,s4⟩:=s
  obtain ⟨xel,xes,xek,xem⟩:=s1.len
  obtain ⟨xal,xas,xak,xam⟩:=s2.len
  obtain ⟨xsl,xss,xsk,xsm⟩:=s3.len
  obtain ⟨xdl,xds,xdk,xdm⟩:=s4.len
  have hE:=message_CloneLogG H r.log xe hz.log.ents hz.log.bat
  unfold lgC at hE
  rw [i_replica_Clone,dc_at b_replica_Clone.eq_1]
  unfold repC
  simp only [↓E1,E2,Int.reduceEq,Int.reduceNe,Int.reduceLT,Int.reduceLE,Int.reduceNeg,Int.reduceAdd,Int.reduceSub,Int.reduceToNat,Nat.reduceEqDiff,Nat.reduceAdd,Nat.reduceMul,Nat.reduceSub,Nat.reduceLeDiff,Nat.reduceBEq,reduceIte,Nat.reduceLT,Nat.reduceBneDiff, *]
  refine hE.c1 (gr2 hfr).free (EntsR.mono (sub2 hfr) s1) ?_
  rintro v mu1 n1 g1 ⟨xe',rfl,hG⟩
  have ga:=(gr2 hfr).trans (g1.weaken (by omega))
  have b1:=(g1.own n (by omega)).trans (by rw [look_c,if_neg (by omega),look_c,if_pos rfl])
  have b2:=(g1.own (n + 1) (by omega)).trans (by rw [look_c,if_pos rfl])
  obtain ⟨-,-,zek,zem⟩:=hG.len
  have gb:=ga.put (Nat.le_refl _) b1 (c:=repC r xe' xa xs xd)
  unfold repC at gb
  simp only [↓E1,E2,Int.reduceEq,Int.reduceNe,Int.reduceLT,Int.reduceLE,Int.reduceNeg,Int.reduceAdd,Int.reduceSub,Int.reduceToNat,Nat.reduceEqDiff,Nat.reduceAdd,Nat.reduceMul,Nat.reduceSub,Nat.reduceLeDiff,Nat.reduceBEq,reduceIte,Nat.reduceLT,Nat.reduceBneDiff, *,with_putI,look_putS,Option.isSome_some,Option.map_some,List.append_assoc]
  refine (slices_Clone_ints H xa r.acks hz.acks).d4 gb.free (IntsR.mono (gb.sub hfr (Nat.le_refl _)) s2) ?_
  rintro v newa na g2 ia ⟨xa',rfl,hxa⟩
  have gc:=gb.trans (g2.weaken (gb.le))
  obtain ⟨-,-,zak,zam⟩:=SlX.len hxa
  simp only [↓E1,E2,Int.reduceEq,Int.reduceNe,Int.reduceLT,Int.reduceLE,Int.reduceNeg,Int.reduceAdd,Int.reduceSub,Int.reduceToNat,Nat.reduceEqDiff,Nat.reduceAdd,Nat.reduceMul,Nat.reduceSub,Nat.reduceLeDiff,Nat.reduceBEq,reduceIte,Nat.reduceLT,Nat.reduceBneDiff, *,with_putI,look_putS,Option.isSome_some,Option.map_some,List.append_assoc]
  refine (slices_Clone_ints H xs r.starts hz.starts).d4 gc.free (IntsR.mono (gc.sub hfr (Nat.le_refl _)) s3) ?_
  rintro v newb nb g3 ib ⟨xs',rfl,hxs⟩
  have gd:=gc.trans (g3.weaken (gc.le))
  obtain ⟨-,-,zsk,zsm⟩:=SlX.len hxs
  simp only [↓E1,E2,Int.reduceEq,Int.reduceNe,Int.reduceLT,Int.reduceLE,Int.reduceNeg,Int.reduceAdd,Int.reduceSub,Int.reduceToNat,Nat.reduceEqDiff,Nat.reduceAdd,Nat.reduceMul,Nat.reduceSub,Nat.reduceLeDiff,Nat.reduceBEq,reduceIte,Nat.reduceLT,Nat.reduceBneDiff, *,with_putI,look_putS,Option.isSome_some,Option.map_some,List.append_assoc]
  obtain ⟨ds,s5,hds⟩:=s4
  have hdl:=hds.length
  refine (slices_Clone_dos H xd ds (by rw [hdl]; exact hz.dos)).d4 gd.free (Sl.mono s5 (gd.sub hfr (Nat.le_refl _))) ?_
  rintro v newc nc g4 ic ⟨xd',rfl,hxd⟩
  have ge:=gd.trans (g4.weaken (gd.le))
  obtain ⟨zdl,zds,zdk,zdm⟩:=SlX.len hxd
  simp only [↓E1,E2,Int.reduceEq,Int.reduceNe,Int.reduceLT,Int.reduceLE,Int.reduceNeg,Int.reduceAdd,Int.reduceSub,Int.reduceToNat,Nat.reduceEqDiff,Nat.reduceAdd,Nat.reduceMul,Nat.reduceSub,Nat.reduceLeDiff,Nat.reduceBEq,reduceIte,Nat.reduceLT,Nat.reduceBneDiff, *,with_putI,look_putS,Option.isSome_some,Option.map_some,List.append_assoc]
  have hp : ∀ id,Ev.look (newa ++ (newc ++ (newb ++ putS mu1 n [I r.me,I r.nodes,I r.view,I r.normal,I r.status,I r.commit,.bool r.sent,I r.log.base,r.log.snap.sv,xe',xa,xs,xd]))) id = Ev.look (newc ++ (newb ++ (newa ++ putS mu1 n [I r.me,I r.nodes,I r.view,I r.normal,I r.status,I r.commit,.bool r.sent,I r.log.base,r.log.snap.sv,xe',xa,xs,xd]))) id:=λid =>
    (look_swap (λh=>ia.apart ic (by have:=g3.le; omega) h)).trans (look_under (look_swap (λh=>ia.apart ib (.inl (Nat.le_refl _)) h)))
  have gf:=ge.congr hp
  have l1:=g1.le
  have l2:=g2.le
  have l3:=g3.le
  have l4:=g4.le
  have c1 : Ev.look (newa ++ (newc ++ (newb ++ putS mu1 n [I r.me,I r.nodes,I r.view,I r.normal,I r.status,I r.commit,.bool r.sent,I r.log.base,r.log.snap.sv,xe',xa,xs,xd]))) n = some [I r.me,I r.nodes,I r.view,I r.normal,I r.status,I r.commit,.bool r.sent,I r.log.base,r.log.snap.sv,xe',xa,xs,xd]:=by
    rw [hp,g4.own n (by omega),g3.own n (by omega),g2.own n (by omega),look_putS,if_pos rfl,b1]; rfl
  have c2 : Ev.look (newa ++ (newc ++ (newb ++ putS mu1 n [I r.me,I r.nodes,I r.view,I r.normal,I r.status,I r.commit,.bool r.sent,I r.log.base,r.log.snap.sv,xe',xa,xs,xd]))) (n + 1) = some [I 0,I 0,I 0,I 0,I 0,I 0,.bool false,I 0,.str 0 0,.nsl,.nsl,.nsl,.nsl]:=by
    rw [hp,g4.own (n + 1) (by omega),g3.own (n + 1) (by omega),g2.own (n + 1) (by omega),look_putS,if_neg (by omega),b2]
  have hM:=with_fun (fz:=fz) hp
  -- the tags
  obtain ⟨o1,ho1⟩ : ∃ o,o = tagN (λ_=>0) (n + 2) (splitT xe' 1 2):=⟨_,rfl⟩
  have t1 : ∀ j,j < n + 2 → o1 j = 0:=λj hj=>by rw [ho1,tagN_lt hj]
  have f1:=Grow.tag (R:=EntX) (λh g=>EntX.mono h g) hG (o:=λ_=>0) (a:=1) (b:=2)
  rw [← ho1] at f1
  have u1 : ∀ t,t ≠ 0 → Sub (Tag o1 t (with' mu1 fz)) (Tag o1 t (with' (putS mu1 n [I r.me,I r.nodes,I r.view,I r.normal,I r.status,I r.commit,.bool r.sent,I r.log.base,r.log.snap.sv,xe',xa,xs,xd]) fz)):=λt ht=>Tag.put (lookI b1) (by rw [t1 n (by omega)]; omega)
  have u2 : ∀ t,Sub (Tag o1 t _) (Tag (tagN o1 n1 λ_=>3) t _):=λt=>Tag.old (τ:=λ_=>3) gb.free (g2.sub gb.free (Nat.le_refl _))
  have u3 : ∀ t,Sub (Tag (tagN o1 n1 λ_=>3) t _) (Tag (tagN (tagN o1 n1 λ_=>3) na λ_=>4) t _):=λt=>Tag.old (τ:=λ_=>4) gc.free (g3.sub gc.free (Nat.le_refl _))
  have u4 : ∀ t,Sub (Tag (tagN (tagN o1 n1 λ_=>3) na λ_=>4) t _) (Tag (tagN (tagN (tagN o1 n1 λ_=>3) na λ_=>4) nb λ_=>5) t _):=λt=>Tag.old (τ:=λ_=>5) gd.free (g4.sub gd.free (Nat.le_refl _))
  have v2:=IntsX.mono (Tag.new (o:=o1) (τ:=λ_=>3) (λ_ _=>rfl)) hxa
  have v3:=IntsX.mono (Tag.new (o:=tagN o1 n1 λ_=>3) (τ:=λ_=>4) (λ_ _=>rfl)) hxs
  have v4:=SlX.mono hxd (Tag.new (o:=tagN (tagN o1 n1 λ_=>3) na λ_=>4) (τ:=λ_=>5) (λ_ _=>rfl))
  obtain ⟨o4,ho4⟩ : ∃ o,o = tagN (tagN (tagN o1 n1 λ_=>3) na λ_=>4) nb λ_=>5:=⟨_,rfl⟩
  have t4 : ∀ j,j < n + 2 → o4 j = 0:=λj hj=>by rw [ho4,tagN_lt (by omega),tagN_lt (by omega),tagN_lt (by omega)]; exact t1 j hj
  rw [← ho4,← hM] at u4 v4
  have w1 : RestT o4 (with' (newa ++ (newc ++ (newb ++ putS mu1 n [I r.me,I r.nodes,I r.view,I r.normal,I r.status,I r.commit,.bool r.sent,I r.log.base,r.log.snap.sv,xe',xa,xs,xd]))) fz) r xe' xa' xs':=by
    obtain ⟨cs,f2,f3⟩:=f1
    refine ⟨⟨cs,f2.mono ((((u1 1 (by omega)).trans (u2 1)).trans (u3 1)).trans (u4 1)),f3.imp λc a g=>EntX.mono ((((u1 2 (by omega)).trans (u2 2)).trans (u3 2)).trans (u4 2)) g⟩,IntsX.mono ((u3 3).trans (u4 3)) v2,IntsX.mono (u4 4) v3⟩
  have w2 : MixD o4 (with' mu fz) (with' (newa ++ (newc ++ (newb ++ putS mu1 n [I r.me,I r.nodes,I r.view,I r.normal,I r.status,I r.commit,.bool r.sent,I r.log.base,r.log.snap.sv,xe',xa,xs,xd]))) fz) r.dos 0 xd' :=
    ⟨ds,v4,hdl,λj h1 h2=>by rw [if_neg (by omega)]; exact hds.at h1 h2⟩
  clear hp f1 u1 u2 u3 u4 v2 v3 v4 hxa hxs ia ib ic hM ga gb gc gd ge g1 g2 g3 g4 hG hE ho1 ho4
  generalize newa ++ (newc ++ (newb ++ putS mu1 n [I r.me,I r.nodes,I r.view,I r.normal,I r.status,I r.commit,.bool r.sent,I r.log.base,r.log.snap.sv,xe',xa,xs,xd])) = mup at *
  have c3:=look_with (fz:=fz) c1
  simp only [↓E1,E2,Int.reduceEq,Int.reduceNe,Int.reduceLT,Int.reduceLE,Int.reduceNeg,Int.reduceAdd,Int.reduceSub,Int.reduceToNat,Nat.reduceEqDiff,Nat.reduceAdd,Nat.reduceMul,Nat.reduceSub,Nat.reduceLeDiff,Nat.reduceBEq,reduceIte,Nat.reduceLT,Nat.reduceBneDiff, *,with_putI,look_putS,putS_putS,Option.isSome_some,Option.map_some,List.append_assoc]
  refine loopI (x:=0) (L:=r.dos.length) (p:=λ_=>true) (λi e mu' n'=>∃ o,Gr n fz mu mu' n n' ∧ n + 2 ≤ n' ∧ (∀ j,j < n + 2 → o j = 0) ∧ Ev.look mu' n = some (repC r xe' xa' xs' xd') ∧ Ev.look mu' (n + 1) = some [I 0,I 0,I 0,I 0,I 0,I 0,.bool false,I 0,.str 0 0,.nsl,.nsl,.nsl,.nsl] ∧ RestT o (with' mu' fz) r xe' xa' xs' ∧ MixD o (with' mu fz) (with' mu' fz) r.dos i xd' ∧ e 0 1 = .one (.optr n 0) ∧ e 0 2 = .one (.optr (n + 1) 0) ∧ e 1 6 = .one (.int .i64 r.dos.length) ∧ e 1 7 = .one (.int .i64 i)) (λ_ _ _=>False) ?_ ?_ _ _ _ _ _ (by omega) ?_ ?_ ?_
  · rintro i e mu1 n1 K hi ⟨o,g1,a0,a1,a2,a3,a4,a5,a6,a7,a8,a9⟩ hy hn
    refine Clone_step H r hz xe' xa' xs' xd' hfr n i hi g1.free g1 a2 ⟨Nat.le_refl _,a1 n (by omega)⟩ (λj hj=>a1 j (by omega)) a5 a6 a8 a9 (λe' mu' n' o' g' k1 k2 k3 k4 k5 k6 k7=>hy rfl _ _ _ ⟨o',g',?_,λj hj=>(k1 j (a1 j hj) (by omega)).2,?_,?_,RestT.mono k2 a4,k3,k4,k5.trans a7,k6,k7⟩)
    · have:=g'.free.lt (look_with (fz:=fz) ((k1 (n + 1) (a1 _ (by omega)) (by omega)).1.trans a3)); omega
    · exact (k1 n (a1 _ (by omega)) (by omega)).1.trans a2
    · exact (k1 (n + 1) (a1 _ (by omega)) (by omega)).1.trans a3
  · rintro e mu1 n1 K ⟨o,g1,a0,a1,a2,a3,a4,a5,a6,a7,a8,a9⟩ hx
    rw [dc_at l_replica_Clone_0.eq_1]
    have hlt : (r.dos.length < r.dos.length) = False:=by simp
    simp only [↓E1,E2,Int.reduceEq,Int.reduceNe,Int.reduceLT,Int.reduceLE,Int.reduceNeg,Int.reduceAdd,Int.reduceSub,Int.reduceToNat,Nat.reduceEqDiff,Nat.reduceAdd,Nat.reduceMul,Nat.reduceSub,Nat.reduceLeDiff,Nat.reduceBEq,reduceIte,Nat.reduceLT,Nat.reduceBneDiff, *]
    exact hx _ _ _ ⟨o,g1,a0,a1,a2,a3,a4,a5,by simp [updN,updE,a6],by simp [updN,updE,a7],by simp [updN,updE,a8],by simp [updN,updE,a9]⟩
  · refine ⟨o4,gf.put (Nat.le_refl _) c1,by omega,t4,by rw [look_putS,if_pos rfl,c1]; rfl,by rw [look_putS,if_neg (by omega),c2],RestT.mono (λt h1 h2=>Tag.put (lookI c1) (by rw [t4 n (by omega)]; omega)) w1,MixD.mono (λt h1 h2=>Tag.put (lookI c1) (by rw [t4 n (by omega)]; omega)) w2,by simp [updN,updE],by simp [updN,updE],by simp [updN,updE],by simp [updN,updE]⟩
  · rintro - e1 mu1 n1 ⟨o,g1,a0,a1,a2,a3,a4,a5,a6,a7,a8,a9⟩
    have b3:=look_with (fz:=fz) a2
    obtain ⟨cs,p1,p2,p3⟩:=a5
    obtain ⟨-,-,ydk,ydm⟩:=p1.len
    obtain ⟨⟨es,q1,q2⟩,q3,q4⟩:=a4
    obtain ⟨-,-,yek,yem⟩:=q1.len
    obtain ⟨-,-,yak,yam⟩:=SlX.len q3
    obtain ⟨-,-,ysk,ysm⟩:=SlX.len q4
    have u : ∀ t,t ≠ 0 → Sub (Tag o t (with' mu1 fz)) (Tag o t (with' (putS mu1 (n + 1) (repC r xe' xa' xs' xd')) fz)):=λt ht=>Tag.put (lookI a3) (by rw [a1 _ (by omega)]; omega)
    have gz:=g1.put (id:=n + 1) (by omega) a3 (c:=repC r xe' xa' xs' xd')
    unfold repC at a2 b3
    unfold repC at u gz
    simp only [↓E1,E2,Int.reduceEq,Int.reduceNe,Int.reduceLT,Int.reduceLE,Int.reduceNeg,Int.reduceAdd,Int.reduceSub,Int.reduceToNat,Nat.reduceEqDiff,Nat.reduceAdd,Nat.reduceMul,Nat.reduceSub,Nat.reduceLeDiff,Nat.reduceBEq,reduceIte,Nat.reduceLT,Nat.reduceBneDiff, *,with_putI,look_putS,putS_putS,Option.isSome_some,Option.map_some,List.append_assoc]
    refine hk _ _ _ gz ⟨xe',xa',xs',xd',o,rfl,λj hj=>a1 j (by omega),⟨⟨es,q1.mono (u 1 (by omega)),q2.imp λc a g=>EntX.mono (u 2 (by omega)) g⟩,IntsX.mono (u 3 (by omega)) q3,IntsX.mono (u 4 (by omega)) q4,cs,p1.mono (u 5 (by omega)),?_⟩⟩
    refine All2.of_get p2 λi a b ha hb=>?_
    obtain ⟨h1,e1⟩:=List.getElem?_eq_some_iff.1 ha
    obtain ⟨h2,e2⟩:=List.getElem?_eq_some_iff.1 hb
    have:=p3 i h1 h2
    rw [if_pos h2,e1,e2] at this
    exact DvX.mono (u 6 (by omega)) this
  · rintro ⟨_,_,_,h⟩; cases h
end Go.Proofs.Ytnnjlnkoomeadaa.Pv
namespace Go.Proofs.Ytnnjlnkoomeadaa.Pv
open Go.Ev Go.Ev.Rp
set_option maxRecDepth 100000
set_option maxHeartbeats 4000000
set_option linter.unusedSimpArgs false
set_option linter.unusedVariables false
set_option linter.unusedSectionVars false
variable {P : Program} (H : Fs P)
include H
end Go.Proofs.Ytnnjlnkoomeadaa.Pv
namespace Go.Proofs.Ytnnjlnkoomeadaa.Pv
open Go.Ev Go.Ev.Rp
set_option maxRecDepth 100000
set_option maxHeartbeats 4000000
set_option linter.unusedSimpArgs false
set_option linter.unusedVariables false
set_option linter.unusedSectionVars false
variable {P : Program} (H : Fs P)
include H
end Go.Proofs.Ytnnjlnkoomeadaa.Pv
namespace Go.Proofs.Ytnnjlnkoomeadaa.Pv
open Go.Ev Go.Ev.Rp
set_option maxRecDepth 100000
set_option maxHeartbeats 4000000
set_option linter.unusedSimpArgs false
set_option linter.unusedVariables false
set_option linter.unusedSectionVars false
def skipB (r : Rep) (m : Msg) : Bool:=!repB r || !msgB m || decide (m.frm = r.me) || decide (r.nodes ≤ m.frm) || !decide (m.to = r.me) || decide (m.view < r.view)
theorem RepSz.s (r : Rep) (h : RepSz r) : r.starts.length ≤ 1152921504606846976 ∧ r.dos.length ≤ 1152921504606846976 ∧ r.acks.length ≤ 1152921504606846976:=⟨by have:=h.starts; omega,by have:=h.dos; omega,by have:=h.acks; omega⟩
variable {P : Program} (H : Fs P)
include H
theorem replica_Receive_skip (r : Rep) (xe xa xs xd : SV) (m : Msg) (yb ye : SV) (hz : RepSz r) (hs : skipB r m = true) : Ctr P n_replica_Receive [.ag (repC r xe xa xs xd), .ag (msgC m yb ye)] (fun M => RepS M r xe xa xs xd ∧ MsgS M m yb ye)
    (λn _ M v=>∃ xe' xa' xs' xd' o,v = .tp [.ag (repC r xe' xa' xs' xd'),.one .nsl] ∧ (∀ j,j < n → o j = 0) ∧ RepT o M r xe' xa' xs' xd'):=Ctr.of H.mx H.replica_Receive (λ_=>0) λfz mu n k hfr s hk=>by
  obtain ⟨s1,s2⟩:=s
  obtain ⟨-,-,xek,xem⟩:=s1.1.len
  obtain ⟨-,-,xak,xam⟩:=s1.2.1.len
  obtain ⟨-,-,xsk,xsm⟩:=s1.2.2.1.len
  obtain ⟨-,-,xdk,xdm⟩:=s1.2.2.2.len
  obtain ⟨-,-,ybk,ybm⟩:=s2.1.len
  obtain ⟨-,-,yek,yem⟩:=s2.2.len
  have hM:=replica_May H r xe xa xs xd (RepSz.s r hz).1 (RepSz.s r hz).2.1 (RepSz.s r hz).2.2
  have hN:=message_May H m yb ye
  have hC:=replica_Clone H r xe xa xs xd hz
  rw [i_replica_Receive,dc_at b_replica_Receive.eq_1]
  unfold msgC at hN ⊢
  unfold repC at hM hC ⊢
  simp only [↓E1,E2,Int.reduceEq,Int.reduceNe,Int.reduceLT,Int.reduceLE,Int.reduceNeg,Int.reduceAdd,Int.reduceSub,Int.reduceToNat,Nat.reduceEqDiff,Nat.reduceAdd,Nat.reduceMul,Nat.reduceSub,Nat.reduceLeDiff,Nat.reduceBEq,reduceIte,Nat.reduceLT,Nat.reduceBneDiff, *]
  refine CPr.abs3 hfr λmu1 n1 gg h3 b1 b2 b3=>?_
  have hfr0:=hfr
  have hle : n ≤ n1:=by omega
  replace hfr:=gg.free
  replace s1:=RepS.mono (gg.sub hfr0 (Nat.le_refl _)) s1
  replace s2:=MsgS.mono (gg.sub hfr0 (Nat.le_refl _)) s2
  have wb1:=look_with (fz:=fz) b1
  have wb2:=look_with (fz:=fz) b2
  have wb3:=look_with (fz:=fz) b3
  unfold skipB at hs
  have hA : True:=trivial
  have hle:=Nat.le_refl n
  replace hle:=(show n ≤ n1 by omega)
  replace hA:=And.intro hA hs
  clear hs h3
  repeat' (first | ((with_reducible refine Br_intro (λhb=>?_) (λhb=>?_)) <;> (replace hA:=And.intro hA hb; clear hb; simp only [↓E1,E2,Int.reduceEq,Int.reduceNe,Int.reduceLT,Int.reduceLE,Int.reduceNeg,Int.reduceAdd,Int.reduceSub,Int.reduceToNat,Nat.reduceEqDiff,Nat.reduceAdd,Nat.reduceMul,Nat.reduceSub,Nat.reduceLeDiff,Nat.reduceBEq,reduceIte,Nat.reduceLT,Nat.reduceBneDiff, *,with_putI,look_putS,putS_putS,Option.isSome_some,Option.map_some])) | ((with_reducible refine CPr_f (f:=n_replica_May) ?_); ((first | (refine (hM).d2 hfr (by first | trivial | exact s1 | exact s2 | assumption) ?_; rintro v mu2 n2 g2 rfl) | (refine (hM).d3 hfr (λhm=>by first | trivial | exact RepS.mono hm s1 | exact MsgS.mono hm s2) ?_; rintro v mu2 n2 g2 b1 rfl) | (refine (hM).c1 hfr (by first | trivial | exact s1 | exact s2 | assumption) ?_; rintro v mu2 n2 g2 rfl) | (refine (hM).c2 hfr (λhm=>by first | trivial | exact RepS.mono hm s1 | exact MsgS.mono hm s2) ?_; rintro v mu2 n2 g2 b1 rfl) | (refine (hM).c3 hfr (λhm=>by first | trivial | exact RepS.mono hm s1 | exact MsgS.mono hm s2) ?_; rintro v mu2 n2 g2 b1 b2 rfl)); (try replace b1:=(g2.own _ (hfr.lt (look_with (fz:=fz) b1))).trans b1; replace wb1:=look_with (fz:=fz) b1); (try replace b2:=(g2.own _ (hfr.lt (look_with (fz:=fz) b2))).trans b2; replace wb2:=look_with (fz:=fz) b2); (try replace b3:=(g2.own _ (hfr.lt (look_with (fz:=fz) b3))).trans b3; replace wb3:=look_with (fz:=fz) b3); (try replace s1:=RepS.mono (λ_ _ hh=>g2.old hfr hh) s1); (try replace s2:=MsgS.mono (λ_ _ hh=>g2.old hfr hh) s2); replace gg:=gg.trans (g2.weaken hle); replace hle:=Nat.le_trans hle g2.le; replace hfr:=g2.free; clear g2; simp only [↓E1,E2,Int.reduceEq,Int.reduceNe,Int.reduceLT,Int.reduceLE,Int.reduceNeg,Int.reduceAdd,Int.reduceSub,Int.reduceToNat,Nat.reduceEqDiff,Nat.reduceAdd,Nat.reduceMul,Nat.reduceSub,Nat.reduceLeDiff,Nat.reduceBEq,reduceIte,Nat.reduceLT,Nat.reduceBneDiff, *,with_putI,look_putS,putS_putS,Option.isSome_some,Option.map_some])) | ((with_reducible refine CPr_f (f:=n_message_May) ?_); ((first | (refine (hN).d2 hfr (by first | trivial | exact s1 | exact s2 | assumption) ?_; rintro v mu2 n2 g2 rfl) | (refine (hN).d3 hfr (λhm=>by first | trivial | exact RepS.mono hm s1 | exact MsgS.mono hm s2) ?_; rintro v mu2 n2 g2 b1 rfl) | (refine (hN).c1 hfr (by first | trivial | exact s1 | exact s2 | assumption) ?_; rintro v mu2 n2 g2 rfl) | (refine (hN).c2 hfr (λhm=>by first | trivial | exact RepS.mono hm s1 | exact MsgS.mono hm s2) ?_; rintro v mu2 n2 g2 b1 rfl) | (refine (hN).c3 hfr (λhm=>by first | trivial | exact RepS.mono hm s1 | exact MsgS.mono hm s2) ?_; rintro v mu2 n2 g2 b1 b2 rfl)); (try replace b1:=(g2.own _ (hfr.lt (look_with (fz:=fz) b1))).trans b1; replace wb1:=look_with (fz:=fz) b1); (try replace b2:=(g2.own _ (hfr.lt (look_with (fz:=fz) b2))).trans b2; replace wb2:=look_with (fz:=fz) b2); (try replace b3:=(g2.own _ (hfr.lt (look_with (fz:=fz) b3))).trans b3; replace wb3:=look_with (fz:=fz) b3); (try replace s1:=RepS.mono (λ_ _ hh=>g2.old hfr hh) s1); (try replace s2:=MsgS.mono (λ_ _ hh=>g2.old hfr hh) s2); replace gg:=gg.trans (g2.weaken hle); replace hle:=Nat.le_trans hle g2.le; replace hfr:=g2.free; clear g2; simp only [↓E1,E2,Int.reduceEq,Int.reduceNe,Int.reduceLT,Int.reduceLE,Int.reduceNeg,Int.reduceAdd,Int.reduceSub,Int.reduceToNat,Nat.reduceEqDiff,Nat.reduceAdd,Nat.reduceMul,Nat.reduceSub,Nat.reduceLeDiff,Nat.reduceBEq,reduceIte,Nat.reduceLT,Nat.reduceBneDiff, *,with_putI,look_putS,putS_putS,Option.isSome_some,Option.map_some])))
  all_goals try ((with_reducible refine CPr_f (f:=n_replica_begin) ?_); exfalso; clear hk gg hle hfr hfr0 hM hN hC b1 b2 b3 wb1 wb2 wb3 s1 s2; obtain ⟨⟨⟨⟨⟨⟨⟨-,h0⟩,h1⟩,h2⟩,h3⟩,h4⟩,h5⟩,h6⟩:=hA; rw [h1,h2,h3,h4,h5,h6] at h0; cases h0)
  all_goals ((with_reducible refine CPr_f (f:=n_replica_Clone) ?_); refine hC.c1 hfr s1 ?_; rintro v mu3 n3 g3 ⟨xe',xa',xs',xd',o,rfl,ho,hT⟩)
  all_goals
    obtain ⟨⟨es,q1,q2⟩,q3,q4,⟨ds,q5,q6⟩⟩:=hT
    obtain ⟨-,-,yek,yem⟩:=q1.len
    obtain ⟨-,-,yak,yam⟩:=SlX.len q3
    obtain ⟨-,-,ysk,ysm⟩:=SlX.len q4
    obtain ⟨-,-,ydk,ydm⟩:=SlX.len q5
    have c3:=(g3.own (n + 2) (hfr.lt wb3)).trans b3
    have ho2 : o (n + 2) = 0:=ho _ (hfr.lt wb3)
    have gz:=(gg.trans (g3.weaken hle)).put (by omega) c3 (c:=repC r xe' xa' xs' xd')
    have u : ∀ t,t ≠ 0 → Sub (Tag o t (with' mu3 fz)) (Tag o t (with' (putS mu3 (n + 2) (repC r xe' xa' xs' xd')) fz)):=λt ht=>Tag.put (lookI c3) (by rw [ho2]; omega)
    unfold repC at gz u
    simp only [↓E1,E2,Int.reduceEq,Int.reduceNe,Int.reduceLT,Int.reduceLE,Int.reduceNeg,Int.reduceAdd,Int.reduceSub,Int.reduceToNat,Nat.reduceEqDiff,Nat.reduceAdd,Nat.reduceMul,Nat.reduceSub,Nat.reduceLeDiff,Nat.reduceBEq,reduceIte,Nat.reduceLT,Nat.reduceBneDiff, *,with_putI,look_putS,putS_putS,Option.isSome_some,Option.map_some]
    exact hk _ _ _ gz ⟨xe',xa',xs',xd',o,rfl,λj hj=>ho j (by omega),⟨⟨es,q1.mono (u 1 (by omega)),q2.imp λc a g=>EntX.mono (u 2 (by omega)) g⟩,IntsX.mono (u 3 (by omega)) q3,IntsX.mono (u 4 (by omega)) q4,⟨ds,q5.mono (u 5 (by omega)),q6.imp λc a g=>DvX.mono (u 6 (by omega)) g⟩⟩⟩
end Go.Proofs.Ytnnjlnkoomeadaa.Pv
namespace Go.Proofs.Ytnnjlnkoomeadaa.Pv
open Go.Ev Go.Ev.Rp
set_option maxRecDepth 100000
set_option maxHeartbeats 4000000
set_option linter.unusedSimpArgs false
set_option linter.unusedVariables false
set_option linter.unusedSectionVars false
def tx0 : Tx:=⟨0,0,by decide⟩
def newR (me nodes : Int) : Rep:=⟨me,nodes,0,0,0,0,false,⟨0,tx0,[]⟩,List.replicate nodes.toNat 0,[],[]⟩
def frEnt (view : Int) (i : Nat) : Ent:=⟨view,0,0,(i : Int) + 1,[]⟩
def freshR (me nodes view : Int) (many : Nat) (commit : Int) : Rep:=⟨me,nodes,view,view,0,commit,false,⟨0,tx0,(List.range many).map (frEnt view)⟩,List.replicate nodes.toNat 0,[],[]⟩
theorem nodes_cases {b : Int} (h : nodesB b = true) : b = 1 ∨ b = 3 ∨ b = 5 ∨ b = 7:=by
  unfold nodesB at h; simp at h; omega
variable {P : Program} (H : Fs P)
include H
theorem replica_New (me nodes : Int) (hm : meB me nodes = true) : Ctr P n_replica_New [.one (I me),.one (I nodes)] (λ_=>True) (λn _ M v=>∃ xa,v = .tp [.ag (repC (newR me nodes) .nsl xa .nsl .nsl),.one (I 0)] ∧ IntsX (From n M) xa (newR me nodes).acks):=Ctr.of H.mx H.replica_New (λ_=>0) λfz mu n k hfr _ hk=>by
  rw [i_replica_New,dc_at b_replica_New.eq_1]
  have hn : nodesB nodes = true:=by unfold meB at hm; simp at hm; exact hm.1.1
  simp only [↓E1,E2,Int.reduceEq,Int.reduceNe,Int.reduceLT,Int.reduceLE,Int.reduceNeg,Int.reduceAdd,Int.reduceSub,Int.reduceToNat,Nat.reduceEqDiff,Nat.reduceAdd,Nat.reduceMul,Nat.reduceSub,Nat.reduceLeDiff,Nat.reduceBEq,reduceIte,Nat.reduceLT,Nat.reduceBneDiff]
  refine CPr.abs1 hfr λmu0 n0 gg h3 b1=>?_
  refine (repair_Nodes H me nodes).c1 gg.free trivial ?_
  rintro v mu1 n1 g1 rfl
  have hlt:=g1.le
  have c1:=(g1.own n (by omega)).trans b1
  have wc1:=look_with (fz:=fz) c1
  have hne : (n1 = n) = False:=by simp; omega
  have gz:=gg.trans (g1.weaken (by omega))
  clear b1
  rcases nodes_cases hn with rfl | rfl | rfl | rfl
  all_goals
    simp only [↓E1,E2,Int.reduceEq,Int.reduceNe,Int.reduceLT,Int.reduceLE,Int.reduceNeg,Int.reduceAdd,Int.reduceSub,Int.reduceToNat,Nat.reduceEqDiff,Nat.reduceAdd,Nat.reduceMul,Nat.reduceSub,Nat.reduceLeDiff,Nat.reduceBEq,reduceIte,Nat.reduceLT,Nat.reduceBneDiff, *,with_putI,look_putS,Option.isSome_some]
    refine ⟨fits_le (by decide) (by decide) (by decide),?_⟩
    refine hk _ _ _ ((gz.put (Nat.le_refl _) c1).cons (by omega) _) ⟨_,rfl,?_⟩
    exact .inr ⟨n1,rfl,From.at (by omega) (by rw [with_c,if_pos rfl]; rfl),rfl,int_ok⟩
theorem law17_fresh (me nodes view : Int) (many : Nat) (commit : Int) (hm : meB me nodes = true) (hmany : many ≤ 15) : Ctr P n_law17_fresh [.one (I me),.one (I nodes),.one (I view),.one (I many),.one (I commit)] (λ_=>True) (λn _ M v=>∃ xe xa,v = .ag (repC (freshR me nodes view many commit) xe xa .nsl .nsl) ∧ RepS (From n M) (freshR me nodes view many commit) xe xa .nsl .nsl):=Ctr.of H.mx H.law17_fresh (λ_=>17) λfz mu n k hfr _ hk=>by
  rw [i_law17_fresh,dc_at b_law17_fresh.eq_1]
  simp only [↓E1,E2,Int.reduceEq,Int.reduceNe,Int.reduceLT,Int.reduceLE,Int.reduceNeg,Int.reduceAdd,Int.reduceSub,Int.reduceToNat,Nat.reduceEqDiff,Nat.reduceAdd,Nat.reduceMul,Nat.reduceSub,Nat.reduceLeDiff,Nat.reduceBEq,reduceIte,Nat.reduceLT,Nat.reduceBneDiff]
  refine CPr.abs1 hfr λmu0 n0 gg h3 b1=>?_
  refine (replica_New H me nodes hm).c1 gg.free trivial ?_
  rintro v mu1 n1 g1 ⟨xa,rfl,hxa⟩
  have hlt:=g1.le
  have c1:=(g1.own n (by omega)).trans b1
  have wc1:=look_with (fz:=fz) c1
  have hne : (n1 = n) = False:=by simp; omega
  have gz:=gg.trans (g1.weaken (by omega))
  obtain ⟨-,-,xak,xam⟩:=SlX.len hxa
  clear b1
  unfold newR repC
  simp only [↓E1,E2,Int.reduceEq,Int.reduceNe,Int.reduceLT,Int.reduceLE,Int.reduceNeg,Int.reduceAdd,Int.reduceSub,Int.reduceToNat,Nat.reduceEqDiff,Nat.reduceAdd,Nat.reduceMul,Nat.reduceSub,Nat.reduceLeDiff,Nat.reduceBEq,reduceIte,Nat.reduceLT,Nat.reduceBneDiff, *,with_putI,look_putS,putS_putS,Option.isSome_some,Option.map_some]
  have hf1:=g1.free
  refine loopI (x:=0) (L:=many) (p:=λ_=>true) (λi e mu' n'=>∃ xe,Gr n fz mu mu' n n' ∧ n1 + 1 ≤ n' ∧ Ev.look mu' n = some [I 0,I 0,I 0,I 0,I 0,I 0,.bool false,I 0,.str 0 0,.nsl,.nsl,.nsl,.nsl] ∧ Ev.look mu' n1 = some [I me,I nodes,I view,I view,I 0,I 0,.bool false,I 0,tx0.sv,xe,xa,.nsl,.nsl] ∧ Grow (n1 + 1) (with' mu' fz) 5 EntX xe ((List.range i).map (frEnt view)) ∧ (∀ j,j < n1 → with' mu' fz j = with' mu1 fz j) ∧
    e 0 2 = .one (I view) ∧ e 0 3 = .one (I many) ∧ e 0 4 = .one (I commit) ∧ e 0 10 = .one (.optr n 0) ∧ e 0 11 = .one (.optr n1 0) ∧ e 0 13 = .one (.int .i64 i)) (λ_ _ _=>False) ?_ ?_ _ _ _ _ _ (by omega) ?_ ?_ ?_
  · rintro i e mu2 n2 K hi ⟨xe,g2,a0,a1,a2,a3,a4,e2,e3,e4,e10,e11,e13⟩ hy hn
    have hw:=wrap_succ hi (by omega)
    have wa2:=look_with (fz:=fz) a2
    obtain ⟨-,-,zk,zm⟩:=a3.len
    have hne2 : (n2 = n1) = False:=by simp; omega
    rw [dc_at l_law17_fresh_0.eq_1]
    simp only [↓E1,E2,Int.reduceEq,Int.reduceNe,Int.reduceLT,Int.reduceLE,Int.reduceNeg,Int.reduceAdd,Int.reduceSub,Int.reduceToNat,Nat.reduceEqDiff,Nat.reduceAdd,Nat.reduceMul,Nat.reduceSub,Nat.reduceLeDiff,Nat.reduceBEq,reduceIte,Nat.reduceLT,Nat.reduceBneDiff, *]
    refine Grow.more (R:=EntX) (λh g=>EntX.mono h g) (a:=frEnt view i) a3 g2.free a0 (λj hj=>hfr.fz j (by omega)) ((Gr.refl g2.free).cons (Nat.le_refl _) _) ⟨.nsl,by simp [entC,frEnt],.inl ⟨.inl rfl,rfl⟩⟩ ⟨rfl,by simp only [↓E1,E2,Int.reduceEq,Int.reduceNe,Int.reduceLT,Int.reduceLE,Int.reduceNeg,Int.reduceAdd,Int.reduceSub,Int.reduceToNat,Nat.reduceEqDiff,Nat.reduceAdd,Nat.reduceMul,Nat.reduceSub,Nat.reduceLeDiff,Nat.reduceBEq,reduceIte,Nat.reduceLT,Nat.reduceBneDiff]⟩ (fits_le (by simp; omega) (by decide) (by decide)) (λmu3 g3 G3=>?_)
    have b3 : Ev.look mu3 n1 = some [I me,I nodes,I view,I view,I 0,I 0,.bool false,I 0,tx0.sv,xe,xa,.nsl,.nsl]:=by rw [g3.own n1 (by omega)]; exact a2
    have b4:=(g3.own n (by omega)).trans a1
    simp only [↓E1,E2,Int.reduceEq,Int.reduceNe,Int.reduceLT,Int.reduceLE,Int.reduceNeg,Int.reduceAdd,Int.reduceSub,Int.reduceToNat,Nat.reduceEqDiff,Nat.reduceAdd,Nat.reduceMul,Nat.reduceSub,Nat.reduceLeDiff,Nat.reduceBEq,reduceIte,Nat.reduceLT,Nat.reduceBneDiff, *,with_putI,look_putS,putS_putS,Option.isSome_some,Option.map_some]
    refine hy rfl _ _ _ ⟨_,(g2.trans (g3.weaken (by omega))).put (by omega) b3,by omega,by rw [look_putS,if_neg (by omega)]; exact b4,by rw [look_putS,if_pos rfl,b3]; rfl,Grow.mono (R:=EntX) (λh g=>EntX.mono h g) ?_ (From.put (by omega) b3),λj hj=>by rw [with_putS b3,if_neg (by omega),g3.ext j (by omega)]; exact a4 j hj,?_⟩
    · rw [List.range_succ,List.map_append]; exact G3
    · simp [updN,updE, *]
  · rintro e mu2 n2 K ⟨xe,g2,a0,a1,a2,a3,a4,e2,e3,e4,e10,e11,e13⟩ hx
    rw [dc_at l_law17_fresh_0.eq_1]
    have hlt2 : (many < many) = False:=by simp
    simp only [↓E1,E2,Int.reduceEq,Int.reduceNe,Int.reduceLT,Int.reduceLE,Int.reduceNeg,Int.reduceAdd,Int.reduceSub,Int.reduceToNat,Nat.reduceEqDiff,Nat.reduceAdd,Nat.reduceMul,Nat.reduceSub,Nat.reduceLeDiff,Nat.reduceBEq,reduceIte,Nat.reduceLT,Nat.reduceBneDiff, *]
    exact hx _ _ _ ⟨xe,g2,a0,a1,a2,a3,a4,by simp [updN,updE, *]⟩
  · refine ⟨.nsl,gz.cons (by omega) _,Nat.le_refl _,by rw [look_c,if_neg (by omega)]; exact c1,by rw [look_c,if_pos rfl],Grow.nil,λj hj=>by rw [with_c,if_neg (by omega)],by simp [updN,updE,envI]⟩
  · rintro - e1 mu2 n2 ⟨xe,g2,a0,a1,a2,a3,a4,e2,e3,e4,e10,e11,e13⟩
    have wa2:=look_with (fz:=fz) a2
    have wa1:=look_with (fz:=fz) a1
    obtain ⟨-,-,zk,zm⟩:=a3.len
    have hne2 : (n1 = n) = False:=by simp; omega
    have hne3 : (n = n1) = False:=by simp; omega
    have ga:=g2.put (id:=n1) (by omega) a2 (c:=[I me,I nodes,I view,I view,I 0,I commit,.bool false,I 0,tx0.sv,xe,xa,.nsl,.nsl])
    have a5 : Ev.look (putS mu2 n1 [I me,I nodes,I view,I view,I 0,I commit,.bool false,I 0,tx0.sv,xe,xa,.nsl,.nsl]) n = some [I 0,I 0,I 0,I 0,I 0,I 0,.bool false,I 0,.str 0 0,.nsl,.nsl,.nsl,.nsl]:=by rw [look_putS,if_neg (by omega)]; exact a1
    have gb:=ga.put (Nat.le_refl _) a5 (c:=[I me,I nodes,I view,I view,I 0,I commit,.bool false,I 0,tx0.sv,xe,xa,.nsl,.nsl])
    simp only [↓E1,E2,Int.reduceEq,Int.reduceNe,Int.reduceLT,Int.reduceLE,Int.reduceNeg,Int.reduceAdd,Int.reduceSub,Int.reduceToNat,Nat.reduceEqDiff,Nat.reduceAdd,Nat.reduceMul,Nat.reduceSub,Nat.reduceLeDiff,Nat.reduceBEq,reduceIte,Nat.reduceLT,Nat.reduceBneDiff, *,with_putI,look_putS,putS_putS,Option.isSome_some,Option.map_some]
    refine hk _ _ _ gb ⟨xe,xa,rfl,?_,?_,.inl ⟨.inl rfl,rfl⟩,⟨[],.inl ⟨.inl rfl,rfl⟩,trivial⟩⟩
    · exact EntsX.to (EntsX.mono (((From.put (by omega) a2).trans (From.put (by omega) a5)).trans (From.le (by omega))) (growEnts a3))
    · refine IntsX.to (IntsX.mono (λj B hj=>?_) hxa)
      obtain ⟨h1,h2⟩:=From.el hj
      have h4:=hf1.lt h2
      exact From.at (by omega) (by rw [with_putS a5,if_neg (by omega),with_putS a2,if_neg (by omega),a4 j h4]; exact h2)
  · rintro ⟨_,_,_,h⟩; cases h
end Go.Proofs.Ytnnjlnkoomeadaa.Pv
namespace Go.Proofs.Ytnnjlnkoomeadaa.Pv
open Go.Ev Go.Ev.Rp
set_option maxRecDepth 100000
set_option maxHeartbeats 4000000
set_option linter.unusedSimpArgs false
set_option linter.unusedVariables false
set_option linter.unusedSectionVars false
def andI (a b : Int) : Int:=IntKind.i64.wrap (BitVec.ofInt IntKind.i64.bits a &&& BitVec.ofInt IntKind.i64.bits b).toNat
theorem b_andI {a b : Int} {k : SV → Prop} : binI .and .i64 a b False k = k (.int .i64 (andI a b)):=b_and
variable {P : Program} (H : Fs P)
include H
end Go.Proofs.Ytnnjlnkoomeadaa.Pv
namespace Go.Proofs.Ytnnjlnkoomeadaa.Pv
open Go.Ev Go.Ev.Rp
set_option maxRecDepth 100000
set_option maxHeartbeats 4000000
set_option linter.unusedSimpArgs false
set_option linter.unusedVariables false
set_option linter.unusedSectionVars false
theorem andI_mask (a : Int) (m : Nat) (hm : m < 2 ^ 62) : ∃ k : Nat,k ≤ m ∧ andI a m = k:=by
  obtain ⟨k,h1,h2⟩:=mask_cases a m hm
  refine ⟨k,h1,?_⟩
  have : numOp .and .i64 a (m : Int) = some (.int .i64 (andI a m)):=rfl
  rw [this] at h2
  injection h2 with h2
  injection h2
theorem rem_range (x : Int) (v : Nat) (h0 : 0 < v) (h1 : v ≤ 1000) : ∃ k : Nat,k < v ∧ IntKind.i64.wrap ((IntKind.u64.wrap x).tmod (IntKind.u64.wrap v)) = k:=by
  have h2 : IntKind.u64.wrap (v : Int) = v:=by simp [IntKind.wrap,IntKind.bits,IntKind.signed]; omega
  have h3 : 0 ≤ IntKind.u64.wrap x:=by simp [IntKind.wrap,IntKind.bits,IntKind.signed]; omega
  rw [h2,Int.tmod_eq_emod_of_nonneg h3]
  have h4:=Int.emod_nonneg (IntKind.u64.wrap x) (show (v : Int) ≠ 0 by omega)
  have h5:=Int.emod_lt_of_pos (IntKind.u64.wrap x) (show 0 < (v : Int) by omega)
  refine ⟨(IntKind.u64.wrap x % v).toNat,by omega,?_⟩
  rw [wrap64 (by omega) (by omega)]; omega
variable {P : Program} (H : Fs P)
include H
theorem law17_ReplicaOld (aw : BoolC P n_law17_awake [] (λ_=>True) true) (view kind : Int) (m : Msg) (yb ye : SV) : BoolC P n_law17_ReplicaOld [.one (I view),.one (I kind),.ag (msgC m yb ye)] (λM=>MsgS M m yb ye) true:=boolC H.mx H.law17_ReplicaOld 0 λfz mu n k hfr gg s2 hk=>by
  obtain ⟨-,-,ybk,ybm⟩:=s2.1.len
  obtain ⟨-,-,yek,yem⟩:=s2.2.len
  obtain ⟨kv,hkv,ekv⟩:=andI_mask view 7 (by decide)
  obtain ⟨kk,hkk,ekk⟩:=andI_mask kind 7 (by decide)
  obtain ⟨w,hw,ew⟩:=rem_range m.view (kv + 1) (by omega) (by omega)
  have ekv : andI view 7 = (kv : Int):=ekv
  have ekk : andI kind 7 = (kk : Int):=ekk
  have e1 : IntKind.i64.wrap (1 + (kv : Int)) = ((kv + 1 : Nat) : Int):=by rw [wrap64 (by omega) (by omega)]; omega
  have e2 : (kk < 8) = True:=by simp; omega
  have e3 : ∀ k : Nat,k ≤ 7 → ([I 4,I 5,I 6,I 7,I 8,I 9,I 10,I 11].drop k).take 1 = [I ((k : Int) + 4)]:=by
    intro k hk
    rcases (show k = 0 ∨ k = 1 ∨ k = 2 ∨ k = 3 ∨ k = 4 ∨ k = 5 ∨ k = 6 ∨ k = 7 by omega) with rfl | rfl | rfl | rfl | rfl | rfl | rfl | rfl <;> rfl
  have e4:=e3 kk hkk
  rw [i_law17_ReplicaOld,dc_at b_law17_ReplicaOld.eq_1]
  unfold msgC
  simp only [↓E1,E2,Int.reduceEq,Int.reduceNe,Int.reduceLT,Int.reduceLE,Int.reduceNeg,Int.reduceAdd,Int.reduceSub,Int.reduceToNat,Nat.reduceEqDiff,Nat.reduceAdd,Nat.reduceMul,Nat.reduceSub,Nat.reduceLeDiff,Nat.reduceBEq,reduceIte,Nat.reduceLT,Nat.reduceBneDiff, *]
  refine CPr.abs1 hfr λmu1 n1 gg h3 b1=>?_
  refine aw.c1 gg.free trivial ?_
  rintro v mu2 n2 g2 rfl
  have gb:=gg.trans (g2.weaken (by omega))
  have c1:=(g2.own n (by omega)).trans b1
  simp only [↓E1,E2,Int.reduceEq,Int.reduceNe,Int.reduceLT,Int.reduceLE,Int.reduceNeg,Int.reduceAdd,Int.reduceSub,Int.reduceToNat,Nat.reduceEqDiff,Nat.reduceAdd,Nat.reduceMul,Nat.reduceSub,Nat.reduceLeDiff,Nat.reduceBEq,reduceIte,Nat.reduceLT,Nat.reduceBneDiff,↓b_andI, *]
  have hF : Ctr P n_law17_fresh [.one (I 1),.one (I 3),.one (I ((kv + 1 : Nat) : Int)),.one (I 4),.one (I 2)] _ _:=law17_fresh H 1 3 ((kv + 1 : Nat) : Int) 4 2 (by decide) (by decide)
  refine hF.c1 gb.free trivial ?_
  rintro v mu3 n3 g3 ⟨xe,xa,rfl,hR⟩
  have l1:=g2.le
  have l3:=g3.le
  have c2:=(g3.own n (by omega)).trans c1
  have gc:=gb.trans (g3.weaken (by omega))
  obtain ⟨-,-,xek,xem⟩:=hR.1.len
  obtain ⟨-,-,xak,xam⟩:=hR.2.1.len
  have hne : (n3 = n) = False:=by simp; omega
  have wc2:=look_with (fz:=fz) c2
  have hne2 : (n3 + 1 = n) = False:=by simp; omega
  have hne3 : (n3 + 1 = n3) = False:=by simp
  have e5 : kk * 1 = kk:=Nat.mul_one kk
  have e6 : (kk ≤ 7) = True:=by simp; omega
  have e7 : (0 : Int) = IntKind.u64.wrap ((kv + 1 : Nat) : Int) ↔ False:=by simp [IntKind.wrap,IntKind.bits,IntKind.signed]; omega
  unfold freshR repC
  simp only [↓E1,E2,Int.reduceEq,Int.reduceNe,Int.reduceLT,Int.reduceLE,Int.reduceNeg,Int.reduceAdd,Int.reduceSub,Int.reduceToNat,Nat.reduceEqDiff,Nat.reduceAdd,Nat.reduceMul,Nat.reduceSub,Nat.reduceLeDiff,Nat.reduceBEq,reduceIte,Nat.reduceLT,Nat.reduceBneDiff,↓b_andI, *,with_putI,look_putS,putS_putS,Option.isSome_some,Option.map_some]
  refine ⟨by simp [IntKind.wrap,IntKind.bits,IntKind.signed]; omega,?_⟩
  have gd:=gc.put (Nat.le_refl _) c2 (c:=[I (kk + 4),I m.frm,I m.to,I w,I m.normal,I m.at',I m.commit,I m.round,I m.client,I m.session,I m.number,I m.code,I m.agg,I m.until',m.series.sv,yb,I m.log.base,m.log.snap.sv,ye,m.text.sv])
  have fR : Sub (From n2 (with' mu3 fz)) (From n2 (with' (putS mu3 n [I (kk + 4),I m.frm,I m.to,I w,I m.normal,I m.at',I m.commit,I m.round,I m.client,I m.session,I m.number,I m.code,I m.agg,I m.until',m.series.sv,yb,I m.log.base,m.log.snap.sv,ye,m.text.sv]) fz)):=From.put (by omega) c2
  refine CPr.abs2 gd.free λmu4 n4 g4 h4 d1 d2=>?_
  have hs : skipB (freshR 1 3 ((kv + 1 : Nat) : Int) 4 2) { m with kind:=(kk : Int) + 4,view:=(w : Int) } = true:=by
    have : ((w : Nat) : Int) < ((kv + 1 : Nat) : Int):=by omega
    unfold skipB
    simp only [freshR,this,decide_true,Bool.or_true]
  have hz : RepSz (freshR 1 3 ((kv + 1 : Nat) : Int) 4 2):=⟨⟨by simp [freshR],λe he=>by simp [freshR,frEnt] at he; rcases he with ⟨a,_,rfl⟩; simp⟩,by simp [freshR],by simp [freshR],by simp [freshR],λd hd=>by simp [freshR] at hd⟩
  have hC : Ctr P n_replica_Receive [.ag [I 1,I 3,I ((kv + 1 : Nat) : Int),I ((kv + 1 : Nat) : Int),I 0,I 2,.bool false,I 0,tx0.sv,xe,xa,.nsl,.nsl],.ag [I (kk + 4),I m.frm,I m.to,I w,I m.normal,I m.at',I m.commit,I m.round,I m.client,I m.session,I m.number,I m.code,I m.agg,I m.until',m.series.sv,yb,I m.log.base,m.log.snap.sv,ye,m.text.sv]] _ _:=replica_Receive_skip H (freshR 1 3 ((kv + 1 : Nat) : Int) 4 2) xe xa .nsl .nsl { m with kind:=(kk : Int) + 4,view:=(w : Int) } yb ye hz hs
  have hM4 : RepS (with' mu4 fz) (freshR 1 3 ((kv + 1 : Nat) : Int) 4 2) xe xa .nsl .nsl:=RepS.mono ((fR.trans From.sub).trans (g4.sub gd.free (Nat.le_refl _))) hR
  refine hC.c1 g4.free ⟨hM4,MsgS.mono ((gd.trans (g4.weaken gc.le)).sub hfr (Nat.le_refl _)) s2⟩ ?_
  rintro v mu5 n5 g5 ⟨xe',xa',xs',xd',o,rfl,ho,hT⟩
  have hE : EntsR (with' mu5 fz) xe' (freshR 1 3 ((kv + 1 : Nat) : Int) 4 2).log.ents:=by
    obtain ⟨cs,q1,q2⟩:=hT.ents
    exact ⟨cs,(q1.mono Tag.sub).to,q2.imp λc a g=>(EntX.mono Tag.sub g).to⟩
  obtain ⟨xel,xes,xek',xem'⟩:=hE.len
  have xel : ∀ k,onLen xe' k = k 4:=xel
  obtain ⟨-,-,xak',xam'⟩:=SlX.len hT.acks
  obtain ⟨-,-,xsk',xsm'⟩:=SlX.len hT.starts
  obtain ⟨-,-,xdk',xdm'⟩:=hT.dos.choose_spec.1.len
  unfold freshR repC
  simp only [↓E1,E2,Int.reduceEq,Int.reduceNe,Int.reduceLT,Int.reduceLE,Int.reduceNeg,Int.reduceAdd,Int.reduceSub,Int.reduceToNat,Nat.reduceEqDiff,Nat.reduceAdd,Nat.reduceMul,Nat.reduceSub,Nat.reduceLeDiff,Nat.reduceBEq,reduceIte,Nat.reduceLT,Nat.reduceBneDiff, *,with_putI,look_putS,putS_putS,Option.isSome_some,Option.map_some]
  exact leafB hk ((gd.trans ((g4.trans (g5.weaken g4.le)).weaken gc.le)).cons (by have:=g5.le; omega) _) (by simp [freshR])
end Go.Proofs.Ytnnjlnkoomeadaa.Pv
namespace Go.Ev
set_option linter.unusedVariables false
theorem ctr_of_says {P : Program} {f : Nat} (hb : hasBody P f = true) (h : SaysTrue P f) : Ctr P f [] (λ_=>True) λ_ _ _ v=>v = .one (.bool true):=λfz mu n k hfr _ hk =>
  ⟨.one (.bool true),mu,n,hk _ _ _ (Gr.refl hfr) rfl,hb,Nat.le_refl _,λρ w xs hr hx hf=>by
    cases xs with
    | cons _ _=>exact hx.elim
    | nil=>exact (h w).mono λe w' ⟨he,hf⟩=>⟨_,he,ρ,Ext.refl _ _ _,hr.grow hf,rfl,hf.any,λid p hl hp=>.inr ⟨id,p,hl,hp,rfl⟩,NewI.refl⟩⟩
theorem calls_of_CP {P : Program} {f : Nat} {avs : List AV} {fz : Fz} {n : Nat} {ρ : Rho} {w : World} {xs : List Value} (h : CP P f avs fz [] n fun v _ _ => v = .one (.bool true)) (hi : Imp w n fz ρ) (hx : All2 (AVR v0 ρ w) avs xs) :
    Calls P f xs.toArray w λe w'=>e = .returned (.bool true) ∧ Fr ρ [] w w':=by
  obtain ⟨v,mu',n',rfl,hb,hle,hc⟩:=h
  refine (hc ρ w xs hi.rel hx hi.fresh).mono λe w' ⟨x,he,ρ',h1,h2,h3,h4,_⟩=>⟨?_,h4⟩
  have : x = .bool true:=h3
  rw [he,this]
section
open Go.ChangeShapes Go.WideShapes Go.RowKit
variable {H : Type} {enc : TypeId × Value → H} {P : Program}
theorem trodAll_stays (hl : laidOutB P = true) {W W' : World} (hb : Below W.heap.size W W') {sp : Nat → Bool} : ∀ {ts : List TypeId} {vs : List Value} {ds : List (DataW H)} {ps : List MemPlace}, (∀ t ∈ ts, P.readableRec t = true ∧ t < P.types.size) →
    DataW.TrodAll enc P W 0 (λ_=>true) true ts vs ds ps → (∀ x ∈ ps,x.block < W.heap.size) → (∀ p ∈ ps,sp p.block = true) → DataW.TrodAll enc P W' 0 sp true ts vs ds ps
  | [],[],[],_,_,h,_,_=>h
  | t :: ts, v :: vs, d :: ds, ps, ht, ⟨p, q, h1, h2, he⟩, hlt, hs => ⟨p, q, WideElems.Trod_stays hl (ht t (by simp)).1 (ht t (by simp)).2 h1 (fun x hx => hb.same (hlt x (by rw [he]; simp [hx]))) (fun x hx => hs x (by rw [he]; simp [hx])),
      trodAll_stays hl hb (λt h=>ht t (by simp [h])) h2 (λx hx=>hlt x (by rw [he]; simp [hx])) (λx hx=>hs x (by rw [he]; simp [hx])),he⟩
  | [],_ :: _,_,_,_,h,_,_=>h.elim
  | [],[],_ :: _,_,_,h,_,_=>h.elim
  | _ :: _,[],_,_,_,h,_,_=>h.elim
  | _ :: _,_ :: _,[],_,_,h,_,_=>h.elim
theorem Fr.below {ρ : Rho} {w w' : World} (h : Fr ρ [] w w') : Below w.heap.size w w':=⟨h.os,h.tape,h.output,h.size,λk hk=>h.keep k hk λid p hl=>by cases hl⟩
theorem post_law {f : Func} {s : ChangeSpec} {apart fresh handsOn again : Bool} {W W' : World} {args : Array Value} {ds gs : List (DataW H)} {before : List MemPlace} {ρ : Rho} {tb : TypeId} (hl : laidOutB P = true) (hts : ∀ t ∈ f.params.toList, P.readableRec t = true ∧ t < P.types.size)
    (hv : s.vars = []) (hr : f.resultTypes = #[tb]) (htb : P.underlying tb = some .bool) (hs : (s.fn H (ds ++ gs)).results = [.lit (.bool true)]) (hs2 : (s.fn H (ds ++ gs)).args = ds) (hs3 : (s.fn H (ds ++ gs)).vars = [])
    (hW : DataW.Whole enc P f.params.toList s.vars apart W args.toList ds gs before) (hf : Fr ρ [] W W') : s.post enc P f apart fresh handsOn again W args (.bool true) W':=by
  have hlt:=hW.lt
  have hW':=hW
  obtain ⟨p,q,hA,hV,rfl,hfz,hnd⟩:=hW
  have hq : q = []:=by
    rw [hv] at hV
    cases gs with
    | nil=>exact hV
    | cons g gs=>exact hV.elim
  subst hq
  have hg:=hf.grown
  refine post_of_grown (pa:=p) (pv:=[]) hW' (λb sp hd=>?_) (λsp hsp=>?_) (λsp hsp=>?_) rfl (hg.frame _) hg.2.1 ?_
  · rw [hs,hr]; exact trodAll_cons_mk (shut_bool htb _) trodAll_mk0
  · rw [hs2]; exact trodAll_stays hl (Fr.below hf) hts hA (λx hx=>hlt x (by simp [hx])) (λx hx=>hsp x (by simp [hx]))
  · rw [hs3,hv]; exact rfl
  · exact ok_one hr rfl (okWide_bool_mk htb _)
end
end Go.Ev
