/-
  QuorumGets: part 8 of what the proof is made of.
-/
import Derived.Test.YtnnjlnkoomeadaaQuorumGetsP7
import Derived.Deep.Slices
import Derived.ChangeArms
import Derived.DataReads
import Derived.SizedLaws
import Derived.Test.YtnnjlnkoomeadaaProg
import Derived.KernelRfl
import Derived.Carry
import Derived.OpenShut
set_option linter.unusedVariables false
set_option linter.unusedSimpArgs false
namespace Go.Ev
set_option linter.unusedVariables false
structure Imp (w : World) (n : Nat) (fz : Fz) (ρ : Rho) : Prop where
  fr : ∀ id,n ≤ id → fz id = none ∧ ρ id = none
  own : ∀ id cs,fz id = some cs → OwnR v0 ρ w id cs
theorem Imp.nil (w : World) : Imp w 0 (λ_=>none) (λ_=>none):=⟨λ_ _=>⟨rfl,rfl⟩,λ_ _ h=>by cases h⟩
theorem Imp.rel {w : World} {n : Nat} {fz : Fz} {ρ : Rho} (h : Imp w n fz ρ) : Rel v0 ρ fz [] w :=
  ⟨λid cs hh=>.inl (h.own id cs hh),λid cs h=>(by cases h),λid cs h=>(by cases h),λid id' p p' h=>(by cases h)⟩
theorem Imp.free {w : World} {n : Nat} {fz : Fz} {ρ : Rho} (h : Imp w n fz ρ) : Free fz [] n:=λj=>(h.fr _ (by omega)).1
theorem Imp.fresh {w : World} {n n' : Nat} {fz : Fz} {ρ : Rho} (h : Imp w n fz ρ) : FreshN ρ n n':=λid h1 _=>(h.fr id h1).2
structure ImpX (n : Nat) (fz : Fz) (ρ : Rho) (n' : Nat) (fz' : Fz) (ρ' : Rho) : Prop where
  le : n ≤ n'
  fz : Sub fz fz'
  rho : ∀ id p,ρ id = some p → ρ' id = some p
theorem ImpX.refl {n : Nat} {fz : Fz} {ρ : Rho} : ImpX n fz ρ n fz ρ:=⟨Nat.le_refl _,Sub.refl _,λ_ _ h=>h⟩
theorem ImpX.trans {n n' n'' : Nat} {fz fz' fz'' : Fz} {ρ ρ' ρ'' : Rho} (h : ImpX n fz ρ n' fz' ρ') (k : ImpX n' fz' ρ' n'' fz'' ρ'') : ImpX n fz ρ n'' fz'' ρ'' :=
  ⟨Nat.le_trans h.le k.le,h.fz.trans k.fz,λ_ _ g=>k.rho _ _ (h.rho _ _ g)⟩
theorem ImpX.vr {n n' : Nat} {fz fz' : Fz} {ρ ρ' : Rho} (h : ImpX n fz ρ n' fz' ρ') {w : World} {s : SV} {v : Value} (g : VR v0 ρ w s v) : VR v0 ρ' w s v:=g.mono h.rho λ_=>Nat.le_refl _
theorem ImpX.vrs {n n' : Nat} {fz fz' : Fz} {ρ ρ' : Rho} (h : ImpX n fz ρ n' fz' ρ') {w : World} {s : List SV} {v : List Value} (g : All2 (VR v0 ρ w) s v) : All2 (VR v0 ρ' w) s v:=g.imp λ_ _ g=>h.vr g
def Im (w : World) (n : Nat) (fz : Fz) (ρ : Rho) (vs : List Value) (q : Fz → List SV → Prop) : Prop :=
  ∃ n' fz' ρ' c,Imp w n' fz' ρ' ∧ ImpX n fz ρ n' fz' ρ' ∧ All2 (VR v0 ρ' w) c vs ∧ knownAll c = true ∧ q fz' c
theorem Im.seq {w : World} {n : Nat} {fz : Fz} {ρ : Rho} {vs us : List Value} {q r : Fz → List SV → Prop} (hq : ∀ {M M' c}, Sub M M' → q M c → q M' c) (h : Im w n fz ρ vs q) (k : ∀ n fz ρ, Imp w n fz ρ → Im w n fz ρ us r) :
    Im w n fz ρ (vs ++ us) λM c=>∃ a b,c = a ++ b ∧ q M a ∧ r M b:=by
  obtain ⟨n1,fz1,ρ1,a,h1,h2,h3,h4,h5⟩:=h
  obtain ⟨n2,fz2,ρ2,b,k1,k2,k3,k4,k5⟩:=k n1 fz1 ρ1 h1
  exact ⟨n2,fz2,ρ2,a ++ b,k1,h2.trans k2,(k2.vrs h3).append k3,by rw [knownAll_app,h4,k4]; rfl,a,b,rfl,hq k2.fz h5,k5⟩
theorem Im.one {w : World} {n : Nat} {fz : Fz} {ρ : Rho} (h : Imp w n fz ρ) {c : List SV} {vs : List Value} (hv : ∀ ρ,All2 (VR v0 ρ w) c vs) (hk : knownAll c = true) : Im w n fz ρ vs λ_ d=>d = c :=
  ⟨n,fz,ρ,c,h,.refl,hv ρ,hk,rfl⟩
theorem Im.mono {w : World} {n : Nat} {fz : Fz} {ρ : Rho} {vs : List Value} {q r : Fz → List SV → Prop} (h : Im w n fz ρ vs q) (hq : ∀ M c,q M c → r M c) : Im w n fz ρ vs r :=
  let ⟨n',fz',ρ',c,h1,h2,h3,h4,h5⟩:=h; ⟨n',fz',ρ',c,h1,h2,h3,h4,hq _ _ h5⟩
theorem imp_slice {w : World} {s : Nat} (hs : 0 < s) {a : Addr} {len cap : Nat} {C : Nat → List Value} (hcells : ∀ i, i < cap → w.cells? 0 (a.add (i * s)) s = some (C i)) (hle : len ≤ cap) (hcap : cap ≤ maxLen)
    {El : Fz → List SV → Nat → Prop} (hm : ∀ {M M' c i},Sub M M' → El M c i → El M' c i) (hel : ∀ i,i < len → ∀ n fz ρ,Imp w n fz ρ → Im w n fz ρ (C i) λM c=>El M c i)
    {n : Nat} {fz : Fz} {ρ : Rho} (h : Imp w n fz ρ) : Im w n fz ρ [.slice (some a) len cap] λM c=>∃ x css,c = [x] ∧ Sl M s x css ∧ css.length = len ∧ ∀ i (hi : i < css.length),El M css[i] i:=by
  have hlen : ∀ i,i < cap → (C i).length = s:=λi hi=>by
    have:=hcells i hi
    unfold World.cells? at this
    rw [if_pos (Nat.zero_le _)] at this
    have:=Go.mapM_some_length this
    simpa using this
  have hcell : ∀ i j,i < cap → j < s → w.cell? ((a.add (i * s)).add j) = (C i)[j]?:=λi j hi hj=>by
    have:=hcells i hi
    unfold World.cells? at this
    rw [if_pos (Nat.zero_le _)] at this
    exact Go.mapM_some_get this j j (by simp [hj])
  -- the elements
  have key : ∀ m,m ≤ len → ∃ (n' : Nat) (fz' : Fz) (ρ' : Rho) (css : List (List SV)),Imp w n' fz' ρ' ∧ ImpX n fz ρ n' fz' ρ' ∧ css.length = m ∧ (∀ i (hi : i < css.length),All2 (VR v0 ρ' w) css[i] (C i)) ∧ (∀ i (hi : i < css.length),knownAll css[i] = true) ∧ ∀ i (hi : i < css.length),El fz' css[i] i:=by
    intro m
    induction m with
    | zero=>exact λ_=>⟨n,fz,ρ,[],h,.refl,rfl,λi hi=>(by simp at hi),λi hi=>(by simp at hi),λi hi=>(by simp at hi)⟩
    | succ m ih =>
      intro hm1
      obtain ⟨n1,fz1,ρ1,css,g1,g2,g3,g4,g5,g6⟩:=ih (by omega)
      obtain ⟨n2,fz2,ρ2,c,k1,k2,k3,k4,k5⟩:=hel m (by omega) n1 fz1 ρ1 g1
      refine ⟨n2,fz2,ρ2,css ++ [c],k1,g2.trans k2,by simp [g3],λi hi=>?_,λi hi=>?_,λi hi=>?_⟩
      all_goals
        rcases Nat.lt_or_ge i css.length with h1 | h1
        · rw [List.getElem_append_left h1]
          first | exact k2.vrs (g4 i h1) | exact g5 i h1 | exact hm k2.fz (g6 i h1)
        · have : i = m:=by simp at hi; omega
          subst this
          rw [List.getElem_append_right h1]
          simp only [g3,Nat.sub_self,List.getElem_cons_zero]
          first | exact k3 | exact k4 | exact k5
  obtain ⟨n1,fz1,ρ1,css,g1,g2,g3,g4,g5,g6⟩:=key len (Nat.le_refl _)
  rcases Nat.eq_zero_or_pos len with h0 | h0
  · subst h0
    exact ⟨n1,fz1,ρ1,[.zsl],g1,g2,⟨⟨a,cap,rfl⟩,trivial⟩,rfl,.zsl,css,rfl,.inl ⟨.inr (.inr rfl),List.length_eq_zero_iff.1 g3⟩,g3,g6⟩
  · have hls : ∀ e ∈ css, e.length = s ∧ knownAll e = true := fun e he => by
      obtain ⟨i,hi,rfl⟩:=List.getElem_of_mem he
      exact ⟨by rw [(g4 i hi).length,hlen i (by omega)],g5 i hi⟩
    have hfl : css.flatten.length = len * s:=by rw [flat_length λe he=>(hls e he).1,g3]
    -- the block
    obtain ⟨B,ty,fr,hB,hsp⟩ : ∃ B ty fr,w.heap[a.block]? = some (.cells B ty fr) ∧ a.spot = none:=by
      have:=hcell 0 0 (by omega) hs
      rw [List.getElem?_eq_getElem (by rw [hlen 0 (by omega)]; exact hs),Nat.zero_mul] at this
      have ha : (a.add 0).add 0 = a:=by simp [Addr.add]
      rw [ha] at this
      unfold World.cell? at this
      split at this
      · rename_i c t f hc
        refine ⟨c,t,f,hc,?_⟩
        split at this
        · cases this
        · rename_i hns; simpa using hns
      · cases this
    have hadd : ∀ k,a.add k = ⟨a.block,a.off + k,none⟩:=λk=>by
      cases a with | mk b o sp =>
      simp only at hsp
      subst hsp
      simp only [Addr.add]
      split
      · rename_i h; subst h; rfl
      · rfl
    have hB2 : ∀ i j,i < cap → j < s → B[a.off + (i * s + j)]? = (C i)[j]?:=λi j hi hj=>by
      rw [← hcell i j hi hj,hadd]
      have : (⟨a.block,a.off + i * s,none⟩ : Addr).add j = ⟨a.block,a.off + i * s + j,none⟩:=by
        simp only [Addr.add]
        split
        · rename_i h; subst h; rfl
        · rfl
      rw [this,Nat.add_assoc]
      simp only [World.cell?,hB]
      rfl
    have hsz : a.off + cap * s ≤ B.size:=by
      have h1:=hB2 (cap - 1) (s - 1) (by omega) (by omega)
      rw [List.getElem?_eq_getElem (by rw [hlen _ (by omega)]; omega)] at h1
      have h2:=(Array.getElem?_eq_some_iff.1 h1).1
      have h3 : (cap - 1) * s + (s - 1) + 1 = cap * s:=by
        obtain ⟨c,rfl⟩ : ∃ c,cap = c + 1:=⟨cap - 1,by omega⟩
        rw [Nat.add_sub_cancel,Nat.add_mul]; omega
      omega
    have hdiv : ∀ k,k < len * s → k / s < len ∧ k % s < s ∧ k = k / s * s + k % s:=λk hk=>⟨Nat.div_lt_of_lt_mul (by rw [Nat.mul_comm]; exact hk),Nat.mod_lt _ hs,by rw [Nat.mul_comm]; exact (Nat.div_add_mod k s).symm⟩
    let ρ2 : Rho:=upd ρ1 n1 (a.block,a.off)
    let fz2 : Fz:=λid=>if id = n1 then some css.flatten else fz1 id
    have hup : ∀ id p,ρ1 id = some p → ρ2 id = some p:=λid p hp=>upd_old (p:=(a.block,a.off)) (g1.fr n1 (Nat.le_refl _)).2 id p hp
    have hx : ImpX n1 fz1 ρ1 (n1 + 1) fz2 ρ2:=⟨by omega,λid B hb=>by
      show (if id = n1 then _ else _) = _
      rw [if_neg (λe=>by subst e; rw [(g1.fr id (Nat.le_refl _)).1] at hb; cases hb)]; exact hb,hup⟩
    refine ⟨n1 + 1,fz2,ρ2,[.osl n1 0 len len s],⟨λid hi=>⟨?_,?_⟩,λid cs hcs=>?_⟩,g2.trans hx,⟨⟨(a.block,a.off),cap,upd_same _ _ _,?_,Nat.le_refl _,hle,?_,?_⟩,trivial⟩,rfl,_,css,rfl,.inr ⟨n1,0,len,css.flatten,by rw [g3],by omega,?_,mkd_known (knownAll_flat hls),by rw [hfl,g3]; omega,?_,hls⟩,g3,λi hi=>hm hx.fz (g6 i hi)⟩
    · show (if id = n1 then _ else _) = none
      rw [if_neg (by omega)]; exact (g1.fr id (by omega)).1
    · show upd ρ1 n1 _ id = none
      unfold upd; rw [if_neg (by omega)]; exact (g1.fr id (by omega)).2
    · have hcs' : (if id = n1 then some css.flatten else fz1 id) = some cs:=hcs
      split at hcs'
      · rename_i e
        subst e
        cases hcs'
        refine ⟨(a.block,a.off),B,ty,fr,upd_same _ _ _,hB,?_,λk sv hk=>?_⟩
        · show a.off + css.flatten.length ≤ B.size
          have : len * s ≤ cap * s:=Nat.mul_le_mul_right _ hle
          omega
        · have hkl : k < len * s:=by rw [← hfl]; exact (List.getElem?_eq_some_iff.1 hk).1
          obtain ⟨d1,d2,d3⟩:=hdiv k hkl
          have hci : k / s < css.length:=by omega
          have h1:=flat_sub (es:=css) (i:=k / s) (k:=k % s) (m:=1) (λe he=>(hls e he).1) hci (by omega)
          rw [← d3] at h1
          have h2 : css.flatten[k]? = (css[k / s])[k % s]?:=by
            have:=congrArg List.head? h1
            rwa [List.head?_take,List.head?_take,if_neg (by omega),if_neg (by omega),List.head?_drop,List.head?_drop] at this
          rw [h2] at hk
          obtain ⟨v,hv,hr⟩:=(g4 _ hci).get hk
          refine ⟨v,?_,VR.mono hr hup λ_=>Nat.le_refl _⟩
          rw [show (a.block,a.off).2 + k = a.off + (k / s * s + k % s) by show a.off + k = _; omega,hB2 _ _ (by omega) d2]; exact hv
      · exact OwnR.mono (g1.own id cs hcs') hup (λ_=>Nat.le_refl _) λ_ _=>rfl
    · show Value.slice (some a) len cap = .slice (some ⟨a.block,a.off + 0,none⟩) len cap
      rw [← hadd 0]; rfl
    · show a.off + 0 + cap * s ≤ bsize w a.block
      unfold bsize; rw [hB]; show _ ≤ B.size; omega
    · unfold maxLen at hcap; omega
    · show (if n1 = n1 then some css.flatten else fz1 n1) = some _
      rw [if_pos rfl]
    · rw [List.drop_zero,List.take_of_length_le]
      rw [hfl,g3]; omega
end Go.Ev
namespace Go.Ev
set_option linter.unusedVariables false
section
variable {H : Type} {enc : TypeId × Value → H} {P : Program} {w : World}
def ImpT {H : Type} (enc : TypeId × Value → H) (P : Program) (w : World) (T : TypeId) (q : Fz → List SV → Prop) : Prop :=
  ∀ fuel cs d ps,DataW.trod enc P w 0 (λ_=>true) true fuel T cs = some (d,ps) → (∀ k ∈ d.weights P T,k ≤ reachBytes) → ∀ n fz ρ,Imp w n fz ρ → Im w n fz ρ cs q
def Mono (q : Fz → List SV → Prop) : Prop:=∀ M M' c,Sub M M' → q M c → q M' c
theorem ImpT.mono {T : TypeId} {q r : Fz → List SV → Prop} (h : ImpT enc P w T q) (hq : ∀ M c,q M c → r M c) : ImpT enc P w T r:=λfuel cs d ps h1 h2 n fz ρ h3=>(h fuel cs d ps h1 h2 n fz ρ h3).mono hq
theorem impT_int {T : TypeId} (ht : P.underlying T = some (.int .i64)) : ImpT enc P w T λ_ c=>∃ i : Int,(Lit.int .i64 i).wf = true ∧ c = [.int .i64 i]:=λfuel cs d ps h _ n fz ρ hi=>by
  obtain ⟨i,rfl,_,hw⟩:=DataW.trod_int ht h
  exact (Im.one hi (c:=[.int .i64 i]) (vs:=[.int .i64 i]) (λ_=>⟨rfl,trivial⟩) rfl).mono λ_ _ h=>⟨i,hw,h⟩
theorem impT_bool {T : TypeId} (ht : P.underlying T = some .bool) : ImpT enc P w T λ_ c=>∃ b,c = [.bool b]:=λfuel cs d ps h _ n fz ρ hi=>by
  obtain ⟨b,rfl,_⟩:=DataW.trod_bool ht h
  exact (Im.one hi (c:=[.bool b]) (vs:=[.bool b]) (λ_=>⟨rfl,trivial⟩) rfl).mono λ_ _ h=>⟨b,h⟩
theorem impT_str {T : TypeId} (ht : P.underlying T = some .string) : ImpT enc P w T λ_ c=>∃ l m,m < 256 ^ l ∧ l ≤ reachBytes ∧ c = [.str l m]:=λfuel cs d ps h hwt n fz ρ hi=>by
  obtain ⟨s,rfl,hx,_⟩:=DataW.trod_string ht h
  have hd : d = .lit (.string s.data.toList):=congrArg Prod.fst hx
  subst hd
  have hb:=hwt s.data.toList.length (by simp [DataW.weights])
  have hs : sOf s.data.toList.length (nOf s.data.toList) = s:=by
    apply ByteArray.ext
    apply Array.ext'
    show sB _ _ = _
    rw [nOf_eq]
  exact (Im.one hi (c:=[.str s.data.toList.length (nOf s.data.toList)]) (vs:=[.string s]) (λ_=>⟨⟨nOf_lt _,by rw [hs]⟩,trivial⟩) rfl).mono λ_ _ h=>⟨_,_,nOf_lt _,hb,h⟩
theorem imp_fields : ∀ (ts : List (TypeId × (Fz → List SV → Prop))) (segs : List (List Value)),(∀ p ∈ ts,Mono p.2) → All2 (λp cs=>∀ n fz ρ,Imp w n fz ρ → Im w n fz ρ cs p.2) ts segs → ∀ n fz ρ,Imp w n fz ρ → Im w n fz ρ segs.flatten λM c=>∃ cs,c = cs.flatten ∧ All2 (λp d=>p.2 M d) ts cs
  | [],[],_,_,n,fz,ρ,h=>(Im.one h (c:=[]) (vs:=[]) (λ_=>trivial) rfl).mono λ_ _ h=>⟨[],h,trivial⟩
  | [],_ :: _,_,h,_,_,_,_=>h.elim
  | _ :: _,[],_,h,_,_,_,_=>h.elim
  | p :: ts,s :: segs,hm,h,n,fz,ρ,hi=>by
    refine (Im.seq (q:=p.2) (λhs hq=>hm p (by simp) _ _ _ hs hq) (h.1 n fz ρ hi) λn fz ρ hi=>imp_fields ts segs (λp hp=>hm p (by simp [hp])) h.2 n fz ρ hi).mono ?_
    rintro M c ⟨a,b,rfl,h1,cs,rfl,h2⟩
    exact ⟨a :: cs,rfl,h1,h2⟩
def segsOf (P : Program) : List TypeId → List Value → List (List Value)
  | [],_=>[]
  | t :: ts,cs=>cs.take (P.cellsOf t) :: segsOf P ts (cs.drop (P.cellsOf t))
theorem segs_flat : ∀ (ts : List TypeId) (cs : List Value),cs.length = (ts.map P.cellsOf).sum → (segsOf P ts cs).flatten = cs
  | [],cs,h=>by simp at h; simp [segsOf,h]
  | t :: ts,cs,h=>by
    simp only [List.map_cons,List.sum_cons] at h
    simp only [segsOf,List.flatten_cons]
    rw [segs_flat ts _ (by simp; omega),List.take_append_drop]
theorem weights_each {ts : List TypeId} {ds : List (DataW H)} {i : Nat} {t : TypeId} {d : DataW H} (ht : ts[i]? = some t) (hd : ds[i]? = some d) : ∀ k ∈ d.weights P t,k ∈ DataW.weightsEach P ts ds:=λk hk=>DataW.weights_mem_each ht hd k hk
theorem weights_all {e : TypeId} : ∀ {ds : List (DataW H)} {d : DataW H},d ∈ ds → ∀ k ∈ d.weights P e,k ∈ DataW.weightsAll P e ds
  | [],_,h,_,_=>by cases h
  | x :: ds,d,h,k,hk=>by
    simp only [DataW.weightsAll,List.mem_append]
    rcases List.mem_cons.1 h with rfl | h
    · exact .inl hk
    · exact .inr (weights_all h k hk)
theorem impT_struct {T : TypeId} {fs : Array Field} (ht : P.underlying T = some (.struct fs)) (ts : List (TypeId × (Fz → List SV → Prop))) (hts : fs.toList.map (·.type) = ts.map (·.1)) (hoff : fs.toList.map (·.offset) = (List.range ts.length).map fun i => (((ts.map (·.1)).take i).map P.cellsOf).sum)
    (hsz : P.cellsOf T = ((ts.map (·.1)).map P.cellsOf).sum) (hm : ∀ p ∈ ts,Mono p.2) (hi : ∀ p ∈ ts,ImpT enc P w p.1 p.2) : ImpT enc P w T λM c=>∃ cs,c = cs.flatten ∧ All2 (λp d=>p.2 M d) ts cs:=λfuel cs d ps h hwt n fz ρ himp=>by
  obtain ⟨xs,m,_,hx,hlen,hxl,hf⟩:=DataW.trod_struct ht h
  have hd : d = .agg (xs.map (·.1)):=congrArg Prod.fst hx
  subst hd
  have hfl : fs.toList.length = ts.length:=by have:=congrArg List.length hts; simpa using this
  rw [show cs = (segsOf P (ts.map (·.1)) cs).flatten from (segs_flat _ _ (by rw [hlen,hsz])).symm]
  have hseg : ∀ (us : List TypeId) (cs : List Value) (i : Nat) (h : i < us.length),(segsOf P us cs)[i]? = some ((cs.drop ((us.take i).map P.cellsOf).sum).take (P.cellsOf us[i])):=by
    intro us
    induction us with
    | nil=>intro cs i h; simp at h
    | cons u us ih =>
      intro cs i h
      cases i with
      | zero=>simp [segsOf]
      | succ i =>
        have:=ih (cs.drop (P.cellsOf u)) i (by simpa using h)
        simp only [segsOf,List.getElem?_cons_succ,this,List.drop_drop,List.take_succ_cons,List.map_cons,List.sum_cons,List.getElem_cons_succ]
  have hsl : ∀ (us : List TypeId) (cs : List Value),(segsOf P us cs).length = us.length:=by
    intro us
    induction us with
    | nil=>intro cs; rfl
    | cons u us ih=>intro cs; simp [segsOf,ih]
  refine imp_fields ts _ hm (All2.of_get (by rw [hsl]; simp) λi p sg hp hsg n fz ρ himp=>?_) n fz ρ himp
  have hil : i < ts.length:=(List.getElem?_eq_some_iff.1 hp).1
  have hpe : ts[i] = p:=(List.getElem?_eq_some_iff.1 hp).2
  obtain ⟨f,hfi⟩ : ∃ f,fs[i]? = some f:=⟨fs[i]'(by have : fs.size = fs.toList.length:=rfl; omega),Array.getElem?_eq_getElem _⟩
  have hfi' : fs.toList[i]? = some f:=by simpa using hfi
  have e1 : f.type = p.1:=by
    have:=congrArg (·[i]?) hts
    simp only [List.getElem?_map,hfi',hp,Option.map_some] at this
    exact Option.some.inj this
  have e2 : f.offset = (((ts.map (·.1)).take i).map P.cellsOf).sum:=by
    have:=congrArg (·[i]?) hoff
    simp only [List.getElem?_map,hfi',List.getElem?_range hil,Option.map_some] at this
    exact Option.some.inj this
  have h1:=hf i f hfi
  rw [hseg _ _ i (by simpa using hil)] at hsg
  cases hsg
  have hxi : i < xs.length:=by rw [hxl]; have : fs.size = fs.toList.length:=rfl; omega
  rw [List.getElem?_eq_getElem hxi,e1,e2] at h1
  rw [List.getElem_map,hpe]
  refine hi p (List.mem_of_getElem? hp) m _ xs[i].1 xs[i].2 h1 (λk hk=>hwt k ?_) n fz ρ himp
  simp only [DataW.weights,ht]
  exact weights_each (i:=i) (t:=p.1) (d:=xs[i].1) (by rw [List.getElem?_map,hfi',Option.map_some,e1]) (by rw [List.getElem?_map,List.getElem?_eq_getElem hxi,Option.map_some]) k hk
theorem impT_slice {T e : TypeId} (ht : P.underlying T = some (.slice e)) {s b : Nat} (hs : P.cellsOf e = s) (hs0 : 0 < s) (hb : P.bytesOf e = b) {q : Fz → List SV → Prop} (hm : Mono q) (hi : ImpT enc P w e q) :
    ImpT enc P w T λM c=>∃ x css,c = [x] ∧ Sl M s x css ∧ css.length * b ≤ reachBytes ∧ ∀ d ∈ css,q M d:=λfuel cs d ps h hwt n fz ρ himp=>by
  rcases Go.Deep.open_slice ht h with ⟨rfl,_⟩ | ⟨a,len,cap,m,k,D,Pl,rfl,_,hle,hcap,hmm,hx,hel⟩
  · exact (Im.one himp (c:=[.nsl]) (vs:=[.slice none 0 0]) (λ_=>⟨rfl,trivial⟩) rfl).mono λM c hc=>⟨.nsl,[],hc,.inl ⟨.inl rfl,rfl⟩,by simp,λd hd=>(by cases hd)⟩
  · have hmm : m = cap:=hmm
    rw [hmm] at hx hel
    have hd : d = .slice ((List.range len).map D) ((List.range (cap - len)).map λj=>D (len + j)):=congrArg Prod.fst hx
    subst hd
    have hel' : ∀ i,i < cap → ∃ cs',w.cells? 0 (a.add (i * s)) s = some cs' ∧ DataW.trod enc P w 0 (λ_=>true) true k e cs' = some (D i,Pl i):=λi hi=>by rw [← hs]; exact hel i hi
    have hC : ∃ C : Nat → List Value,∀ i,i < cap → w.cells? 0 (a.add (i * s)) s = some (C i) ∧ DataW.trod enc P w 0 (λ_=>true) true k e (C i) = some (D i,Pl i):=by
      refine ⟨λi=>((w.cells? 0 (a.add (i * s)) s).getD []),λi hi=>?_⟩
      obtain ⟨cs',h1,h2⟩:=hel' i hi
      simp only [h1,Option.getD_some]; exact ⟨trivial,h2⟩
    obtain ⟨C,hC⟩:=hC
    have hw1 : ∀ i,i < len → ∀ k ∈ (D i).weights P e,k ≤ reachBytes:=λi hi k hk=>hwt k (by
      simp only [DataW.weights,ht,List.mem_cons,List.mem_append]
      exact .inr (.inl (weights_all (List.mem_map.2 ⟨i,by simpa using hi,rfl⟩) k hk)))
    have hw2 : len * b ≤ reachBytes:=by
      have:=hwt _ (by simp only [DataW.weights,ht,List.mem_cons]; exact .inl rfl)
      simp only [List.length_map,List.length_range,hb] at this
      have h3 : len * b ≤ (len + (cap - len)) * b:=Nat.mul_le_mul_right _ (by omega)
      omega
    refine (imp_slice hs0 (C:=C) (λi hi=>(hC i hi).1) hle hcap (El:=λM c _=>q M c) (λhs hq=>hm _ _ _ hs hq) (λi hi' n fz ρ h=>hi k (C i) _ _ (hC i (by omega)).2 (hw1 i hi') n fz ρ h) himp).mono ?_
    rintro M c ⟨x,css,rfl,h1,h2,h3⟩
    refine ⟨x,css,rfl,h1,by rw [h2]; exact hw2,λd hd=>?_⟩
    obtain ⟨i,hi,rfl⟩:=List.getElem_of_mem hd
    exact h3 i hi
end
end Go.Ev
namespace Go.Proofs.Ytnnjlnkoomeadaa.Pv
open Go.Ev Go.Ev.Rp
set_option maxRecDepth 100000
set_option linter.unusedVariables false
def qI : Fz → List SV → Prop:=λ_ c=>∃ i : Int,(Lit.int .i64 i).wf = true ∧ c = [I i]
def qS : Fz → List SV → Prop:=λ_ c=>∃ t : Tx,t.l ≤ reachBytes ∧ c = [t.sv]
def qB : Fz → List SV → Prop:=λ_ c=>∃ b,c = [SV.bool b]
structure LgW (l : Lg) : Prop where
  snap : l.snap.l ≤ reachBytes
  ents : l.ents.length * 56 ≤ reachBytes
  bat : ∀ e ∈ l.ents,e.batch.length * 32 ≤ reachBytes
structure MsgW (m : Msg) : Prop where
  bat : m.batch.length * 32 ≤ reachBytes
  log : LgW m.log
structure RepW (r : Rep) : Prop where
  log : LgW r.log
  acks : r.acks.length * 8 ≤ reachBytes
  starts : r.starts.length * 8 ≤ reachBytes
  dos : r.dos.length * 72 ≤ reachBytes
  dlog : ∀ d ∈ r.dos,LgW d.log
def qP : Fz → List SV → Prop:=λ_ c=>∃ p : Pt,c = ptC p
def qPs : Fz → List SV → Prop:=λM c=>∃ x l,c = [x] ∧ PtsR M x l ∧ l.length * 32 ≤ reachBytes
def qE : Fz → List SV → Prop:=λM c=>∃ b e,c = entC e b ∧ PtsR M b e.batch ∧ e.batch.length * 32 ≤ reachBytes
def qEs : Fz → List SV → Prop:=λM c=>∃ x l,c = [x] ∧ EntsR M x l ∧ l.length * 56 ≤ reachBytes ∧ ∀ e ∈ l,e.batch.length * 32 ≤ reachBytes
def qL : Fz → List SV → Prop:=λM c=>∃ x l,c = lgC l x ∧ EntsR M x l.ents ∧ LgW l
def qIs : Fz → List SV → Prop:=λM c=>∃ x l,c = [x] ∧ IntsR M x l ∧ l.length * 8 ≤ reachBytes
def qD : Fz → List SV → Prop:=λM c=>∃ x d,c = dvC d x ∧ EntsR M x d.log.ents ∧ LgW d.log
def qDs : Fz → List SV → Prop:=λM c=>∃ x l,c = [x] ∧ DvsR M x l ∧ l.length * 72 ≤ reachBytes ∧ ∀ d ∈ l,LgW d.log
def qR : Fz → List SV → Prop:=λM c=>∃ xe xa xs xd r,c = repC r xe xa xs xd ∧ RepS M r xe xa xs xd ∧ RepW r
def qM : Fz → List SV → Prop:=λM c=>∃ xb xe m,c = msgC m xb xe ∧ MsgS M m xb xe ∧ MsgW m
def qX : Fz → List SV → Prop:=λM c=>∃ xa xb xm x,c = rdC x xa xb xm ∧ IntsR M xa x.agreed ∧ MsgS M x.msg xb xm ∧ x.agreed.length * 8 ≤ reachBytes ∧ MsgW x.msg
theorem qM_m : Mono qM:=λ_ _ _ s ⟨xb,xe,m,h1,h2,h3⟩=>⟨xb,xe,m,h1,MsgS.mono s h2,h3⟩
theorem qI_m : Mono qI:=λ_ _ _ _ h=>h
theorem qS_m : Mono qS:=λ_ _ _ _ h=>h
theorem qB_m : Mono qB:=λ_ _ _ _ h=>h
theorem qP_m : Mono qP:=λ_ _ _ _ h=>h
theorem qPs_m : Mono qPs:=λ_ _ _ s ⟨x,l,h1,h2,h3⟩=>⟨x,l,h1,PtsR.mono s h2,h3⟩
theorem qE_m : Mono qE:=λ_ _ _ s ⟨b,e,h1,h2,h3⟩=>⟨b,e,h1,PtsR.mono s h2,h3⟩
theorem qEs_m : Mono qEs:=λ_ _ _ s ⟨x,l,h1,h2,h3⟩=>⟨x,l,h1,EntsR.mono s h2,h3⟩
theorem qL_m : Mono qL:=λ_ _ _ s ⟨x,l,h1,h2,h3⟩=>⟨x,l,h1,EntsR.mono s h2,h3⟩
theorem qIs_m : Mono qIs:=λ_ _ _ s ⟨x,l,h1,h2,h3⟩=>⟨x,l,h1,IntsR.mono s h2,h3⟩
theorem qD_m : Mono qD:=λ_ _ _ s ⟨x,d,h1,h2,h3⟩=>⟨x,d,h1,EntsR.mono s h2,h3⟩
theorem qDs_m : Mono qDs:=λ_ _ _ s ⟨x,l,h1,h2,h3⟩=>⟨x,l,h1,DvsR.mono s h2,h3⟩
section
variable {H : Type} {enc : TypeId × Value → H} {w : World}
theorem im_int : ImpT enc Try.prog w 3 qI:=impT_int Try.underlying3
theorem im_bool : ImpT enc Try.prog w 4 qB:=impT_bool Try.underlying4
theorem im_str : ImpT enc Try.prog w 9 qS:=(impT_str Try.underlying9).mono λ_ _ ⟨l,m,h1,h2,h3⟩=>⟨⟨l,m,h1⟩,h2,h3⟩
theorem im_pt : ImpT enc Try.prog w 126 qP:=by
  refine (impT_struct Try.underlying126 [(9,qS),(3,qI),(3,qI)] rfl (by decide +kernel) (by decide +kernel) ?_ ?_).mono ?_
  · intro p hp; simp only [List.mem_cons,List.not_mem_nil,or_false] at hp; rcases hp with rfl | rfl | rfl <;> first | exact qS_m | exact qI_m
  · intro p hp; simp only [List.mem_cons,List.not_mem_nil,or_false] at hp; rcases hp with rfl | rfl | rfl <;> first | exact im_str | exact im_int
  · rintro M c ⟨cs,rfl,h⟩
    obtain ⟨c0,c1,c2,rfl⟩ : ∃ c0 c1 c2,cs = [c0,c1,c2]:=by
      have hl:=h.length
      rcases cs with _ | ⟨c0,cs⟩
      · simp at hl
      rcases cs with _ | ⟨c1,cs⟩
      · simp at hl
      rcases cs with _ | ⟨c2,cs⟩
      · simp at hl
      rcases cs with _ | ⟨c,cs⟩
      · exact ⟨c0,c1,c2,rfl⟩
      · simp at hl
    obtain ⟨h0,h1,h2,-⟩:=h
    obtain ⟨s,-,rfl⟩:=h0
    obtain ⟨a,-,rfl⟩:=h1
    obtain ⟨b,-,rfl⟩:=h2
    exact ⟨⟨s,a,b⟩,rfl⟩
theorem im_pts : ImpT enc Try.prog w 29 qPs:=by
  refine (impT_slice Try.underlying29 (s:=3) (b:=32) (by decide +kernel) (by decide) (by decide +kernel) qP_m im_pt).mono ?_
  rintro M c ⟨x,css,rfl,h1,h2,h3⟩
  have hl : ∃ l : List Pt,css = l.map ptC:=by
    clear h1 h2
    induction css with
    | nil=>exact ⟨[],rfl⟩
    | cons d css ih =>
      obtain ⟨l,hl⟩:=ih λd hd=>h3 d (by simp [hd])
      obtain ⟨p,rfl⟩:=h3 d (by simp)
      exact ⟨p :: l,by rw [hl]; rfl⟩
  obtain ⟨l,rfl⟩:=hl
  exact ⟨x,l,rfl,h1,by simpa using h2⟩
theorem im_ent : ImpT enc Try.prog w 47 qE:=by
  refine (impT_struct Try.underlying47 [(3,qI),(3,qI),(3,qI),(3,qI),(29,qPs)] rfl (by decide +kernel) (by decide +kernel) ?_ ?_).mono ?_
  · intro p hp; simp only [List.mem_cons,List.not_mem_nil,or_false] at hp; rcases hp with rfl | rfl | rfl | rfl | rfl <;> first | exact qI_m | exact qPs_m
  · intro p hp; simp only [List.mem_cons,List.not_mem_nil,or_false] at hp; rcases hp with rfl | rfl | rfl | rfl | rfl <;> first | exact im_int | exact im_pts
  · rintro M c ⟨cs,rfl,h⟩
    obtain ⟨c0,c1,c2,c3,c4,rfl⟩ : ∃ c0 c1 c2 c3 c4,cs = [c0,c1,c2,c3,c4]:=by
      have hl:=h.length
      rcases cs with _ | ⟨c0,cs⟩
      · simp at hl
      rcases cs with _ | ⟨c1,cs⟩
      · simp at hl
      rcases cs with _ | ⟨c2,cs⟩
      · simp at hl
      rcases cs with _ | ⟨c3,cs⟩
      · simp at hl
      rcases cs with _ | ⟨c4,cs⟩
      · simp at hl
      rcases cs with _ | ⟨c,cs⟩
      · exact ⟨c0,c1,c2,c3,c4,rfl⟩
      · simp at hl
    obtain ⟨h0,h1,h2,h3,h4,-⟩:=h
    obtain ⟨a,-,rfl⟩:=h0
    obtain ⟨b,-,rfl⟩:=h1
    obtain ⟨c,-,rfl⟩:=h2
    obtain ⟨d,-,rfl⟩:=h3
    obtain ⟨x,l,rfl,g1,g2⟩:=h4
    exact ⟨x,⟨a,b,c,d,l⟩,rfl,g1,g2⟩
theorem im_ents : ImpT enc Try.prog w 22 qEs:=by
  refine (impT_slice Try.underlying22 (s:=5) (b:=56) (by decide +kernel) (by decide) (by decide +kernel) qE_m im_ent).mono ?_
  rintro M c ⟨x,css,rfl,h1,h2,h3⟩
  have hl : ∃ l : List Ent,All2 (EntR M) css l ∧ ∀ e ∈ l,e.batch.length * 32 ≤ reachBytes:=by
    clear h1 h2
    induction css with
    | nil=>exact ⟨[],trivial,λe he=>(by cases he)⟩
    | cons d css ih =>
      obtain ⟨l,hl⟩:=ih λd hd=>h3 d (by simp [hd])
      obtain ⟨b,e,rfl,g1,g2⟩:=h3 d (by simp)
      exact ⟨e :: l,⟨⟨b,rfl,g1⟩,hl.1⟩,λe he=>by rcases List.mem_cons.1 he with rfl | he; exact g2; exact hl.2 e he⟩
  obtain ⟨l,hl,hb⟩:=hl
  exact ⟨x,l,rfl,⟨css,h1,hl⟩,by rw [← hl.length]; exact h2,hb⟩
theorem im_log : ImpT enc Try.prog w 24 qL:=by
  refine (impT_struct Try.underlying24 [(3,qI),(9,qS),(22,qEs)] rfl (by decide +kernel) (by decide +kernel) ?_ ?_).mono ?_
  · intro p hp; simp only [List.mem_cons,List.not_mem_nil,or_false] at hp; rcases hp with rfl | rfl | rfl <;> first | exact qI_m | exact qS_m | exact qEs_m
  · intro p hp; simp only [List.mem_cons,List.not_mem_nil,or_false] at hp; rcases hp with rfl | rfl | rfl <;> first | exact im_int | exact im_str | exact im_ents
  · rintro M c ⟨cs,rfl,h⟩
    obtain ⟨c0,c1,c2,rfl⟩ : ∃ c0 c1 c2,cs = [c0,c1,c2]:=by
      have hl:=h.length
      rcases cs with _ | ⟨c0,cs⟩
      · simp at hl
      rcases cs with _ | ⟨c1,cs⟩
      · simp at hl
      rcases cs with _ | ⟨c2,cs⟩
      · simp at hl
      rcases cs with _ | ⟨c,cs⟩
      · exact ⟨c0,c1,c2,rfl⟩
      · simp at hl
    obtain ⟨h0,h1,h2,-⟩:=h
    obtain ⟨a,-,rfl⟩:=h0
    obtain ⟨s,hs,rfl⟩:=h1
    obtain ⟨x,l,rfl,g1,g2,g3⟩:=h2
    exact ⟨x,⟨a,s,l⟩,rfl,g1,hs,g2,g3⟩
theorem im_ints : ImpT enc Try.prog w 25 qIs:=by
  refine (impT_slice Try.underlying25 (s:=1) (b:=8) (by decide +kernel) (by decide) (by decide +kernel) qI_m im_int).mono ?_
  rintro M c ⟨x,css,rfl,h1,h2,h3⟩
  have hl : ∃ l : List Int,css = l.map intC:=by
    clear h1 h2
    induction css with
    | nil=>exact ⟨[],rfl⟩
    | cons d css ih =>
      obtain ⟨l,hl⟩:=ih λd hd=>h3 d (by simp [hd])
      obtain ⟨i,-,rfl⟩:=h3 d (by simp)
      exact ⟨i :: l,by rw [hl]; rfl⟩
  obtain ⟨l,rfl⟩:=hl
  exact ⟨x,l,rfl,h1,by simpa using h2⟩
theorem im_do : ImpT enc Try.prog w 70 qD:=by
  refine (impT_struct Try.underlying70 [(3,qI),(3,qI),(3,qI),(24,qL)] rfl (by decide +kernel) (by decide +kernel) ?_ ?_).mono ?_
  · intro p hp; simp only [List.mem_cons,List.not_mem_nil,or_false] at hp; rcases hp with rfl | rfl | rfl | rfl <;> first | exact qI_m | exact qL_m
  · intro p hp; simp only [List.mem_cons,List.not_mem_nil,or_false] at hp; rcases hp with rfl | rfl | rfl | rfl <;> first | exact im_int | exact im_log
  · rintro M c ⟨cs,rfl,h⟩
    obtain ⟨c0,c1,c2,c3,rfl⟩ : ∃ c0 c1 c2 c3,cs = [c0,c1,c2,c3]:=by
      have hl:=h.length
      rcases cs with _ | ⟨c0,cs⟩
      · simp at hl
      rcases cs with _ | ⟨c1,cs⟩
      · simp at hl
      rcases cs with _ | ⟨c2,cs⟩
      · simp at hl
      rcases cs with _ | ⟨c3,cs⟩
      · simp at hl
      rcases cs with _ | ⟨c,cs⟩
      · exact ⟨c0,c1,c2,c3,rfl⟩
      · simp at hl
    obtain ⟨h0,h1,h2,h3,-⟩:=h
    obtain ⟨a,-,rfl⟩:=h0
    obtain ⟨b,-,rfl⟩:=h1
    obtain ⟨c,-,rfl⟩:=h2
    obtain ⟨x,l,rfl,g1,g2⟩:=h3
    exact ⟨x,⟨a,b,c,l⟩,rfl,g1,g2⟩
theorem im_dos : ImpT enc Try.prog w 26 qDs:=by
  refine (impT_slice Try.underlying26 (s:=6) (b:=72) (by decide +kernel) (by decide) (by decide +kernel) qD_m im_do).mono ?_
  rintro M c ⟨x,css,rfl,h1,h2,h3⟩
  have hl : ∃ l : List Dv,All2 (DvR M) css l ∧ ∀ d ∈ l,LgW d.log:=by
    clear h1 h2
    induction css with
    | nil=>exact ⟨[],trivial,λe he=>(by cases he)⟩
    | cons d css ih =>
      obtain ⟨l,hl⟩:=ih λd hd=>h3 d (by simp [hd])
      obtain ⟨b,e,rfl,g1,g2⟩:=h3 d (by simp)
      exact ⟨e :: l,⟨⟨b,rfl,g1⟩,hl.1⟩,λe he=>by rcases List.mem_cons.1 he with rfl | he; exact g2; exact hl.2 e he⟩
  obtain ⟨l,hl,hb⟩:=hl
  exact ⟨x,l,rfl,⟨css,h1,hl⟩,by rw [← hl.length]; exact h2,hb⟩
theorem im_rep : ImpT enc Try.prog w 28 qR:=by
  refine (impT_struct Try.underlying28 [(3,qI),(3,qI),(3,qI),(3,qI),(3,qI),(3,qI),(4,qB),(24,qL),(25,qIs),(25,qIs),(26,qDs)] rfl (by decide +kernel) (by decide +kernel) ?_ ?_).mono ?_
  · intro p hp; simp only [List.mem_cons,List.not_mem_nil,or_false] at hp; rcases hp with rfl | rfl | rfl | rfl | rfl | rfl | rfl | rfl | rfl | rfl | rfl <;> first | exact qI_m | exact qB_m | exact qL_m | exact qIs_m | exact qDs_m
  · intro p hp; simp only [List.mem_cons,List.not_mem_nil,or_false] at hp; rcases hp with rfl | rfl | rfl | rfl | rfl | rfl | rfl | rfl | rfl | rfl | rfl <;> first | exact im_int | exact im_bool | exact im_log | exact im_ints | exact im_dos
  · rintro M c ⟨cs,rfl,h⟩
    obtain ⟨c0,c1,c2,c3,c4,c5,c6,c7,c8,c9,c10,rfl⟩ : ∃ c0 c1 c2 c3 c4 c5 c6 c7 c8 c9 c10,cs = [c0,c1,c2,c3,c4,c5,c6,c7,c8,c9,c10]:=by
      have hl:=h.length
      rcases cs with _ | ⟨c0,cs⟩
      · simp at hl
      rcases cs with _ | ⟨c1,cs⟩
      · simp at hl
      rcases cs with _ | ⟨c2,cs⟩
      · simp at hl
      rcases cs with _ | ⟨c3,cs⟩
      · simp at hl
      rcases cs with _ | ⟨c4,cs⟩
      · simp at hl
      rcases cs with _ | ⟨c5,cs⟩
      · simp at hl
      rcases cs with _ | ⟨c6,cs⟩
      · simp at hl
      rcases cs with _ | ⟨c7,cs⟩
      · simp at hl
      rcases cs with _ | ⟨c8,cs⟩
      · simp at hl
      rcases cs with _ | ⟨c9,cs⟩
      · simp at hl
      rcases cs with _ | ⟨c10,cs⟩
      · simp at hl
      rcases cs with _ | ⟨c,cs⟩
      · exact ⟨c0,c1,c2,c3,c4,c5,c6,c7,c8,c9,c10,rfl⟩
      · simp at hl
    obtain ⟨h0,h1,h2,h3,h4,h5,h6,h7,h8,h9,h10,-⟩:=h
    obtain ⟨a0,-,rfl⟩:=h0
    obtain ⟨a1,-,rfl⟩:=h1
    obtain ⟨a2,-,rfl⟩:=h2
    obtain ⟨a3,-,rfl⟩:=h3
    obtain ⟨a4,-,rfl⟩:=h4
    obtain ⟨a5,-,rfl⟩:=h5
    obtain ⟨b,rfl⟩:=h6
    obtain ⟨xe,l,rfl,g1,g2⟩:=h7
    obtain ⟨xa,la,rfl,g3,g4⟩:=h8
    obtain ⟨xs,ls,rfl,g5,g6⟩:=h9
    obtain ⟨xd,ld,rfl,g7,g8,g9⟩:=h10
    exact ⟨xe,xa,xs,xd,⟨a0,a1,a2,a3,a4,a5,b,l,la,ls,ld⟩,rfl,⟨g1,g3,g5,g7⟩,⟨g2,g4,g6,g8,g9⟩⟩
theorem im_msg : ImpT enc Try.prog w 31 qM:=by
  refine (impT_struct Try.underlying31 [(3,qI),(3,qI),(3,qI),(3,qI),(3,qI),(3,qI),(3,qI),(3,qI),(3,qI),(3,qI),(3,qI),(3,qI),(3,qI),(3,qI),(9,qS),(29,qPs),(24,qL),(9,qS)] rfl (by decide +kernel) (by decide +kernel) ?_ ?_).mono ?_
  · intro p hp; simp only [List.mem_cons,List.not_mem_nil,or_false] at hp; rcases hp with rfl | rfl | rfl | rfl | rfl | rfl | rfl | rfl | rfl | rfl | rfl | rfl | rfl | rfl | rfl | rfl | rfl | rfl <;> first | exact qI_m | exact qS_m | exact qPs_m | exact qL_m
  · intro p hp; simp only [List.mem_cons,List.not_mem_nil,or_false] at hp; rcases hp with rfl | rfl | rfl | rfl | rfl | rfl | rfl | rfl | rfl | rfl | rfl | rfl | rfl | rfl | rfl | rfl | rfl | rfl <;> first | exact im_int | exact im_str | exact im_pts | exact im_log
  · rintro M c ⟨cs,rfl,h⟩
    obtain ⟨c0,c1,c2,c3,c4,c5,c6,c7,c8,c9,c10,c11,c12,c13,c14,c15,c16,c17,rfl⟩ : ∃ c0 c1 c2 c3 c4 c5 c6 c7 c8 c9 c10 c11 c12 c13 c14 c15 c16 c17,cs = [c0,c1,c2,c3,c4,c5,c6,c7,c8,c9,c10,c11,c12,c13,c14,c15,c16,c17]:=by
      have hl:=h.length
      rcases cs with _ | ⟨c0,cs⟩
      · simp at hl
      rcases cs with _ | ⟨c1,cs⟩
      · simp at hl
      rcases cs with _ | ⟨c2,cs⟩
      · simp at hl
      rcases cs with _ | ⟨c3,cs⟩
      · simp at hl
      rcases cs with _ | ⟨c4,cs⟩
      · simp at hl
      rcases cs with _ | ⟨c5,cs⟩
      · simp at hl
      rcases cs with _ | ⟨c6,cs⟩
      · simp at hl
      rcases cs with _ | ⟨c7,cs⟩
      · simp at hl
      rcases cs with _ | ⟨c8,cs⟩
      · simp at hl
      rcases cs with _ | ⟨c9,cs⟩
      · simp at hl
      rcases cs with _ | ⟨c10,cs⟩
      · simp at hl
      rcases cs with _ | ⟨c11,cs⟩
      · simp at hl
      rcases cs with _ | ⟨c12,cs⟩
      · simp at hl
      rcases cs with _ | ⟨c13,cs⟩
      · simp at hl
      rcases cs with _ | ⟨c14,cs⟩
      · simp at hl
      rcases cs with _ | ⟨c15,cs⟩
      · simp at hl
      rcases cs with _ | ⟨c16,cs⟩
      · simp at hl
      rcases cs with _ | ⟨c17,cs⟩
      · simp at hl
      rcases cs with _ | ⟨c,cs⟩
      · exact ⟨c0,c1,c2,c3,c4,c5,c6,c7,c8,c9,c10,c11,c12,c13,c14,c15,c16,c17,rfl⟩
      · simp at hl
    obtain ⟨h0,h1,h2,h3,h4,h5,h6,h7,h8,h9,h10,h11,h12,h13,h14,h15,h16,h17,-⟩:=h
    obtain ⟨a0,-,rfl⟩:=h0
    obtain ⟨a1,-,rfl⟩:=h1
    obtain ⟨a2,-,rfl⟩:=h2
    obtain ⟨a3,-,rfl⟩:=h3
    obtain ⟨a4,-,rfl⟩:=h4
    obtain ⟨a5,-,rfl⟩:=h5
    obtain ⟨a6,-,rfl⟩:=h6
    obtain ⟨a7,-,rfl⟩:=h7
    obtain ⟨a8,-,rfl⟩:=h8
    obtain ⟨a9,-,rfl⟩:=h9
    obtain ⟨a10,-,rfl⟩:=h10
    obtain ⟨a11,-,rfl⟩:=h11
    obtain ⟨a12,-,rfl⟩:=h12
    obtain ⟨a13,-,rfl⟩:=h13
    obtain ⟨s,-,rfl⟩:=h14
    obtain ⟨xb,lb,rfl,g1,g2⟩:=h15
    obtain ⟨xe,l,rfl,g3,g4⟩:=h16
    obtain ⟨s2,-,rfl⟩:=h17
    exact ⟨xb,xe,⟨a0,a1,a2,a3,a4,a5,a6,a7,a8,a9,a10,a11,a12,a13,s,lb,l,s2⟩,rfl,⟨g1,g3⟩,⟨g2,g4⟩⟩
theorem im_rd : ImpT enc Try.prog w 33 qX:=by
  refine (impT_struct Try.underlying33 [(3,qI),(3,qI),(3,qI),(25,qIs),(31,qM)] rfl (by decide +kernel) (by decide +kernel) ?_ ?_).mono ?_
  · intro p hp; simp only [List.mem_cons,List.not_mem_nil,or_false] at hp; rcases hp with rfl | rfl | rfl | rfl | rfl <;> first | exact qI_m | exact qIs_m | exact qM_m
  · intro p hp; simp only [List.mem_cons,List.not_mem_nil,or_false] at hp; rcases hp with rfl | rfl | rfl | rfl | rfl <;> first | exact im_int | exact im_ints | exact im_msg
  · rintro M c ⟨cs,rfl,h⟩
    obtain ⟨c0,c1,c2,c3,c4,rfl⟩ : ∃ c0 c1 c2 c3 c4,cs = [c0,c1,c2,c3,c4]:=by
      have hl:=h.length
      rcases cs with _ | ⟨c0,cs⟩
      · simp at hl
      rcases cs with _ | ⟨c1,cs⟩
      · simp at hl
      rcases cs with _ | ⟨c2,cs⟩
      · simp at hl
      rcases cs with _ | ⟨c3,cs⟩
      · simp at hl
      rcases cs with _ | ⟨c4,cs⟩
      · simp at hl
      rcases cs with _ | ⟨c,cs⟩
      · exact ⟨c0,c1,c2,c3,c4,rfl⟩
      · simp at hl
    obtain ⟨h0,h1,h2,h3,h4,-⟩:=h
    obtain ⟨a,-,rfl⟩:=h0
    obtain ⟨b,-,rfl⟩:=h1
    obtain ⟨c,-,rfl⟩:=h2
    obtain ⟨xa,l,rfl,g1,g2⟩:=h3
    obtain ⟨xb,xe,m,rfl,g3,g4⟩:=h4
    exact ⟨xa,xb,xe,⟨a,b,c,l,m⟩,rfl,g1,g3,g2,g4⟩
end
end Go.Proofs.Ytnnjlnkoomeadaa.Pv
namespace Go.Ev
set_option linter.unusedVariables false
theorem calls_of_CP {P : Program} {f : Nat} {avs : List AV} {fz : Fz} {n : Nat} {ρ : Rho} {w : World} {xs : List Value} (h : CP P f avs fz [] n fun v _ _ => v = .one (.bool true)) (hi : Imp w n fz ρ) (hx : All2 (AVR v0 ρ w) avs xs) :
    Calls P f xs.toArray w λe w'=>e = .returned (.bool true) ∧ Fr ρ [] w w':=by
  obtain ⟨v,mu',n',rfl,hb,hle,hc⟩:=h
  refine (hc ρ w xs hi.rel hx hi.fresh).mono λe w' ⟨x,he,ρ',h1,h2,h3,h4,_⟩=>⟨?_,h4⟩
  have : x = .bool true:=h3
  rw [he,this]
section
open Go.ChangeShapes Go.WideShapes Go.RowKit
variable {H : Type} {enc : TypeId × Value → H} {P : Program}
theorem trodAll_stays (hl : laidOutB P = true) {W W' : World} (hb : Below W.heap.size W W') {sp : Nat → Bool} : ∀ {ts : List TypeId} {vs : List Value} {ds : List (DataW H)} {ps : List MemPlace}, (∀ t ∈ ts, P.readableRec t = true ∧ t < P.types.size) →
    DataW.TrodAll enc P W 0 (λ_=>true) true ts vs ds ps → (∀ x ∈ ps,x.block < W.heap.size) → (∀ p ∈ ps,sp p.block = true) → DataW.TrodAll enc P W' 0 sp true ts vs ds ps
  | [],[],[],_,_,h,_,_=>h
  | t :: ts, v :: vs, d :: ds, ps, ht, ⟨p, q, h1, h2, he⟩, hlt, hs => ⟨p, q, WideElems.Trod_stays hl (ht t (by simp)).1 (ht t (by simp)).2 h1 (fun x hx => hb.same (hlt x (by rw [he]; simp [hx]))) (fun x hx => hs x (by rw [he]; simp [hx])),
      trodAll_stays hl hb (λt h=>ht t (by simp [h])) h2 (λx hx=>hlt x (by rw [he]; simp [hx])) (λx hx=>hs x (by rw [he]; simp [hx])),he⟩
  | [],_ :: _,_,_,_,h,_,_=>h.elim
  | [],[],_ :: _,_,_,h,_,_=>h.elim
  | _ :: _,[],_,_,_,h,_,_=>h.elim
  | _ :: _,_ :: _,[],_,_,h,_,_=>h.elim
theorem Fr.below {ρ : Rho} {w w' : World} (h : Fr ρ [] w w') : Below w.heap.size w w':=⟨h.os,h.tape,h.output,h.size,λk hk=>h.keep k hk λid p hl=>by cases hl⟩
theorem post_law {f : Func} {s : ChangeSpec} {apart fresh handsOn again : Bool} {W W' : World} {args : Array Value} {ds gs : List (DataW H)} {before : List MemPlace} {ρ : Rho} {tb : TypeId} (hl : laidOutB P = true) (hts : ∀ t ∈ f.params.toList, P.readableRec t = true ∧ t < P.types.size)
    (hv : s.vars = []) (hr : f.resultTypes = #[tb]) (htb : P.underlying tb = some .bool) (hs : (s.fn H (ds ++ gs)).results = [.lit (.bool true)]) (hs2 : (s.fn H (ds ++ gs)).args = ds) (hs3 : (s.fn H (ds ++ gs)).vars = [])
    (hW : DataW.Whole enc P f.params.toList s.vars apart W args.toList ds gs before) (hf : Fr ρ [] W W') : s.post enc P f apart fresh handsOn again W args (.bool true) W':=by
  have hlt:=hW.lt
  have hW':=hW
  obtain ⟨p,q,hA,hV,rfl,hfz,hnd⟩:=hW
  have hq : q = []:=by
    rw [hv] at hV
    cases gs with
    | nil=>exact hV
    | cons g gs=>exact hV.elim
  subst hq
  have hg:=hf.grown
  refine post_of_grown (pa:=p) (pv:=[]) hW' (λb sp hd=>?_) (λsp hsp=>?_) (λsp hsp=>?_) rfl (hg.frame _) hg.2.1 ?_
  · rw [hs,hr]; exact trodAll_cons_mk (shut_bool htb _) trodAll_mk0
  · rw [hs2]; exact trodAll_stays hl (Fr.below hf) hts hA (λx hx=>hlt x (by simp [hx])) (λx hx=>hsp x (by simp [hx]))
  · rw [hs3,hv]; exact rfl
  · exact ok_one hr rfl (okWide_bool_mk htb _)
end
end Go.Ev
