/-
  The evaluator: calls, laws, numbers of a range.
-/
import Derived.Test.YtkmopacddblfeaaGreatEwM4
import Derived.RowKit3
import Derived.ChangeSame
set_option linter.unusedVariables false
set_option linter.unusedSimpArgs false
noncomputable section
namespace Go.Ev
def AExit.toExit : AExit → Exit
 | .normal=>.normal
 | .exit id=>.exit id
 | .ret=>.ret
theorem withAnc_length : ∀ (l : List AOper) (as : List (List Nat)),l.length = as.length → (withAnc l as).length = l.length
 | [],_,_=>by simp [withAnc]
 | _ :: l,[],h=>by simp at h
 | _ :: l,_ :: as,h=>by simp [withAnc,withAnc_length l as (by simpa using h)]
theorem ancs_length : ∀ (l : List Oper) (acc : List (List Nat)),(ancs l acc).length = acc.length + l.length
 | [],acc=>by simp [ancs]
 | o :: l,acc=>by simp [ancs,ancs_length l]; omega
theorem withAnc_get : ∀ {l : List AOper} {as : List (List Nat)} {i : Nat} {p q : AOper},l[i]? = some p → (withAnc l as)[i]? = some q → q.dst = p.dst ∧ q.op = p.op ∧ q.g = p.g
 | [],_,_,_,_,h,_=>by simp at h
 | _ :: _,[],_,_,_,_,h=>by simp [withAnc] at h
 | a :: l,b :: as,0,p,q,h,h'=>by simp [withAnc] at h h'; subst h; subst h'; exact ⟨rfl,rfl,rfl⟩
 | a :: l,b :: as,i + 1,p,q,h,h'=>by simp [withAnc] at h h'; exact withAnc_get h h'
theorem raise_same (ops : List (AOper × Nat)) (i : Nat) (o : AOper) : (raise ops i o).dst = o.dst ∧ (raise ops i o).op = o.op ∧ (raise ops i o).g = o.g:=by
 unfold raise
 split
 ·split <;> exact ⟨rfl,rfl,rfl⟩
 ·split <;> exact ⟨rfl,rfl,rfl⟩
 ·split <;> exact ⟨rfl,rfl,rfl⟩
 ·exact ⟨rfl,rfl,rfl⟩
theorem prepOpers_length {P : Program} {m : Muts} {ops : Array Oper} : ∀ {l : List Oper} {al : List AOper},prepOpers P m ops l = some al → al.length = l.length
 | [],al,h=>by simp [prepOpers] at h; subst h; rfl
 | o :: l, al, h => by
  simp only [prepOpers] at h
  split at h
  ·rename_i op g r h1 h2 h3
   cases h
   simp [prepOpers_length h3]
  ·cases h
theorem modes_length {P : Program} {m : Muts} {ops : Array Oper} {l : List Oper} {al : List AOper} (h : prepOpers P m ops l = some al) : (modes al (ancs l [])).length = l.length:=by
 have h1:=prepOpers_length h
 simp [modes,withAnc_length al (ancs l []) (by simp [ancs_length,h1]),h1]
theorem modes_get {al : List AOper} {as : List (List Nat)} {i : Nat} {p q : AOper} (h : al[i]? = some p) (h' : (modes al as)[i]? = some q) : q.dst = p.dst ∧ q.op = p.op ∧ q.g = p.g:=by
 unfold modes at h'
 rw [List.getElem?_map] at h'
 obtain ⟨⟨x,j⟩,hx,rfl⟩:=Option.map_eq_some_iff.1 h'
 rw [List.getElem?_zipIdx] at hx
 obtain ⟨y,hy,e⟩:=Option.map_eq_some_iff.1 hx
 simp at e
 obtain ⟨rfl,rfl⟩:=e
 obtain ⟨a1,a2,a3⟩:=raise_same ((withAnc al as).zipIdx) i y
 obtain ⟨b1,b2,b3⟩:=withAnc_get h hy
 exact ⟨a1.trans b1,a2.trans b2,a3.trans b3⟩
theorem OpR.same {P : Program} {ops : Array Oper} {o : Oper} {p q : AOper} (h : OpR P ops o p) (e : q.dst = p.dst ∧ q.op = p.op ∧ q.g = p.g) : OpR P ops o q :=
 ⟨e.1.trans h.1,by rw [e.2.1]; exact h.2.1,by rw [e.2.2]; exact h.2.2⟩
section
variable {R : Type} {T : R → Prop} {z : R} {P : Program} {val : Nat → Int} {fz : Fz} {orc : Orc R} {call : CallT R}
end
end Go.Ev
namespace Go.Ev
section
variable {R : Type} {T : R → Prop} {z : R} {P : Program} {val : Nat → Int} {fz : Fz} {orc : Orc R} {call : CallT R}
def resRun (tmps : Array Value) : ResultVar → Sem Value
 | .tmp t=>pure (tmps.getD t undef)
 | .cell a t=>do loadVar t (← asAddr (tmps.getD a undef))
def ResR (P : Program) : ResultVar → ARes → Prop
 | .tmp t,.tmp q r=>q = t / 16 ∧ r = t % 16
 | .cell a t,.cell q r g n=>q = a / 16 ∧ r = a % 16 ∧ aggOf P t = some g ∧ szOf P t = some n
 | _,_=>False
theorem prepRes_R : ∀ {l : List ResultVar} {rl : List ARes},prepRes P l = some rl → All2 (ResR P) l rl
 | [],rl,h=>by simp [prepRes] at h; subst h; trivial
 | .tmp t :: l,rl,h=>by
  simp only [prepRes] at h
  obtain ⟨r,h1,rfl⟩:=Option.map_eq_some_iff.1 h
  exact ⟨⟨rfl,rfl⟩,prepRes_R h1⟩
 | .cell a t :: l,rl,h=>by
  simp only [prepRes] at h
  split at h
  ·rename_i g n r h1 h2 h3
   split at h
   ·cases h; exact ⟨⟨rfl,rfl,h1,h2⟩,prepRes_R h3⟩
   ·cases h
  ·cases h
theorem resVal_sound (hz : ¬ T z) {rv : ResultVar} {r : ARes} {tm : TM} {mu : St} {k : AV → R} (hr : ResR P rv r) (h : T (resVal z fz r tm mu k)) : ∃ v,T (k v) ∧ ∀ ρ w a,Rel val ρ fz mu w → TmR val ρ w tm a → ∃ x,(resRun a.tmps rv).run P w = .ok x w ∧ AVR val ρ w v x:=by
 cases rv with
 | tmp t=>cases r with
  | cell q r g n=>exact hr.elim
  | tmp q r =>
   obtain ⟨rfl,rfl⟩:=hr
   exact ⟨_,h,λρ w a _ ht=>⟨a.tmps.getD t undef,by simp [resRun],ht.vals t⟩⟩
 | cell a t=>cases r with
  | tmp q r=>exact hr.elim
  | cell q r g n =>
   obtain ⟨rfl,rfl,ha,hs⟩:=hr
   have h' : T ((get tm (a / 16) (a % 16)).onOne z λs=>s.onPtr z λid off=>lookAll fz mu id z λcs=>subK cs off n z λc=>asRes g c z k):=h
   obtain ⟨s,e1,h1⟩:=onOne_elim hz h'
   obtain ⟨id,off,rfl,h2⟩:=onPtr_elim hz h1
   obtain ⟨cs,h3,h4⟩:=lookAll_elim hz h2
   obtain ⟨h5,h6⟩:=subK_elim hz h4
   obtain ⟨v,h7,h8⟩:=asRes_elim hz h6
   refine ⟨v,h8,λρ w act hrel ht=>?_⟩
   have hv:=ht.vals a
   rw [e1] at hv
   obtain ⟨p,hp,hx⟩:=hv
   obtain ⟨vs,g1,g2,g3,g4⟩:=(seen hrel h3).read (P:=P) hp h5
   obtain ⟨x,g5,g6⟩:=load_run ha hs g1 g2 g3 g4 h7
   exact ⟨x,by simp [resRun,hx,asAddr,g5],g6⟩
theorem toCV_elim (hz : ¬ T z) {v : AV} {k : CV → R} (h : T (toCV z v k)) : ∃ c,T (k c) ∧ ∀ ρ w x,AVR val ρ w v x → CVR val ρ w c x:=by
 cases v with
 | one s=>exact ⟨.one s,h,λ_ _ _ hx=>hx⟩
 | ag l=>exact ⟨.ag l,h,λ_ _ _ hx=>hx⟩
 | tp l=>exact (hz h).elim
theorem resAll_sound (hz : ¬ T z) : ∀ {l : List ResultVar} {rl : List ARes} {tm : TM} {mu : St} {k : List CV → R},All2 (ResR P) l rl → T (resAll z fz rl tm mu k) →
 ∃ cs,T (k cs) ∧ ∀ ρ w a,Rel val ρ fz mu w → TmR val ρ w tm a → ∃ xs : List Value,(l.mapM (resRun a.tmps)).run P w = .ok xs w ∧ xs.length = l.length ∧ All2 (CVR val ρ w) cs xs
 | [],[],tm,mu,k,_,h=>⟨[],h,λρ w a _ _=>⟨[],by simp,rfl,trivial⟩⟩
 | [],_ :: _,_,_,_,hl,_=>hl.elim
 | _ :: _,[],_,_,_,hl,_=>hl.elim
 | rv :: l,r :: rl,tm,mu,k,hl,h=>by
  obtain ⟨v,h1,h2⟩:=resVal_sound (P:=P) (val:=val) hz hl.1 (show T (resVal z fz r tm mu λv=>toCV z v λc=>resAll z fz rl tm mu λcs=>k (c :: cs)) from h)
  obtain ⟨c,h3,h4⟩:=toCV_elim (val:=val) hz h1
  obtain ⟨cs,h5,h6⟩:=resAll_sound hz hl.2 h3
  refine ⟨c :: cs,h5,λρ w a hr ht=>?_⟩
  obtain ⟨x,g1,g2⟩:=h2 ρ w a hr ht
  obtain ⟨xs,g3,gl,g4⟩:=h6 ρ w a hr ht
  exact ⟨x :: xs,by simp [List.mapM_cons,g1,g3],by simp [gl],h4 _ _ _ g2,g4⟩
theorem results_run {fn : Func} {tmps : Array Value} {w : World} {xs : List Value} (h : (fn.results.toList.mapM (resRun tmps)).run P w = .ok xs w) :
 (results fn tmps).run P w = .ok (if hx : xs.toArray.size = 1 then xs.toArray[0] else .tuple xs.toArray) w:=by
 have e : results fn tmps = (fn.results.mapM (resRun tmps)) >>= λvs=>pure (if h : vs.size = 1 then vs[0] else .tuple vs):=by
  unfold results
  congr 1
 rw [e,Array.mapM_eq_mapM_toList]
 simp [h]
theorem resK_sound (hz : ¬ T z) {fn : Func} {rl : List ARes} {tm : TM} {mu : St} {k : AV → R} (hp : prepRes P fn.results.toList = some rl) (h : T (resK z fz rl tm mu k)) :
 ∃ v,T (k v) ∧ ∀ ρ w a,Rel val ρ fz mu w → TmR val ρ w tm a → ∃ x,(results fn a.tmps).run P w = .ok x w ∧ AVR val ρ w v x:=by
 have hR:=prepRes_R hp
 generalize hl : fn.results.toList = l at hR
 cases rl with
 | nil=>cases l with
  | cons _ _=>exact hR.elim
  | nil =>
   refine ⟨.tp [],h,λρ w a _ _=>⟨_,results_run (xs:=[]) (by rw [hl]; simp),[],by simp,trivial⟩⟩
 | cons r t=>cases l with
  | nil=>exact hR.elim
  | cons rv l =>
   cases t with
   | nil=>cases l with
    | cons _ _=>exact hR.2.elim
    | nil =>
     obtain ⟨v,h1,h2⟩:=resVal_sound (P:=P) (val:=val) hz hR.1 (show T (resVal z fz r tm mu k) from h)
     refine ⟨v,h1,λρ w a hr ht=>?_⟩
     obtain ⟨x,g1,g2⟩:=h2 ρ w a hr ht
     exact ⟨_,results_run (xs:=[x]) (by rw [hl]; simp [g1]),by simpa using g2⟩
   | cons r2 t=>cases l with
    | nil=>exact hR.2.elim
    | cons rv2 l =>
     obtain ⟨cs,h1,h2⟩:=resAll_sound (P:=P) (val:=val) hz hR (show T (resAll z fz (r :: r2 :: t) tm mu λcs=>k (.tp cs)) from h)
     refine ⟨_,h1,λρ w a hr ht=>?_⟩
     obtain ⟨xs,g1,gl,g2⟩:=h2 ρ w a hr ht
     refine ⟨_,results_run (xs:=xs) (by rw [hl]; exact g1),?_⟩
     have hlen : xs.toArray.size ≠ 1:=by
      simp at gl
      simp [gl]
     simp only [hlen,dite_false]
     exact ⟨xs,rfl,g2⟩
abbrev Contract (R : Type):=List AV → Fz → St → Nat → (AV → St → Nat → R) → R
def ContractOk (T : R → Prop) (P : Program) (val : Nat → Int) (f : Nat) (c : Contract R) : Prop :=
 ∀ args fz mu n k, T (c args fz mu n k) → ∃ v mu' n', T (k v mu' n') ∧ hasBody P f = true ∧ n ≤ n' ∧ ∀ ρ w (xs : List Value), Rel val ρ fz mu w → All2 (AVR val ρ w) args xs → FreshN ρ n n' →
   Calls P f xs.toArray w λe w'=>∃ x,e = .returned x ∧ Post val ρ fz mu n w v mu' n' x w'
end
end Go.Ev
namespace Go.Ev
def GrownE (W w' : World) : Prop:=W.keptBut w' (λ_=>False) ∧ (∀ a : Addr,a.block < W.heap.size → w'.frozen? a = W.frozen? a) ∧ W.heap.size ≤ w'.heap.size
theorem GrownE.frame {W w' : World} (h : GrownE W w') (may : MemPlace → Prop) : W.keptBut w' may:=World.keptBut_mono (λ_ f=>f.elim) h.1
theorem Fr.grown {ρ : Rho} {w w' : World} (h : Fr ρ [] w w') : GrownE w w':=by
 have hk : ∀ i,i < w.heap.size → w'.heap[i]? = w.heap[i]?:=λi hi=>h.keep i hi λid p hl=>by cases hl
 refine ⟨⟨h.os,h.output,λi hi=>?_⟩,λa ha=>?_,h.size⟩
 ·rw [hk i hi]
  cases e : w.heap[i]? with
  | none=>trivial
  | some o=>cases o <;> simp
 ·unfold World.frozen?
  rw [hk _ ha]
section
open Go.ChangeShapes Go.WideShapes
variable {H : Type} {enc : TypeId × Value → H} {P : Program}
theorem post_of_grown {f : Func} {s : ChangeSpec} {apart fresh handsOn again : Bool} {W W' : World} {args : Array Value} {v : Value} {ds gs : List (DataW H)} {before pa pv : List MemPlace}
 (hW : DataW.Whole enc P f.params.toList s.vars apart W args.toList ds gs before)
 (hres : ∀ (b : Nat) (sp : Nat → Bool) (hd : Bool),DataW.TrodAll enc P W' b sp hd f.resultTypes.toList (v.resultList f.resultTypes.size) (s.fn H (ds ++ gs)).results [])
 (hargs : ∀ sp : Nat → Bool,(∀ p ∈ before,sp p.block = true) → DataW.TrodAll enc P W' 0 sp true f.params.toList args.toList (s.fn H (ds ++ gs)).args pa)
 (hvars : ∀ sp : Nat → Bool,(∀ p ∈ before,sp p.block = true) → DataW.TrodVars enc P W' sp s.vars (s.fn H (ds ++ gs)).vars pv)
 (hps : before = pa ++ pv) (hk : W.keptBut W' (· ∈ before)) (hfz : ∀ a : Addr,a.block < W.heap.size → W'.frozen? a = W.frozen? a)
 (hok : ∀ (j : Nat) (t : TypeId) (r : Value),f.resultTypes[j]? = some t → (v.resultList f.resultTypes.size)[j]? = some r → Value.okWide P W' .any 0 t r) :
 s.post enc P f apart fresh handsOn again W args v W':=by
 have hlt:=hW.lt
 have hold : ∀ p ∈ before,(λb=>decide (b < W.heap.size)) p.block = true:=λp hp=>by simpa using hlt p hp
 refine ⟨ds,gs,before,[],pa,pv,hW,hres _ _ _,hargs _ hold,hvars _ hold,World.keptBut_mono (λp hp=>⟨hp,?_⟩) hk,λ_=>?_⟩
 ·rw [hps,List.mem_append] at hp
  exact Or.inr hp
 ·obtain ⟨_,_,_,_,_,hz,hn⟩:=hW
  refine ⟨hok,_,_,([] ++ pa) ++ pv,⟨[] ++ pa,pv,trodAll_append (hargs _ (λ_ _=>rfl)) (hres _ _ _),hvars _ (λ_ _=>rfl),rfl,?_,?_⟩,?_⟩
  ·intro b off hp
   have hp' : MemPlace.cell b off ∈ before:=by rw [hps]; simpa using hp
   rw [hfz _ (hlt _ hp')]
   exact hz b off hp'
  ·intro ha
   have:=hn ha
   rw [hps] at this
   simpa using this
  ·intro p hp _
   rw [hps]
   simpa using hp
end
def mutsOf (l : List Nat) (dy : Bool) : Muts:=⟨λf=>l.any λx=>Nat.beq x f,dy⟩
end Go.Ev
namespace Go.Ev
theorem Rel.grow {val : Nat → Int} {ρ ρ0 : Rho} {fz : Fz} {mu : St} {w w' : World} (hr : Rel val ρ fz mu w) (hf : Fr ρ0 [] w w') : Rel val ρ fz mu w':=by
 have kp : ∀ b,b < w.heap.size → w'.heap[b]? = w.heap[b]?:=λb hb=>hf.keep b hb λid p hl=>(by cases hl)
 exact ⟨λid cs hl=>(hr.rf id cs hl).mono (λ_ _ h=>h) hf.shape λp hp=>kp _ ((hr.rf id cs hl).lt hp),λid cs hl=>(hr.rm id cs hl).mono (λ_ _ h=>h) hf.shape λp hp=>kp _ ((hr.rm id cs hl).lt hp),hr.dm,hr.dj⟩
theorem Fr.any {ρ ρ0 : Rho} {mu : St} {w w' : World} (hf : Fr ρ0 [] w w') : Fr ρ mu w w' :=
 ⟨hf.os,hf.tape,hf.output,hf.size,λb hb _=>hf.keep b hb λid p hl=>(by cases hl),hf.shape⟩
section
variable {R : Type} {T : R → Prop} {z : R} {P : Program} {val : Nat → Int}
def SaysTrue (P : Program) (f : Nat) : Prop:=∀ w,Calls P f #[] w λe w'=>e = .returned (.bool true) ∧ Fr (λ_=>none) [] w w'
def trueK (z : R) : Contract R:=λargs _ mu n k=>List.rec (motive:=λ_=>R) (k (.one (.bool true)) mu n) (λ_ _ _=>z) args
theorem trueK_ok (hz : ¬ T z) {f : Nat} (hb : hasBody P f = true) (h : SaysTrue P f) : ContractOk T P val f (trueK z):=by
 intro args fz mu n k ht
 cases args with
 | cons _ _=>exact (hz ht).elim
 | nil =>
  refine ⟨_,_,_,ht,hb,Nat.le_refl _,λρ w xs hr hx _=>?_⟩
  cases xs with
  | cons _ _=>exact hx.elim
  | nil =>
   refine (h w).mono λe w' ⟨he,hf⟩=>⟨_,he,ρ,Ext.refl _ _ _,hr.grow hf,rfl,hf.any,λid p hl hp=>.inr ⟨id,p,hl,hp,rfl⟩,NewI.refl⟩
end
def noOrc {R : Type} (z : R) : Orc R:=⟨λ_ _ _ _ _=>z,λ_ _ _ _ _=>z,λ_ _ _=>z,λ_ _=>z,true⟩
theorem noOrc_ok {R : Type} {T : R → Prop} {z : R} (hz : ¬ T z) (val : Nat → Int) : OrcOk T val (noOrc z):=⟨λ_ _ _ _ _ h=>(hz h).elim,λ_ _ _ _ _ h=>(hz h).elim,λ_ _ _ h=>(hz h).elim,λ_ _ h=>(hz h).elim⟩
structure OEnt where
 op : BinOp
 kd : IntKind
 i : Nat
 b : Int
 s : SV
structure CEnt where
 kd : IntKind
 i : Nat
 s : SV
def lookB (l : List OEnt) (op : BinOp) (kd : IntKind) (i : Nat) (b : Int) : Option SV :=
 List.rec (motive:=λ_=>Option SV) none (λe _ ih=>cond (decide (e.op = op) && (IntKind.eqb e.kd kd && (Nat.beq e.i i && eqI e.b b))) (some e.s) ih) l
def lookC (l : List CEnt) (kd : IntKind) (i : Nat) : Option SV :=
 List.rec (motive:=λ_=>Option SV) none (λe _ ih=>cond (IntKind.eqb e.kd kd && Nat.beq e.i i) (some e.s) ih) l
theorem lookB_ok {val : Nat → Int} {l : List OEnt} (hl : ∀ e ∈ l,∃ s,numOp e.op e.kd (val e.i) e.b = some s ∧ SvEq val e.s s) {op : BinOp} {kd : IntKind} {i : Nat} {b : Int} {s : SV} (h : lookB l op kd i b = some s) : ∃ s',numOp op kd (val i) b = some s' ∧ SvEq val s s':=by
 induction l with
 | nil=>cases h
 | cons e r ih =>
  have h2 : cond (decide (e.op = op) && (IntKind.eqb e.kd kd && (Nat.beq e.i i && eqI e.b b))) (some e.s) (lookB r op kd i b) = some s:=h
  cases hc' : (decide (e.op = op) && (IntKind.eqb e.kd kd && (Nat.beq e.i i && eqI e.b b))) with
  | false=>rw [hc'] at h2; exact ih (λe he=>hl e (by simp [he])) h2
  | true =>
   rw [hc'] at h2
   simp only [Bool.and_eq_true,decide_eq_true_eq,eqI_eq] at hc'
   obtain ⟨e1,e2,e3,e4⟩:=hc'
   have:=hl e (by simp)
   rw [e1,eqb_eq e2,beq_yes e3,e4] at this
   have h3 : e.s = s:=by simpa using h2
   rw [← h3]; exact this
theorem lookC_ok {val : Nat → Int} {l : List CEnt} (hl : ∀ e ∈ l,SvEq val e.s (.int e.kd (e.kd.wrap (val e.i)))) {kd : IntKind} {i : Nat} {s : SV} (h : lookC l kd i = some s) : SvEq val s (.int kd (kd.wrap (val i))):=by
 induction l with
 | nil=>cases h
 | cons e r ih =>
  have h2 : cond (IntKind.eqb e.kd kd && Nat.beq e.i i) (some e.s) (lookC r kd i) = some s:=h
  cases hc' : (IntKind.eqb e.kd kd && Nat.beq e.i i) with
  | false=>rw [hc'] at h2; exact ih (λe he=>hl e (by simp [he])) h2
  | true =>
   rw [hc'] at h2
   simp only [Bool.and_eq_true] at hc'
   have:=hl e (by simp)
   rw [eqb_eq hc'.1,beq_yes hc'.2] at this
   have h3 : e.s = s:=by simpa using h2
   rw [← h3]; exact this
theorem mask_cases (a : Int) (m : Nat) (hm : m < 2 ^ 62) : ∃ k : Nat,k ≤ m ∧ numOp .and .i64 a (m : Int) = some (.int .i64 (k : Int)):=by
 refine ⟨(BitVec.ofInt 64 a &&& BitVec.ofInt 64 (m : Int)).toNat,?_,?_⟩
 ·rw [BitVec.toNat_and]
  refine Nat.le_trans Nat.and_le_right ?_
  simp [BitVec.toNat_ofInt]
  omega
 ·have hle : (BitVec.ofInt 64 a &&& BitVec.ofInt 64 (m : Int)).toNat ≤ m:=by
   rw [BitVec.toNat_and]
   refine Nat.le_trans Nat.and_le_right ?_
   simp [BitVec.toNat_ofInt]
   omega
  have e : numOp .and .i64 a (m : Int) = some (.int .i64 (IntKind.i64.wrap ((BitVec.ofInt 64 a &&& BitVec.ofInt 64 (m : Int)).toNat : Int))):=rfl
  rw [e]
  generalize (BitVec.ofInt 64 a &&& BitVec.ofInt 64 (m : Int)).toNat = k at hle
  congr 2
  simp [IntKind.wrap,IntKind.bits,IntKind.signed]
  omega
end Go.Ev
namespace Go.Ev
abbrev PC:=List (Nat × Nat)
abbrev RR:=PC → Bool
def zz : RR:=λ_=>false
def PcOk (m : Nat → Nat) (pc : PC) : Prop:=∀ (j : Nat) (p : Nat × Nat),pc[j]? = some p → p.1 ≤ m j ∧ m j ≤ p.2
def TT (m : Nat → Nat) (r : RR) : Prop:=∃ pc,PcOk m pc ∧ r pc = true
theorem zz_not {m : Nat → Nat} : ¬ TT m zz:=λ⟨_,_,h⟩=>by cases h
def valOf (raw : Nat → Int) (m : Nat → Nat) (i : Nat) : Int:=if i < 16 then raw i else (m (i % 16) : Int) + ((i / 16 : Nat) : Int) - 1001
def offs (i : Nat) : Int:=Int.sub (Int.ofNat (Nat.div i 16)) 1001
theorem valOf_big {raw : Nat → Int} {m : Nat → Nat} {i : Nat} (h : ¬ i < 16) : valOf raw m i = (m (i % 16) : Int) + offs i:=by
 unfold valOf offs
 rw [if_neg h]
 show (m (i % 16) : Int) + ((i / 16 : Nat) : Int) - 1001 = (m (i % 16) : Int) + (((i / 16 : Nat) : Int) - 1001)
 omega
def onRng (j : Nat) (k : Nat → Nat → RR) : RR:=λpc=>nthK pc j false λp=>k p.1 p.2 pc
def setR (pc : PC) (j lo hi : Nat) (k : RR) : Bool:=fN lo λlo=>fN hi λhi=>setK pc j (lo,hi) k
def lessN (j t : Nat) (k : Bool → RR) : RR :=
 onRng j λlo hi=>cond (Nat.ble t lo) (k false) (cond (Nat.ble (Nat.succ hi) t) (k true) λpc=>cond (setR pc j lo (Nat.pred t) (k true)) (setR pc j t hi (k false)) false)
def lessK (j : Nat) (t : Int) (k : Bool → RR) : RR:=Int.rec (motive:=λ_=>RR) (λt=>fN t λt=>lessN j t k) (λ_=>k false) t
def eqlN (j t : Nat) (k : Bool → RR) : RR :=
 onRng j λlo hi=>cond (Nat.ble (Nat.succ t) lo) (k false) (cond (Nat.ble (Nat.succ hi) t) (k false) (cond (Nat.beq lo hi) (k true) λpc =>
  cond (setR pc j t t (k true)) (cond (cond (Nat.ble t lo) true (setR pc j lo (Nat.pred t) (k false))) (cond (Nat.ble hi t) true (setR pc j (Nat.succ t) hi (k false))) false) false))
def eqlK (j : Nat) (t : Int) (k : Bool → RR) : RR:=Int.rec (motive:=λ_=>RR) (λt=>fN t λt=>eqlN j t k) (λ_=>k false) t
def allK (cnt : Nat) : Nat → (Nat → Bool) → Bool :=
 Nat.rec (motive:=λ_=>Nat → (Nat → Bool) → Bool) (λ_ _=>true) (λ_ ih v f=>cond (f v) (fN (Nat.succ v) λv=>ih v f) false) cnt
def eachK (j : Nat) (k : Nat → RR) : RR:=onRng j λlo hi pc=>allK (Nat.sub (Nat.succ hi) lo) lo λv=>setR pc j v v (k v)
section
variable {m : Nat → Nat}
theorem onRng_elim {j : Nat} {k : Nat → Nat → RR} (h : TT m (onRng j k)) : ∃ pc lo hi,PcOk m pc ∧ pc[j]? = some (lo,hi) ∧ lo ≤ m j ∧ m j ≤ hi ∧ k lo hi pc = true:=by
 obtain ⟨pc,ok,h⟩:=h
 have h' : nthK pc j false (λp=>k p.1 p.2 pc) = true:=h
 obtain ⟨p,e,h2⟩:=nthK_elim (T:=λb : Bool=>b = true) (by decide) h'
 exact ⟨pc,p.1,p.2,ok,e,(ok j p e).1,(ok j p e).2,h2⟩
theorem setR_elim {pc : PC} {j lo hi : Nat} {k : RR} (ok : PcOk m pc) (h1 : lo ≤ m j) (h2 : m j ≤ hi) (h : setR pc j lo hi k = true) : TT m k:=by
 unfold setR at h
 rw [fN_eq,fN_eq,setK_eq] at h
 refine ⟨_,λi p hp=>?_,h⟩
 rw [List.getElem?_set] at hp
 split at hp
 ·rename_i e
  subst e
  split at hp
  ·cases hp; exact ⟨h1,h2⟩
  ·cases hp
 ·exact ok i p hp
theorem lessN_elim {j t : Nat} {k : Bool → RR} (h : TT m (lessN j t k)) : TT m (k (decide (m j < t))) := by
 obtain ⟨pc,lo,hi,ok,e,h1,h2,h3⟩:=onRng_elim h
 cases e1 : Nat.ble t lo with
 | true =>
  rw [e1] at h3
  have:=Nat.le_of_ble_eq_true e1
  rw [decide_eq_false (by omega)]
  exact ⟨pc,ok,h3⟩
 | false =>
  rw [e1] at h3
  cases e2 : Nat.ble (Nat.succ hi) t with
  | true =>
   rw [e2] at h3
   have:=Nat.le_of_ble_eq_true e2
   rw [decide_eq_true (by omega)]
   exact ⟨pc,ok,h3⟩
  | false =>
   rw [e2] at h3
   have h4 : cond (setR pc j lo (Nat.pred t) (k true)) (setR pc j t hi (k false)) false = true:=h3
   cases e3 : setR pc j lo (Nat.pred t) (k true) with
   | false=>rw [e3] at h4; cases h4
   | true =>
    rw [e3] at h4
    by_cases hlt : m j < t
    ·rw [decide_eq_true hlt]
     exact setR_elim ok h1 (by simp only [Nat.pred_eq_sub_one]; omega) e3
    ·rw [decide_eq_false hlt]
     exact setR_elim ok (by omega) h2 h4
theorem lessK_elim {j : Nat} {t : Int} {k : Bool → RR} (h : TT m (lessK j t k)) : TT m (k (decide ((m j : Int) < t))):=by
 cases t with
 | ofNat t =>
  have h' : TT m (fN t λt=>lessN j t k):=h
  rw [fN_eq] at h'
  have:=lessN_elim h'
  have e : decide ((m j : Int) < Int.ofNat t) = decide (m j < t):=by
   rw [decide_eq_decide]; simp
  rw [e]; exact this
 | negSucc t =>
  have e : decide ((m j : Int) < Int.negSucc t) = false:=decide_eq_false (by omega)
  rw [e]; exact h
theorem eqlN_elim {j t : Nat} {k : Bool → RR} (h : TT m (eqlN j t k)) : TT m (k (decide (m j = t))) := by
 obtain ⟨pc,lo,hi,ok,e,h1,h2,h3⟩:=onRng_elim h
 cases e1 : Nat.ble (Nat.succ t) lo with
 | true =>
  rw [e1] at h3
  have:=Nat.le_of_ble_eq_true e1
  rw [decide_eq_false (by omega)]
  exact ⟨pc,ok,h3⟩
 | false =>
  rw [e1] at h3
  cases e2 : Nat.ble (Nat.succ hi) t with
  | true =>
   rw [e2] at h3
   have:=Nat.le_of_ble_eq_true e2
   rw [decide_eq_false (by omega)]
   exact ⟨pc,ok,h3⟩
  | false =>
   rw [e2] at h3
   have g1 : ¬ Nat.succ t ≤ lo:=λh=>by rw [Nat.ble_eq_true_of_le h] at e1; cases e1
   have g2 : ¬ Nat.succ hi ≤ t:=λh=>by rw [Nat.ble_eq_true_of_le h] at e2; cases e2
   cases e3 : Nat.beq lo hi with
   | true =>
    rw [e3] at h3
    have:=Nat.eq_of_beq_eq_true e3
    rw [decide_eq_true (by omega)]
    exact ⟨pc,ok,h3⟩
   | false =>
    rw [e3] at h3
    have h4 : cond (setR pc j t t (k true)) (cond (cond (Nat.ble t lo) true (setR pc j lo (Nat.pred t) (k false))) (cond (Nat.ble hi t) true (setR pc j (Nat.succ t) hi (k false))) false) false = true:=h3
    cases e4 : setR pc j t t (k true) with
    | false=>rw [e4] at h4; cases h4
    | true =>
     rw [e4] at h4
     by_cases heq : m j = t
     ·rw [decide_eq_true heq]
      exact setR_elim ok (by omega) (by omega) e4
     ·rw [decide_eq_false heq]
      have h5 : cond (cond (Nat.ble t lo) true (setR pc j lo (Nat.pred t) (k false))) (cond (Nat.ble hi t) true (setR pc j (Nat.succ t) hi (k false))) false = true:=h4
      cases e5 : cond (Nat.ble t lo) true (setR pc j lo (Nat.pred t) (k false)) with
      | false=>rw [e5] at h5; cases h5
      | true =>
       rw [e5] at h5
       have h6 : cond (Nat.ble hi t) true (setR pc j (Nat.succ t) hi (k false)) = true:=h5
       by_cases hlt : m j < t
       ·cases e6 : Nat.ble t lo with
        | true=>have:=Nat.le_of_ble_eq_true e6; omega
        | false =>
         rw [e6] at e5
         exact setR_elim ok h1 (by simp only [Nat.pred_eq_sub_one]; omega) e5
       ·cases e6 : Nat.ble hi t with
        | true=>have:=Nat.le_of_ble_eq_true e6; omega
        | false =>
         rw [e6] at h6
         exact setR_elim ok (by omega) h2 h6
theorem eqlK_elim {j : Nat} {t : Int} {k : Bool → RR} (h : TT m (eqlK j t k)) : TT m (k (decide ((m j : Int) = t))):=by
 cases t with
 | ofNat t =>
  have h' : TT m (fN t λt=>eqlN j t k):=h
  rw [fN_eq] at h'
  have:=eqlN_elim h'
  have e : decide ((m j : Int) = Int.ofNat t) = decide (m j = t):=by
   rw [decide_eq_decide]; simp; omega
  rw [e]; exact this
 | negSucc t =>
  have e : decide ((m j : Int) = Int.negSucc t) = false:=decide_eq_false (by omega)
  rw [e]; exact h
theorem allK_elim {f : Nat → Bool} : ∀ {cnt v : Nat},allK cnt v f = true → ∀ u,v ≤ u → u < v + cnt → f u = true
 | 0,v,_,u,h1,h2=>by omega
 | cnt + 1,v,h,u,h1,h2=>by
  have h' : cond (f v) (fN (Nat.succ v) λv=>allK cnt v f) false = true:=h
  cases e : f v with
  | false=>rw [e] at h'; cases h'
  | true =>
   rw [e,fN_eq] at h'
   by_cases hu : u = v
   ·rw [hu]; exact e
   ·exact allK_elim (v:=v + 1) h' u (by omega) (by omega)
theorem eachK_elim {j : Nat} {k : Nat → RR} (h : TT m (eachK j k)) : TT m (k (m j)):=by
 obtain ⟨pc,lo,hi,ok,e,h1,h2,h3⟩:=onRng_elim h
 have h4 : allK (hi + 1 - lo) lo (λv=>setR pc j v v (k v)) = true:=h3
 have:=allK_elim h4 (m j) h1 (by omega)
 exact setR_elim ok (Nat.le_refl _) (Nat.le_refl _) this
end
def addK (i : Nat) (kd : IntKind) (b : Int) (no : RR) (k : SV → RR) : RR :=
 cond (IntKind.eqb kd .i64) (onRng (Nat.mod i 16) λ_ hi=>fI (Int.add (Int.ofNat (Nat.div i 16)) b) λe =>
  cond (ltI 0 e && (ltI e 1000000 && Nat.ble hi 1000000)) (fN (Nat.add (Nat.mul 16 e.toNat) (Nat.mod i 16)) λi=>k (.sym .i64 i)) no) no
def eachI (i : Nat) (k : Int → RR) : RR:=eachK (Nat.mod i 16) λv=>fI (Int.add (Int.ofNat v) (offs i)) k
def rngBin (op : BinOp) (kd : IntKind) (i : Nat) (b : Int) (k : SV → RR) : RR :=
 match op with
 | .lss=>lessK (Nat.mod i 16) (Int.sub b (offs i)) λt=>k (.bool t)
 | .geq=>lessK (Nat.mod i 16) (Int.sub b (offs i)) λt=>k (.bool (not t))
 | .leq=>lessK (Nat.mod i 16) (Int.add (Int.sub b (offs i)) 1) λt=>k (.bool t)
 | .gtr=>lessK (Nat.mod i 16) (Int.add (Int.sub b (offs i)) 1) λt=>k (.bool (not t))
 | .eql=>eqlK (Nat.mod i 16) (Int.sub b (offs i)) λt=>k (.bool t)
 | .neq=>eqlK (Nat.mod i 16) (Int.sub b (offs i)) λt=>k (.bool (not t))
 | .add=>addK i kd b (eachI i λa=>binI .add kd a b zz k) k
 | .sub=>addK i kd (Int.neg b) (eachI i λa=>binI .sub kd a b zz k) k
 | op=>eachI i λa=>binI op kd a b zz k
def rngNib (op : BinOp) (kd : IntKind) (a : Int) (i : Nat) (k : SV → RR) : RR :=
 match op with
 | .lss=>lessK (Nat.mod i 16) (Int.add (Int.sub a (offs i)) 1) λt=>k (.bool (not t))
 | .geq=>lessK (Nat.mod i 16) (Int.add (Int.sub a (offs i)) 1) λt=>k (.bool t)
 | .leq=>lessK (Nat.mod i 16) (Int.sub a (offs i)) λt=>k (.bool (not t))
 | .gtr=>lessK (Nat.mod i 16) (Int.sub a (offs i)) λt=>k (.bool t)
 | .eql=>eqlK (Nat.mod i 16) (Int.sub a (offs i)) λt=>k (.bool t)
 | .neq=>eqlK (Nat.mod i 16) (Int.sub a (offs i)) λt=>k (.bool (not t))
 | .add=>addK i kd a (eachI i λb=>binI .add kd a b zz k) k
 | op=>eachI i λb=>binI op kd a b zz k
def wide : IntKind → Bool
 | .i64=>true
 | .u64=>true
 | _=>false
def rngConv (kd : IntKind) (i : Nat) (k : SV → RR) : RR :=
 onRng (Nat.mod i 16) λlo hi=>cond (wide kd && (Nat.ble 1001 (Nat.add lo (Nat.div i 16)) && (Nat.ble hi 1000000 && Nat.ble (Nat.div i 16) 1000000))) (k (.sym kd i)) (eachI i λa=>wrapK kd a λr=>k (.int kd r))
def rngOrc (l : List OEnt) (cs : List CEnt) : Orc RR :=
 ⟨fun op kd i b k => cond (Nat.ble 16 i) (rngBin op kd i b k) (Option.rec (motive := fun _ => RR) zz k (lookB l op kd i b)),
  λop kd a i k=>cond (Nat.ble 16 i) (rngNib op kd a i k) zz,
  λkd i k=>cond (Nat.ble 16 i) (rngConv kd i k) (Option.rec (motive:=λ_=>RR) zz k (lookC cs kd i)),
  λi k=>cond (Nat.ble 16 i) (eachI i k) zz,true⟩
section
variable {raw : Nat → Int} {m : Nat → Nat}
theorem eachI_elim {i : Nat} (hi : ¬ i < 16) {k : Int → RR} (h : TT m (eachI i k)) : TT m (k (valOf raw m i)):=by
 have:=eachK_elim h
 rw [fI_eq] at this
 rw [valOf_big hi]; exact this
theorem addK_elim {i : Nat} (hi : ¬ i < 16) {kd : IntKind} {b : Int} {no : RR} {k : SV → RR} (h : TT m (addK i kd b no k)) :
 TT m no ∨ ∃ s,SvEq (valOf raw m) s (.int kd (kd.wrap (valOf raw m i + b))) ∧ TT m (k s):=by
 unfold addK at h
 cases e1 : IntKind.eqb kd .i64 with
 | false=>rw [e1] at h; exact .inl h
 | true =>
  rw [e1] at h
  have:=eqb_eq e1
  subst this
  simp only [cond_true] at h
  obtain ⟨pc,lo,hi',ok,e,h1,h2,h3⟩:=onRng_elim h
  rw [fI_eq] at h3
  have hd : Int.add (Int.ofNat (Nat.div i 16)) b = ((i / 16 : Nat) : Int) + b:=rfl
  rw [hd] at h3
  cases e2 : (ltI 0 (((i / 16 : Nat) : Int) + b) && (ltI (((i / 16 : Nat) : Int) + b) 1000000 && Nat.ble hi' 1000000)) with
  | false=>rw [e2] at h3; exact .inl ⟨pc,ok,h3⟩
  | true =>
   rw [e2] at h3
   simp only [Bool.and_eq_true,ltI_eq,decide_eq_true_eq] at e2
   have e4:=Nat.le_of_ble_eq_true e2.2.2
   have h4 : fN (Nat.add (Nat.mul 16 (((i / 16 : Nat) : Int) + b).toNat) (Nat.mod i 16)) (λi=>k (.sym .i64 i)) pc = true:=h3
   rw [fN_eq] at h4
   refine .inr ⟨_,.inr ⟨.i64,_,rfl,?_⟩,pc,ok,h4⟩
   have hb : ¬ (Nat.add (Nat.mul 16 (((i / 16 : Nat) : Int) + b).toNat) (Nat.mod i 16)) < 16:=by
    show ¬ (16 * (((i / 16 : Nat) : Int) + b).toNat + i % 16) < 16
    omega
   have hm : (Nat.add (Nat.mul 16 (((i / 16 : Nat) : Int) + b).toNat) (Nat.mod i 16)) % 16 = i % 16:=by
    show (16 * (((i / 16 : Nat) : Int) + b).toNat + i % 16) % 16 = i % 16
    omega
   have hq : (Nat.add (Nat.mul 16 (((i / 16 : Nat) : Int) + b).toNat) (Nat.mod i 16)) / 16 = (((i / 16 : Nat) : Int) + b).toNat:=by
    show (16 * (((i / 16 : Nat) : Int) + b).toNat + i % 16) / 16 = _
    omega
   have hv : valOf raw m (Nat.add (Nat.mul 16 (((i / 16 : Nat) : Int) + b).toNat) (Nat.mod i 16)) = valOf raw m i + b:=by
    unfold valOf
    rw [if_neg hb,if_neg hi,hm,hq]
    omega
   rw [hv]
   congr 1
   have : valOf raw m i = (m (i % 16) : Int) + ((i / 16 : Nat) : Int) - 1001:=by unfold valOf; rw [if_neg hi]
   rw [this]
   have h2' : m (i % 16) ≤ hi':=h2
   simp [IntKind.wrap,IntKind.bits,IntKind.signed]
   omega
theorem rngBin_elim {op : BinOp} {kd : IntKind} {i : Nat} (hi : ¬ i < 16) {b : Int} {k : SV → RR} (h : TT m (rngBin op kd i b k)) : ∃ s s',numOp op kd (valOf raw m i) b = some s' ∧ SvEq (valOf raw m) s s' ∧ TT m (k s):=by
 have each : ∀ op,TT m (eachI i λa=>binI op kd a b zz k) → ∃ s s',numOp op kd (valOf raw m i) b = some s' ∧ SvEq (valOf raw m) s s' ∧ TT m (k s):=by
  intro op h
  obtain ⟨s,h1,h2⟩:=binI_elim zz_not (eachI_elim (raw:=raw) hi h)
  exact ⟨s,s,h1,.inl rfl,h2⟩
 have ho : ∀ x y : Int,Int.sub x y = x - y:=λ_ _=>rfl
 have ha : ∀ x y : Int,Int.add x y = x + y:=λ_ _=>rfl
 have hmd : Nat.mod i 16 = i % 16:=rfl
 have hv:=valOf_big (raw:=raw) (m:=m) hi
 cases op with
 | lss =>
  have:=lessK_elim (show TT m (lessK (Nat.mod i 16) (Int.sub b (offs i)) λt=>k (.bool t)) from h)
  refine ⟨_,_,rfl,.inl ?_,this⟩
  rw [hv,ho,hmd]; congr 1; rw [decide_eq_decide]; omega
 | geq =>
  have:=lessK_elim (show TT m (lessK (Nat.mod i 16) (Int.sub b (offs i)) λt=>k (.bool (not t))) from h)
  refine ⟨_,_,rfl,.inl ?_,this⟩
  rw [hv,ho,hmd,← decide_not]; congr 1; rw [decide_eq_decide]; omega
 | leq =>
  have:=lessK_elim (show TT m (lessK (Nat.mod i 16) (Int.add (Int.sub b (offs i)) 1) λt=>k (.bool t)) from h)
  refine ⟨_,_,rfl,.inl ?_,this⟩
  rw [hv,ha,ho,hmd]; congr 1; rw [decide_eq_decide]; omega
 | gtr =>
  have:=lessK_elim (show TT m (lessK (Nat.mod i 16) (Int.add (Int.sub b (offs i)) 1) λt=>k (.bool (not t))) from h)
  refine ⟨_,_,rfl,.inl ?_,this⟩
  rw [hv,ha,ho,hmd,← decide_not]; congr 1; rw [decide_eq_decide]; omega
 | eql =>
  have:=eqlK_elim (show TT m (eqlK (Nat.mod i 16) (Int.sub b (offs i)) λt=>k (.bool t)) from h)
  refine ⟨_,_,rfl,.inl ?_,this⟩
  rw [hv,ho,hmd]; congr 1; rw [Bool.eq_iff_iff]; simp; omega
 | neq =>
  have:=eqlK_elim (show TT m (eqlK (Nat.mod i 16) (Int.sub b (offs i)) λt=>k (.bool (not t))) from h)
  refine ⟨_,_,rfl,.inl ?_,this⟩
  rw [hv,ho,hmd]; congr 1; rw [Bool.eq_iff_iff]; simp; omega
 | add =>
  rcases addK_elim (raw:=raw) hi (show TT m (addK i kd b (eachI i λa=>binI .add kd a b zz k) k) from h) with h | ⟨s,h1,h2⟩
  ·exact each .add h
  ·exact ⟨s,_,rfl,h1,h2⟩
 | sub =>
  rcases addK_elim (raw:=raw) hi (show TT m (addK i kd (Int.neg b) (eachI i λa=>binI .sub kd a b zz k) k) from h) with h | ⟨s,h1,h2⟩
  ·exact each .sub h
  ·exact ⟨s,_,rfl,h1,h2⟩
 | mul=>exact each .mul h
 | quo=>exact each .quo h
 | rem=>exact each .rem h
 | and=>exact each .and h
 | or=>exact each .or h
 | xor=>exact each .xor h
 | shl=>exact each .shl h
 | shr=>exact each .shr h
 | andNot=>exact each .andNot h
theorem rngNib_elim {op : BinOp} {kd : IntKind} {i : Nat} (hi : ¬ i < 16) {a : Int} {k : SV → RR} (h : TT m (rngNib op kd a i k)) : ∃ s s',numOp op kd a (valOf raw m i) = some s' ∧ SvEq (valOf raw m) s s' ∧ TT m (k s):=by
 have each : ∀ op,TT m (eachI i λb=>binI op kd a b zz k) → ∃ s s',numOp op kd a (valOf raw m i) = some s' ∧ SvEq (valOf raw m) s s' ∧ TT m (k s):=by
  intro op h
  obtain ⟨s,h1,h2⟩:=binI_elim zz_not (eachI_elim (raw:=raw) hi h)
  exact ⟨s,s,h1,.inl rfl,h2⟩
 have ho : ∀ x y : Int,Int.sub x y = x - y:=λ_ _=>rfl
 have ha : ∀ x y : Int,Int.add x y = x + y:=λ_ _=>rfl
 have hmd : Nat.mod i 16 = i % 16:=rfl
 have hv:=valOf_big (raw:=raw) (m:=m) hi
 cases op with
 | lss =>
  have:=lessK_elim (show TT m (lessK (Nat.mod i 16) (Int.add (Int.sub a (offs i)) 1) λt=>k (.bool (not t))) from h)
  refine ⟨_,_,rfl,.inl ?_,this⟩
  rw [hv,ha,ho,hmd,← decide_not]; congr 1; rw [decide_eq_decide]; omega
 | geq =>
  have:=lessK_elim (show TT m (lessK (Nat.mod i 16) (Int.add (Int.sub a (offs i)) 1) λt=>k (.bool t)) from h)
  refine ⟨_,_,rfl,.inl ?_,this⟩
  rw [hv,ha,ho,hmd]; congr 1; rw [decide_eq_decide]; omega
 | leq =>
  have:=lessK_elim (show TT m (lessK (Nat.mod i 16) (Int.sub a (offs i)) λt=>k (.bool (not t))) from h)
  refine ⟨_,_,rfl,.inl ?_,this⟩
  rw [hv,ho,hmd,← decide_not]; congr 1; rw [decide_eq_decide]; omega
 | gtr =>
  have:=lessK_elim (show TT m (lessK (Nat.mod i 16) (Int.sub a (offs i)) λt=>k (.bool t)) from h)
  refine ⟨_,_,rfl,.inl ?_,this⟩
  rw [hv,ho,hmd]; congr 1; rw [decide_eq_decide]; omega
 | eql =>
  have:=eqlK_elim (show TT m (eqlK (Nat.mod i 16) (Int.sub a (offs i)) λt=>k (.bool t)) from h)
  refine ⟨_,_,rfl,.inl ?_,this⟩
  rw [hv,ho,hmd]; congr 1; rw [Bool.eq_iff_iff]; simp; omega
 | neq =>
  have:=eqlK_elim (show TT m (eqlK (Nat.mod i 16) (Int.sub a (offs i)) λt=>k (.bool (not t))) from h)
  refine ⟨_,_,rfl,.inl ?_,this⟩
  rw [hv,ho,hmd]; congr 1; rw [Bool.eq_iff_iff]; simp; omega
 | add =>
  rcases addK_elim (raw:=raw) hi (show TT m (addK i kd a (eachI i λb=>binI .add kd a b zz k) k) from h) with h | ⟨s,h1,h2⟩
  ·exact each .add h
  ·exact ⟨s,_,rfl,(by rw [Int.add_comm a]; exact h1),h2⟩
 | sub=>exact each .sub h
 | mul=>exact each .mul h
 | quo=>exact each .quo h
 | rem=>exact each .rem h
 | and=>exact each .and h
 | or=>exact each .or h
 | xor=>exact each .xor h
 | shl=>exact each .shl h
 | shr=>exact each .shr h
 | andNot=>exact each .andNot h
theorem rngConv_elim {kd : IntKind} {i : Nat} (hi : ¬ i < 16) {k : SV → RR} (h : TT m (rngConv kd i k)) : ∃ s,SvEq (valOf raw m) s (.int kd (kd.wrap (valOf raw m i))) ∧ TT m (k s):=by
 obtain ⟨pc,lo,hi',ok,e,h1,h2,h3⟩:=onRng_elim h
 cases e2 : (wide kd && (Nat.ble 1001 (Nat.add lo (Nat.div i 16)) && (Nat.ble hi' 1000000 && Nat.ble (Nat.div i 16) 1000000))) with
 | false =>
  rw [e2] at h3
  have:=eachI_elim (raw:=raw) hi (show TT m (eachI i λa=>wrapK kd a λr=>k (.int kd r)) from ⟨pc,ok,h3⟩)
  rw [wrapK_eq] at this
  exact ⟨_,.inl rfl,this⟩
 | true =>
  rw [e2] at h3
  simp only [Bool.and_eq_true] at e2
  have a1:=Nat.le_of_ble_eq_true e2.2.1
  have a2:=Nat.le_of_ble_eq_true e2.2.2.1
  have a3:=Nat.le_of_ble_eq_true e2.2.2.2
  refine ⟨.sym kd i,.inr ⟨kd,i,rfl,?_⟩,pc,ok,h3⟩
  congr 1
  have a1' : 1001 ≤ lo + i / 16:=a1
  have a3' : i / 16 ≤ 1000000:=a3
  have h1' : lo ≤ m (i % 16):=h1
  have h2' : m (i % 16) ≤ hi':=h2
  unfold valOf
  rw [if_neg hi]
  cases kd <;> first | (cases e2.1; done) | (simp [IntKind.wrap,IntKind.bits,IntKind.signed]; omega)
theorem rngOrc_ok {l : List OEnt} {cs : List CEnt} (hl : ∀ e ∈ l,∃ s,numOp e.op e.kd (valOf raw m e.i) e.b = some s ∧ SvEq (valOf raw m) e.s s) (hc : ∀ e ∈ cs,SvEq (valOf raw m) e.s (.int e.kd (e.kd.wrap (valOf raw m e.i)))) : OrcOk (TT m) (valOf raw m) (rngOrc l cs):=by
 have big : ∀ {i : Nat},Nat.ble 16 i = true → ¬ i < 16:=λh=>by have:=Nat.le_of_ble_eq_true h; omega
 refine ⟨λop kd i b k h=>?_,λop kd a i k h=>?_,λkd i k h=>?_,λi k h=>?_⟩
 ·have h' : TT m (cond (Nat.ble 16 i) (rngBin op kd i b k) (Option.rec (motive:=λ_=>RR) zz k (lookB l op kd i b))):=h
  cases e : Nat.ble 16 i with
  | true=>rw [e] at h'; exact rngBin_elim (big e) h'
  | false =>
   rw [e] at h'
   obtain ⟨s,hs,h2⟩:=option_elim zz_not h'
   obtain ⟨s',h3,h4⟩:=lookB_ok hl hs
   exact ⟨s,s',h3,h4,h2⟩
 ·have h' : TT m (cond (Nat.ble 16 i) (rngNib op kd a i k) zz):=h
  obtain ⟨e,h2⟩:=cond_elim zz_not h'
  exact rngNib_elim (big e) h2
 ·have h' : TT m (cond (Nat.ble 16 i) (rngConv kd i k) (Option.rec (motive:=λ_=>RR) zz k (lookC cs kd i))):=h
  cases e : Nat.ble 16 i with
  | true=>rw [e] at h'; exact rngConv_elim (big e) h'
  | false =>
   rw [e] at h'
   obtain ⟨s,hs,h2⟩:=option_elim zz_not h'
   exact ⟨s,lookC_ok hc hs,h2⟩
 ·have h' : TT m (cond (Nat.ble 16 i) (eachI i k) zz):=h
  obtain ⟨e,h2⟩:=cond_elim zz_not h'
  exact eachI_elim (big e) h2
end
def isR (v : AV) (_ : St) (_ : Nat) : RR:=v.onOne zz λs=>s.onBool zz λb _=>b
theorem isR_elim {m : Nat → Nat} (v : AV) (mu : St) (n : Nat) (h : TT m (isR v mu n)) : v = .one (.bool true):=by
 obtain ⟨s,rfl,h1⟩:=onOne_elim zz_not h
 obtain ⟨b,rfl,pc,_,h2⟩:=onBool_elim zz_not h1
 have h3 : b = true:=h2
 rw [h3]
end Go.Ev
namespace Go.Ev
inductive S16 where
 | s0
 | s1
 | s2
 | s3
 | s4
 | s5
 | s6
 | s7
 | s8
 | s9
 | s10
 | s11
 | s12
 | s13
 | s14
 | s15
def S16.n : S16 → Nat
 | .s0=>0
 | .s1=>1
 | .s2=>2
 | .s3=>3
 | .s4=>4
 | .s5=>5
 | .s6=>6
 | .s7=>7
 | .s8=>8
 | .s9=>9
 | .s10=>10
 | .s11=>11
 | .s12=>12
 | .s13=>13
 | .s14=>14
 | .s15=>15
inductive Row where
 | mk (a0 a1 a2 a3 a4 a5 a6 a7 a8 a9 a10 a11 a12 a13 a14 a15 : AV)
inductive T2 where
 | mk (r0 r1 r2 r3 r4 r5 r6 r7 r8 r9 r10 r11 r12 r13 r14 r15 : Row)
def rg (s : S16) (r : Row) : AV:=S16.rec (motive:=λ_=>Row → AV)
 (λr=>Row.rec (motive:=λ_=>AV) (λa0 _ _ _ _ _ _ _ _ _ _ _ _ _ _ _=>a0) r)
 (λr=>Row.rec (motive:=λ_=>AV) (λ_ a1 _ _ _ _ _ _ _ _ _ _ _ _ _ _=>a1) r)
 (λr=>Row.rec (motive:=λ_=>AV) (λ_ _ a2 _ _ _ _ _ _ _ _ _ _ _ _ _=>a2) r)
 (λr=>Row.rec (motive:=λ_=>AV) (λ_ _ _ a3 _ _ _ _ _ _ _ _ _ _ _ _=>a3) r)
 (λr=>Row.rec (motive:=λ_=>AV) (λ_ _ _ _ a4 _ _ _ _ _ _ _ _ _ _ _=>a4) r)
 (λr=>Row.rec (motive:=λ_=>AV) (λ_ _ _ _ _ a5 _ _ _ _ _ _ _ _ _ _=>a5) r)
 (λr=>Row.rec (motive:=λ_=>AV) (λ_ _ _ _ _ _ a6 _ _ _ _ _ _ _ _ _=>a6) r)
 (λr=>Row.rec (motive:=λ_=>AV) (λ_ _ _ _ _ _ _ a7 _ _ _ _ _ _ _ _=>a7) r)
 (λr=>Row.rec (motive:=λ_=>AV) (λ_ _ _ _ _ _ _ _ a8 _ _ _ _ _ _ _=>a8) r)
 (λr=>Row.rec (motive:=λ_=>AV) (λ_ _ _ _ _ _ _ _ _ a9 _ _ _ _ _ _=>a9) r)
 (λr=>Row.rec (motive:=λ_=>AV) (λ_ _ _ _ _ _ _ _ _ _ a10 _ _ _ _ _=>a10) r)
 (λr=>Row.rec (motive:=λ_=>AV) (λ_ _ _ _ _ _ _ _ _ _ _ a11 _ _ _ _=>a11) r)
 (λr=>Row.rec (motive:=λ_=>AV) (λ_ _ _ _ _ _ _ _ _ _ _ _ a12 _ _ _=>a12) r)
 (λr=>Row.rec (motive:=λ_=>AV) (λ_ _ _ _ _ _ _ _ _ _ _ _ _ a13 _ _=>a13) r)
 (λr=>Row.rec (motive:=λ_=>AV) (λ_ _ _ _ _ _ _ _ _ _ _ _ _ _ a14 _=>a14) r)
 (λr=>Row.rec (motive:=λ_=>AV) (λ_ _ _ _ _ _ _ _ _ _ _ _ _ _ _ a15=>a15) r)
 s r
def rs (s : S16) (r : Row) (v : AV) (k : Row → RR) : RR:=S16.rec (motive:=λ_=>Row → AV → (Row → RR) → RR)
 (λr v k=>Row.rec (motive:=λ_=>AV → (Row → RR) → RR) (λ_ a1 a2 a3 a4 a5 a6 a7 a8 a9 a10 a11 a12 a13 a14 a15 v k=>k (.mk v a1 a2 a3 a4 a5 a6 a7 a8 a9 a10 a11 a12 a13 a14 a15)) r v k)
 (λr v k=>Row.rec (motive:=λ_=>AV → (Row → RR) → RR) (λa0 _ a2 a3 a4 a5 a6 a7 a8 a9 a10 a11 a12 a13 a14 a15 v k=>k (.mk a0 v a2 a3 a4 a5 a6 a7 a8 a9 a10 a11 a12 a13 a14 a15)) r v k)
 (λr v k=>Row.rec (motive:=λ_=>AV → (Row → RR) → RR) (λa0 a1 _ a3 a4 a5 a6 a7 a8 a9 a10 a11 a12 a13 a14 a15 v k=>k (.mk a0 a1 v a3 a4 a5 a6 a7 a8 a9 a10 a11 a12 a13 a14 a15)) r v k)
 (λr v k=>Row.rec (motive:=λ_=>AV → (Row → RR) → RR) (λa0 a1 a2 _ a4 a5 a6 a7 a8 a9 a10 a11 a12 a13 a14 a15 v k=>k (.mk a0 a1 a2 v a4 a5 a6 a7 a8 a9 a10 a11 a12 a13 a14 a15)) r v k)
 (λr v k=>Row.rec (motive:=λ_=>AV → (Row → RR) → RR) (λa0 a1 a2 a3 _ a5 a6 a7 a8 a9 a10 a11 a12 a13 a14 a15 v k=>k (.mk a0 a1 a2 a3 v a5 a6 a7 a8 a9 a10 a11 a12 a13 a14 a15)) r v k)
 (λr v k=>Row.rec (motive:=λ_=>AV → (Row → RR) → RR) (λa0 a1 a2 a3 a4 _ a6 a7 a8 a9 a10 a11 a12 a13 a14 a15 v k=>k (.mk a0 a1 a2 a3 a4 v a6 a7 a8 a9 a10 a11 a12 a13 a14 a15)) r v k)
 (λr v k=>Row.rec (motive:=λ_=>AV → (Row → RR) → RR) (λa0 a1 a2 a3 a4 a5 _ a7 a8 a9 a10 a11 a12 a13 a14 a15 v k=>k (.mk a0 a1 a2 a3 a4 a5 v a7 a8 a9 a10 a11 a12 a13 a14 a15)) r v k)
 (λr v k=>Row.rec (motive:=λ_=>AV → (Row → RR) → RR) (λa0 a1 a2 a3 a4 a5 a6 _ a8 a9 a10 a11 a12 a13 a14 a15 v k=>k (.mk a0 a1 a2 a3 a4 a5 a6 v a8 a9 a10 a11 a12 a13 a14 a15)) r v k)
 (λr v k=>Row.rec (motive:=λ_=>AV → (Row → RR) → RR) (λa0 a1 a2 a3 a4 a5 a6 a7 _ a9 a10 a11 a12 a13 a14 a15 v k=>k (.mk a0 a1 a2 a3 a4 a5 a6 a7 v a9 a10 a11 a12 a13 a14 a15)) r v k)
 (λr v k=>Row.rec (motive:=λ_=>AV → (Row → RR) → RR) (λa0 a1 a2 a3 a4 a5 a6 a7 a8 _ a10 a11 a12 a13 a14 a15 v k=>k (.mk a0 a1 a2 a3 a4 a5 a6 a7 a8 v a10 a11 a12 a13 a14 a15)) r v k)
 (λr v k=>Row.rec (motive:=λ_=>AV → (Row → RR) → RR) (λa0 a1 a2 a3 a4 a5 a6 a7 a8 a9 _ a11 a12 a13 a14 a15 v k=>k (.mk a0 a1 a2 a3 a4 a5 a6 a7 a8 a9 v a11 a12 a13 a14 a15)) r v k)
 (λr v k=>Row.rec (motive:=λ_=>AV → (Row → RR) → RR) (λa0 a1 a2 a3 a4 a5 a6 a7 a8 a9 a10 _ a12 a13 a14 a15 v k=>k (.mk a0 a1 a2 a3 a4 a5 a6 a7 a8 a9 a10 v a12 a13 a14 a15)) r v k)
 (λr v k=>Row.rec (motive:=λ_=>AV → (Row → RR) → RR) (λa0 a1 a2 a3 a4 a5 a6 a7 a8 a9 a10 a11 _ a13 a14 a15 v k=>k (.mk a0 a1 a2 a3 a4 a5 a6 a7 a8 a9 a10 a11 v a13 a14 a15)) r v k)
 (λr v k=>Row.rec (motive:=λ_=>AV → (Row → RR) → RR) (λa0 a1 a2 a3 a4 a5 a6 a7 a8 a9 a10 a11 a12 _ a14 a15 v k=>k (.mk a0 a1 a2 a3 a4 a5 a6 a7 a8 a9 a10 a11 a12 v a14 a15)) r v k)
 (λr v k=>Row.rec (motive:=λ_=>AV → (Row → RR) → RR) (λa0 a1 a2 a3 a4 a5 a6 a7 a8 a9 a10 a11 a12 a13 _ a15 v k=>k (.mk a0 a1 a2 a3 a4 a5 a6 a7 a8 a9 a10 a11 a12 a13 v a15)) r v k)
 (λr v k=>Row.rec (motive:=λ_=>AV → (Row → RR) → RR) (λa0 a1 a2 a3 a4 a5 a6 a7 a8 a9 a10 a11 a12 a13 a14 _ v k=>k (.mk a0 a1 a2 a3 a4 a5 a6 a7 a8 a9 a10 a11 a12 a13 a14 v)) r v k)
 s r v k
def rset (s : S16) (r : Row) (v : AV) : Row:=S16.rec (motive:=λ_=>Row)
 (Row.rec (motive:=λ_=>Row) (λ_ a1 a2 a3 a4 a5 a6 a7 a8 a9 a10 a11 a12 a13 a14 a15=>.mk v a1 a2 a3 a4 a5 a6 a7 a8 a9 a10 a11 a12 a13 a14 a15) r)
 (Row.rec (motive:=λ_=>Row) (λa0 _ a2 a3 a4 a5 a6 a7 a8 a9 a10 a11 a12 a13 a14 a15=>.mk a0 v a2 a3 a4 a5 a6 a7 a8 a9 a10 a11 a12 a13 a14 a15) r)
 (Row.rec (motive:=λ_=>Row) (λa0 a1 _ a3 a4 a5 a6 a7 a8 a9 a10 a11 a12 a13 a14 a15=>.mk a0 a1 v a3 a4 a5 a6 a7 a8 a9 a10 a11 a12 a13 a14 a15) r)
 (Row.rec (motive:=λ_=>Row) (λa0 a1 a2 _ a4 a5 a6 a7 a8 a9 a10 a11 a12 a13 a14 a15=>.mk a0 a1 a2 v a4 a5 a6 a7 a8 a9 a10 a11 a12 a13 a14 a15) r)
 (Row.rec (motive:=λ_=>Row) (λa0 a1 a2 a3 _ a5 a6 a7 a8 a9 a10 a11 a12 a13 a14 a15=>.mk a0 a1 a2 a3 v a5 a6 a7 a8 a9 a10 a11 a12 a13 a14 a15) r)
 (Row.rec (motive:=λ_=>Row) (λa0 a1 a2 a3 a4 _ a6 a7 a8 a9 a10 a11 a12 a13 a14 a15=>.mk a0 a1 a2 a3 a4 v a6 a7 a8 a9 a10 a11 a12 a13 a14 a15) r)
 (Row.rec (motive:=λ_=>Row) (λa0 a1 a2 a3 a4 a5 _ a7 a8 a9 a10 a11 a12 a13 a14 a15=>.mk a0 a1 a2 a3 a4 a5 v a7 a8 a9 a10 a11 a12 a13 a14 a15) r)
 (Row.rec (motive:=λ_=>Row) (λa0 a1 a2 a3 a4 a5 a6 _ a8 a9 a10 a11 a12 a13 a14 a15=>.mk a0 a1 a2 a3 a4 a5 a6 v a8 a9 a10 a11 a12 a13 a14 a15) r)
 (Row.rec (motive:=λ_=>Row) (λa0 a1 a2 a3 a4 a5 a6 a7 _ a9 a10 a11 a12 a13 a14 a15=>.mk a0 a1 a2 a3 a4 a5 a6 a7 v a9 a10 a11 a12 a13 a14 a15) r)
 (Row.rec (motive:=λ_=>Row) (λa0 a1 a2 a3 a4 a5 a6 a7 a8 _ a10 a11 a12 a13 a14 a15=>.mk a0 a1 a2 a3 a4 a5 a6 a7 a8 v a10 a11 a12 a13 a14 a15) r)
 (Row.rec (motive:=λ_=>Row) (λa0 a1 a2 a3 a4 a5 a6 a7 a8 a9 _ a11 a12 a13 a14 a15=>.mk a0 a1 a2 a3 a4 a5 a6 a7 a8 a9 v a11 a12 a13 a14 a15) r)
 (Row.rec (motive:=λ_=>Row) (λa0 a1 a2 a3 a4 a5 a6 a7 a8 a9 a10 _ a12 a13 a14 a15=>.mk a0 a1 a2 a3 a4 a5 a6 a7 a8 a9 a10 v a12 a13 a14 a15) r)
 (Row.rec (motive:=λ_=>Row) (λa0 a1 a2 a3 a4 a5 a6 a7 a8 a9 a10 a11 _ a13 a14 a15=>.mk a0 a1 a2 a3 a4 a5 a6 a7 a8 a9 a10 a11 v a13 a14 a15) r)
 (Row.rec (motive:=λ_=>Row) (λa0 a1 a2 a3 a4 a5 a6 a7 a8 a9 a10 a11 a12 _ a14 a15=>.mk a0 a1 a2 a3 a4 a5 a6 a7 a8 a9 a10 a11 a12 v a14 a15) r)
 (Row.rec (motive:=λ_=>Row) (λa0 a1 a2 a3 a4 a5 a6 a7 a8 a9 a10 a11 a12 a13 _ a15=>.mk a0 a1 a2 a3 a4 a5 a6 a7 a8 a9 a10 a11 a12 a13 v a15) r)
 (Row.rec (motive:=λ_=>Row) (λa0 a1 a2 a3 a4 a5 a6 a7 a8 a9 a10 a11 a12 a13 a14 _=>.mk a0 a1 a2 a3 a4 a5 a6 a7 a8 a9 a10 a11 a12 a13 a14 v) r)
 s
def tg (s : S16) (t : T2) : Row:=S16.rec (motive:=λ_=>T2 → Row)
 (λt=>T2.rec (motive:=λ_=>Row) (λr0 _ _ _ _ _ _ _ _ _ _ _ _ _ _ _=>r0) t)
 (λt=>T2.rec (motive:=λ_=>Row) (λ_ r1 _ _ _ _ _ _ _ _ _ _ _ _ _ _=>r1) t)
 (λt=>T2.rec (motive:=λ_=>Row) (λ_ _ r2 _ _ _ _ _ _ _ _ _ _ _ _ _=>r2) t)
 (λt=>T2.rec (motive:=λ_=>Row) (λ_ _ _ r3 _ _ _ _ _ _ _ _ _ _ _ _=>r3) t)
 (λt=>T2.rec (motive:=λ_=>Row) (λ_ _ _ _ r4 _ _ _ _ _ _ _ _ _ _ _=>r4) t)
 (λt=>T2.rec (motive:=λ_=>Row) (λ_ _ _ _ _ r5 _ _ _ _ _ _ _ _ _ _=>r5) t)
 (λt=>T2.rec (motive:=λ_=>Row) (λ_ _ _ _ _ _ r6 _ _ _ _ _ _ _ _ _=>r6) t)
 (λt=>T2.rec (motive:=λ_=>Row) (λ_ _ _ _ _ _ _ r7 _ _ _ _ _ _ _ _=>r7) t)
 (λt=>T2.rec (motive:=λ_=>Row) (λ_ _ _ _ _ _ _ _ r8 _ _ _ _ _ _ _=>r8) t)
 (λt=>T2.rec (motive:=λ_=>Row) (λ_ _ _ _ _ _ _ _ _ r9 _ _ _ _ _ _=>r9) t)
 (λt=>T2.rec (motive:=λ_=>Row) (λ_ _ _ _ _ _ _ _ _ _ r10 _ _ _ _ _=>r10) t)
 (λt=>T2.rec (motive:=λ_=>Row) (λ_ _ _ _ _ _ _ _ _ _ _ r11 _ _ _ _=>r11) t)
 (λt=>T2.rec (motive:=λ_=>Row) (λ_ _ _ _ _ _ _ _ _ _ _ _ r12 _ _ _=>r12) t)
 (λt=>T2.rec (motive:=λ_=>Row) (λ_ _ _ _ _ _ _ _ _ _ _ _ _ r13 _ _=>r13) t)
 (λt=>T2.rec (motive:=λ_=>Row) (λ_ _ _ _ _ _ _ _ _ _ _ _ _ _ r14 _=>r14) t)
 (λt=>T2.rec (motive:=λ_=>Row) (λ_ _ _ _ _ _ _ _ _ _ _ _ _ _ _ r15=>r15) t)
 s t
def ts (s : S16) (t : T2) (r : Row) (k : T2 → RR) : RR:=S16.rec (motive:=λ_=>T2 → Row → (T2 → RR) → RR)
 (λt r k=>T2.rec (motive:=λ_=>Row → (T2 → RR) → RR) (λ_ r1 r2 r3 r4 r5 r6 r7 r8 r9 r10 r11 r12 r13 r14 r15 r k=>k (.mk r r1 r2 r3 r4 r5 r6 r7 r8 r9 r10 r11 r12 r13 r14 r15)) t r k)
 (λt r k=>T2.rec (motive:=λ_=>Row → (T2 → RR) → RR) (λr0 _ r2 r3 r4 r5 r6 r7 r8 r9 r10 r11 r12 r13 r14 r15 r k=>k (.mk r0 r r2 r3 r4 r5 r6 r7 r8 r9 r10 r11 r12 r13 r14 r15)) t r k)
 (λt r k=>T2.rec (motive:=λ_=>Row → (T2 → RR) → RR) (λr0 r1 _ r3 r4 r5 r6 r7 r8 r9 r10 r11 r12 r13 r14 r15 r k=>k (.mk r0 r1 r r3 r4 r5 r6 r7 r8 r9 r10 r11 r12 r13 r14 r15)) t r k)
 (λt r k=>T2.rec (motive:=λ_=>Row → (T2 → RR) → RR) (λr0 r1 r2 _ r4 r5 r6 r7 r8 r9 r10 r11 r12 r13 r14 r15 r k=>k (.mk r0 r1 r2 r r4 r5 r6 r7 r8 r9 r10 r11 r12 r13 r14 r15)) t r k)
 (λt r k=>T2.rec (motive:=λ_=>Row → (T2 → RR) → RR) (λr0 r1 r2 r3 _ r5 r6 r7 r8 r9 r10 r11 r12 r13 r14 r15 r k=>k (.mk r0 r1 r2 r3 r r5 r6 r7 r8 r9 r10 r11 r12 r13 r14 r15)) t r k)
 (λt r k=>T2.rec (motive:=λ_=>Row → (T2 → RR) → RR) (λr0 r1 r2 r3 r4 _ r6 r7 r8 r9 r10 r11 r12 r13 r14 r15 r k=>k (.mk r0 r1 r2 r3 r4 r r6 r7 r8 r9 r10 r11 r12 r13 r14 r15)) t r k)
 (λt r k=>T2.rec (motive:=λ_=>Row → (T2 → RR) → RR) (λr0 r1 r2 r3 r4 r5 _ r7 r8 r9 r10 r11 r12 r13 r14 r15 r k=>k (.mk r0 r1 r2 r3 r4 r5 r r7 r8 r9 r10 r11 r12 r13 r14 r15)) t r k)
 (λt r k=>T2.rec (motive:=λ_=>Row → (T2 → RR) → RR) (λr0 r1 r2 r3 r4 r5 r6 _ r8 r9 r10 r11 r12 r13 r14 r15 r k=>k (.mk r0 r1 r2 r3 r4 r5 r6 r r8 r9 r10 r11 r12 r13 r14 r15)) t r k)
 (λt r k=>T2.rec (motive:=λ_=>Row → (T2 → RR) → RR) (λr0 r1 r2 r3 r4 r5 r6 r7 _ r9 r10 r11 r12 r13 r14 r15 r k=>k (.mk r0 r1 r2 r3 r4 r5 r6 r7 r r9 r10 r11 r12 r13 r14 r15)) t r k)
 (λt r k=>T2.rec (motive:=λ_=>Row → (T2 → RR) → RR) (λr0 r1 r2 r3 r4 r5 r6 r7 r8 _ r10 r11 r12 r13 r14 r15 r k=>k (.mk r0 r1 r2 r3 r4 r5 r6 r7 r8 r r10 r11 r12 r13 r14 r15)) t r k)
 (λt r k=>T2.rec (motive:=λ_=>Row → (T2 → RR) → RR) (λr0 r1 r2 r3 r4 r5 r6 r7 r8 r9 _ r11 r12 r13 r14 r15 r k=>k (.mk r0 r1 r2 r3 r4 r5 r6 r7 r8 r9 r r11 r12 r13 r14 r15)) t r k)
 (λt r k=>T2.rec (motive:=λ_=>Row → (T2 → RR) → RR) (λr0 r1 r2 r3 r4 r5 r6 r7 r8 r9 r10 _ r12 r13 r14 r15 r k=>k (.mk r0 r1 r2 r3 r4 r5 r6 r7 r8 r9 r10 r r12 r13 r14 r15)) t r k)
 (λt r k=>T2.rec (motive:=λ_=>Row → (T2 → RR) → RR) (λr0 r1 r2 r3 r4 r5 r6 r7 r8 r9 r10 r11 _ r13 r14 r15 r k=>k (.mk r0 r1 r2 r3 r4 r5 r6 r7 r8 r9 r10 r11 r r13 r14 r15)) t r k)
 (λt r k=>T2.rec (motive:=λ_=>Row → (T2 → RR) → RR) (λr0 r1 r2 r3 r4 r5 r6 r7 r8 r9 r10 r11 r12 _ r14 r15 r k=>k (.mk r0 r1 r2 r3 r4 r5 r6 r7 r8 r9 r10 r11 r12 r r14 r15)) t r k)
 (λt r k=>T2.rec (motive:=λ_=>Row → (T2 → RR) → RR) (λr0 r1 r2 r3 r4 r5 r6 r7 r8 r9 r10 r11 r12 r13 _ r15 r k=>k (.mk r0 r1 r2 r3 r4 r5 r6 r7 r8 r9 r10 r11 r12 r13 r r15)) t r k)
 (λt r k=>T2.rec (motive:=λ_=>Row → (T2 → RR) → RR) (λr0 r1 r2 r3 r4 r5 r6 r7 r8 r9 r10 r11 r12 r13 r14 _ r k=>k (.mk r0 r1 r2 r3 r4 r5 r6 r7 r8 r9 r10 r11 r12 r13 r14 r)) t r k)
 s t r k
def tset (s : S16) (t : T2) (r : Row) : T2:=S16.rec (motive:=λ_=>T2)
 (T2.rec (motive:=λ_=>T2) (λ_ r1 r2 r3 r4 r5 r6 r7 r8 r9 r10 r11 r12 r13 r14 r15=>.mk r r1 r2 r3 r4 r5 r6 r7 r8 r9 r10 r11 r12 r13 r14 r15) t)
 (T2.rec (motive:=λ_=>T2) (λr0 _ r2 r3 r4 r5 r6 r7 r8 r9 r10 r11 r12 r13 r14 r15=>.mk r0 r r2 r3 r4 r5 r6 r7 r8 r9 r10 r11 r12 r13 r14 r15) t)
 (T2.rec (motive:=λ_=>T2) (λr0 r1 _ r3 r4 r5 r6 r7 r8 r9 r10 r11 r12 r13 r14 r15=>.mk r0 r1 r r3 r4 r5 r6 r7 r8 r9 r10 r11 r12 r13 r14 r15) t)
 (T2.rec (motive:=λ_=>T2) (λr0 r1 r2 _ r4 r5 r6 r7 r8 r9 r10 r11 r12 r13 r14 r15=>.mk r0 r1 r2 r r4 r5 r6 r7 r8 r9 r10 r11 r12 r13 r14 r15) t)
 (T2.rec (motive:=λ_=>T2) (λr0 r1 r2 r3 _ r5 r6 r7 r8 r9 r10 r11 r12 r13 r14 r15=>.mk r0 r1 r2 r3 r r5 r6 r7 r8 r9 r10 r11 r12 r13 r14 r15) t)
 (T2.rec (motive:=λ_=>T2) (λr0 r1 r2 r3 r4 _ r6 r7 r8 r9 r10 r11 r12 r13 r14 r15=>.mk r0 r1 r2 r3 r4 r r6 r7 r8 r9 r10 r11 r12 r13 r14 r15) t)
 (T2.rec (motive:=λ_=>T2) (λr0 r1 r2 r3 r4 r5 _ r7 r8 r9 r10 r11 r12 r13 r14 r15=>.mk r0 r1 r2 r3 r4 r5 r r7 r8 r9 r10 r11 r12 r13 r14 r15) t)
 (T2.rec (motive:=λ_=>T2) (λr0 r1 r2 r3 r4 r5 r6 _ r8 r9 r10 r11 r12 r13 r14 r15=>.mk r0 r1 r2 r3 r4 r5 r6 r r8 r9 r10 r11 r12 r13 r14 r15) t)
 (T2.rec (motive:=λ_=>T2) (λr0 r1 r2 r3 r4 r5 r6 r7 _ r9 r10 r11 r12 r13 r14 r15=>.mk r0 r1 r2 r3 r4 r5 r6 r7 r r9 r10 r11 r12 r13 r14 r15) t)
 (T2.rec (motive:=λ_=>T2) (λr0 r1 r2 r3 r4 r5 r6 r7 r8 _ r10 r11 r12 r13 r14 r15=>.mk r0 r1 r2 r3 r4 r5 r6 r7 r8 r r10 r11 r12 r13 r14 r15) t)
 (T2.rec (motive:=λ_=>T2) (λr0 r1 r2 r3 r4 r5 r6 r7 r8 r9 _ r11 r12 r13 r14 r15=>.mk r0 r1 r2 r3 r4 r5 r6 r7 r8 r9 r r11 r12 r13 r14 r15) t)
 (T2.rec (motive:=λ_=>T2) (λr0 r1 r2 r3 r4 r5 r6 r7 r8 r9 r10 _ r12 r13 r14 r15=>.mk r0 r1 r2 r3 r4 r5 r6 r7 r8 r9 r10 r r12 r13 r14 r15) t)
 (T2.rec (motive:=λ_=>T2) (λr0 r1 r2 r3 r4 r5 r6 r7 r8 r9 r10 r11 _ r13 r14 r15=>.mk r0 r1 r2 r3 r4 r5 r6 r7 r8 r9 r10 r11 r r13 r14 r15) t)
 (T2.rec (motive:=λ_=>T2) (λr0 r1 r2 r3 r4 r5 r6 r7 r8 r9 r10 r11 r12 _ r14 r15=>.mk r0 r1 r2 r3 r4 r5 r6 r7 r8 r9 r10 r11 r12 r r14 r15) t)
 (T2.rec (motive:=λ_=>T2) (λr0 r1 r2 r3 r4 r5 r6 r7 r8 r9 r10 r11 r12 r13 _ r15=>.mk r0 r1 r2 r3 r4 r5 r6 r7 r8 r9 r10 r11 r12 r13 r r15) t)
 (T2.rec (motive:=λ_=>T2) (λr0 r1 r2 r3 r4 r5 r6 r7 r8 r9 r10 r11 r12 r13 r14 _=>.mk r0 r1 r2 r3 r4 r5 r6 r7 r8 r9 r10 r11 r12 r13 r14 r) t)
 s
def get2 (q r : S16) (t : T2) : AV:=rg r (tg q t)
def set2 (q r : S16) (t : T2) (v : AV) (k : T2 → RR) : RR:=rs r (tg q t) v λrow=>ts q t row k
def set2p (q r : S16) (t : T2) (v : AV) : T2:=tset q t (rset r (tg q t) v)
theorem rs_eq (s : S16) (r : Row) (v : AV) (k : Row → RR) : rs s r v k = k (rset s r v):=by cases s <;> cases r <;> rfl
theorem ts_eq (s : S16) (t : T2) (r : Row) (k : T2 → RR) : ts s t r k = k (tset s t r):=by cases s <;> cases t <;> rfl
theorem set2_eq (q r : S16) (t : T2) (v : AV) (k : T2 → RR) : set2 q r t v k = k (set2p q r t v):=by unfold set2; rw [rs_eq,ts_eq]; rfl
theorem rg_same (s : S16) (r : Row) (v : AV) : rg s (rset s r v) = v:=by cases s <;> cases r <;> rfl
theorem tg_same (s : S16) (t : T2) (r : Row) : tg s (tset s t r) = r:=by cases s <;> cases t <;> rfl
theorem rg_ne {s s' : S16} (h : s ≠ s') (r : Row) (v : AV) : rg s (rset s' r v) = rg s r:=by cases r; cases s <;> cases s' <;> first | rfl | exact (h rfl).elim
theorem tg_ne {s s' : S16} (h : s ≠ s') (t : T2) (r : Row) : tg s (tset s' t r) = tg s t:=by cases t; cases s <;> cases s' <;> first | rfl | exact (h rfl).elim
def S16.of (n : Nat) : S16:=match n with
 | 0=>.s0
 | 1=>.s1
 | 2=>.s2
 | 3=>.s3
 | 4=>.s4
 | 5=>.s5
 | 6=>.s6
 | 7=>.s7
 | 8=>.s8
 | 9=>.s9
 | 10=>.s10
 | 11=>.s11
 | 12=>.s12
 | 13=>.s13
 | 14=>.s14
 | _=>.s15
theorem S16.n_of {n : Nat} (h : n < 16) : (S16.of n).n = n:=by
 rcases (show n = 0 ∨ n = 1 ∨ n = 2 ∨ n = 3 ∨ n = 4 ∨ n = 5 ∨ n = 6 ∨ n = 7 ∨ n = 8 ∨ n = 9 ∨ n = 10 ∨ n = 11 ∨ n = 12 ∨ n = 13 ∨ n = 14 ∨ n = 15 by omega) with h | h | h | h | h | h | h | h | h | h | h | h | h | h | h | h <;> subst h <;> rfl
end Go.Ev
namespace Go.Ev
section
variable {R : Type}
def onw (next : TM → St → Nat → R) (k : AExit → TM → St → Nat → R) : AExit → TM → St → Nat → R:=λe tm mu n=>AExit.rec (motive:=λ_=>R) (next tm mu n) (λid=>k (.exit id) tm mu n) (k .ret tm mu n) e
def loopD (z : R) (a : TM → St → Nat → (AExit → TM → St → Nat → R) → R) (fuel : Nat) : TM → St → Nat → (AExit → TM → St → Nat → R) → R :=
 Nat.rec (motive:=λ_=>TM → St → Nat → (AExit → TM → St → Nat → R) → R) (λ_ _ _ _=>z) (λ_ ih tm mu n k=>a tm mu n (onw (ih · · · k) k)) fuel
end
section
variable {R : Type} {T : R → Prop} {z : R} {P : Program} {val : Nat → Int} {fz : Fz} {orc : Orc R} {call : CallT R}
def CodeD (P : Program) (val : Nat → Int) (fz : Fz) (c : Code) (tm : TM) (mu : St) (n : Nat) (e : AExit) (tm' : TM) (mu' : St) (n' : Nat) : Prop :=
 n ≤ n' ∧ ∀ ρ w a,Rel val ρ fz mu w → TmR val ρ w tm a → FreshN ρ n n' → ∀ (Q : Exit → Act → World → Prop),(∀ a' w',PostS val ρ fz mu n w a tm' mu' n' a' w' → Q e.toExit a' w') → c.wp P Q a w
theorem codeD_same {c : Code} {tm : TM} {mu : St} {n : Nat} {e : AExit} (h : ∀ (Q : Exit → Act → World → Prop) a w,Q e.toExit a w → c.wp P Q a w) : CodeD P val fz c tm mu n e tm mu n :=
 ⟨Nat.le_refl _,λ_ w a hr ht _ Q hQ=>h Q a w (hQ a w (PostS.refl hr ht))⟩
theorem loopD_sound (hz : ¬ T z) {a : Code} {D : TM → St → Nat → (AExit → TM → St → Nat → R) → R}
 (ha : ∀ {tm : TM} {mu : St} {n : Nat} {k : AExit → TM → St → Nat → R},T (D tm mu n k) → ∃ e tm' mu' n',T (k e tm' mu' n') ∧ CodeD P val fz a tm mu n e tm' mu' n') :
 ∀ (fuel : Nat) {tm : TM} {mu : St} {n : Nat} {k : AExit → TM → St → Nat → R},T (loopD z D fuel tm mu n k) →
 ∃ e tm' mu' n',T (k e tm' mu' n') ∧ n ≤ n' ∧ ∀ ρ w act,Rel val ρ fz mu w → TmR val ρ w tm act → FreshN ρ n n' → ∀ (Q : Exit → Act → World → Prop),(∀ a' w',PostS val ρ fz mu n w act tm' mu' n' a' w' → Q e.toExit a' w') → Code.rounds P a Q fuel act w
 | 0,tm,mu,n,k,h=>(hz h).elim
 | fuel + 1,tm,mu,n,k,h=>by
  obtain ⟨e,tm1,mu1,n1,h1,h2⟩:=ha (show T (D tm mu n (onw (loopD z D fuel · · · k) k)) from h)
  cases e with
  | normal =>
   obtain ⟨e2,tm2,mu2,n2,h3,h4,h5⟩:=loopD_sound hz ha fuel (show T (loopD z D fuel tm1 mu1 n1 k) from h1)
   refine ⟨e2,tm2,mu2,n2,h3,Nat.le_trans h2.1 h4,λρ w act hr ht hf Q hQ=>?_⟩
   refine h2.2 ρ w act hr ht (hf.sub (Nat.le_refl _) h4) (Exit.then (Code.rounds P a Q fuel) Q) λa1 w1 hp=>?_
   obtain ⟨d,ρ1,p1,p2,p3,p4,p5,p6⟩:=hp
   refine h5 ρ1 w1 a1 p2 p3 (hf.later p1 h2.1) Q λa2 w2 hp2=>hQ a2 w2 ?_
   exact PostS.trans d p1 p4 p5 p6 h2.1 h4 hp2
  | exit id=>exact ⟨.exit id,tm1,mu1,n1,h1,h2.1,λρ w act hr ht hf Q hQ=>h2.2 ρ w act hr ht hf (Exit.then (Code.rounds P a Q fuel) Q) hQ⟩
  | ret=>exact ⟨.ret,tm1,mu1,n1,h1,h2.1,λρ w act hr ht hf Q hQ=>h2.2 ρ w act hr ht hf (Exit.then (Code.rounds P a Q fuel) Q) hQ⟩
end
end Go.Ev
namespace Go.Ev
inductive BC where
 | norm
 | ret
 | bad
 | exit (id : Nat)
 | reg (ops : List AOper) (next : BC)
 | draw (ops : List AOper) (next : BC)
 | ite (x : Od) (a b : BC)
 | iteN (x : Od) (a b next : BC)
 | test (x : Od) (id : Nat) (next : BC)
 | blk (id : Nat) (a next : BC)
 | loop (a next : BC)
def BC.isNorm : BC → Bool
 | .norm=>true
 | _=>false
def ACode.testId : ACode → ACode → Option Nat
 | .skip,.exit id=>some id
 | _,_=>none
def flat (c : ACode) : BC → BC:=ACode.rec (motive:=λ_=>BC → BC)
 (λnx=>nx)
 (λops nx=>.reg ops nx)
 (λops nx=>.draw ops nx)
 (λ_ _ iha ihb nx=>iha (ihb nx))
 (λx a b iha ihb nx=>Bool.rec (motive:=λ_=>BC) (Option.rec (motive:=λ_=>BC) (.iteN x (iha .norm) (ihb .norm) nx) (λid=>.test x id nx) (ACode.testId a b)) (.ite x (iha .norm) (ihb .norm)) nx.isNorm)
 (λid _ iha nx=>.blk id (iha .norm) nx)
 (λ_ iha nx=>.loop (iha .norm) nx)
 (λid _=>.exit id)
 (λ_=>.ret)
 (λ_=>.bad) c
end Go.Ev
