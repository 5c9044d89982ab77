/-
  ReplicaTimers: part 3 of what the proof is made of.
-/
import Derived.Test.YtnnjlnkoomeadaaGreatReplicaTimersP2
import Derived.RowKit3
import Derived.ChangeSame
set_option linter.unusedVariables false
set_option linter.unusedSimpArgs false
noncomputable section
namespace Go.Ev
section
variable {P : Program} {val : Nat → Int} {fz : Fz}
structure Reg (P : Program) (val : Nat → Int) (fz : Fz) (ops : Array Oper) (al : List AOper) (rs : List Rec) (tm0 : TM) (comp0 : Nat → St) (n0 : Nat) (tmE : TM) (compE : Nat → St) (nE : Nat) : Prop where
 ok : ROK ops.toList al
 opr : All2 (OpR P ops) ops.toList al
 ch : Chain P val fz 0 ops.toList al rs tm0 comp0 n0 tmE compE nE
 dead : ∀ c,¬ live al c → comp0 c = []
structure Part (val : Nat → Int) (fz : Fz) (al : List AOper) (rs : List Rec) (tm0 : TM) (comp0 : Nat → St) (n0 nE : Nat) (ρ0 : Rho) (mu0 : St) (w0 : World) (M : Nat → Bool) (ρ : Rho) (a : Act) (w : World) : Prop where
 cl : ∀ (i : Nat) o,M i = true → al[i]? = some o → ∀ j ∈ o.anc,M j = true
 ext : Ext ρ0 ρ n0 nE
 inv : CInv val ρ fz (foldC M 0 al rs comp0) w
 tmr : TmR val ρ w (Qep M 0 al rs tm0) a
 fr : Fr ρ0 mu0 w0 w
 nb : ∀ c id p,(look (foldC M 0 al rs comp0 c) id).isSome → ρ id = some p → w0.heap.size ≤ p.1 ∨ ∃ id0 p0,(look mu0 id0).isSome ∧ ρ0 id0 = some p0 ∧ p0.1 = p.1
 ni : ∀ c id,(look (foldC M 0 al rs comp0 c) id).isSome → (look mu0 id).isSome ∨ n0 ≤ id ∧ id < nE
 fresh : ∀ j,j < rs.length → M j = false → Qfd ρ (nAt n0 rs j) (nAt n0 rs (j + 1))
variable {ops : Array Oper} {al : List AOper} {rs : List Rec} {tm0 tmE : TM} {comp0 compE : Nat → St} {n0 nE : Nat} {ρ0 : Rho} {mu0 : St} {w0 : World}
theorem Qqx {n : Nat} {rs : List Rec} (h : ∀ j,j < rs.length → nAt n rs j ≤ nAt n rs (j + 1)) : ∀ i j,i ≤ j → j ≤ rs.length → nAt n rs i ≤ nAt n rs j:=by
 intro i j hij hj
 induction j with
 | zero => have : i = 0 := by omega
           subst this; exact Nat.le_refl _
 | succ j ih =>
  by_cases e : i = j + 1
  ·subst e; exact Nat.le_refl _
  ·exact Nat.le_trans (ih (by omega) (by omega)) (h j (by omega))
theorem Part.step (R : Reg P val fz ops al rs tm0 comp0 n0 tmE compE nE) {M : Nat → Bool} {ρ : Rho} {a : Act} {w : World} (S : Part val fz al rs tm0 comp0 n0 nE ρ0 mu0 w0 M ρ a w)
 {i : Nat} {oc : Oper} (hi : ops[i]? = some oc) (hMi : M i = false) (hready : ∀ e ∈ oc.after.toList,Region.binds .any e = true → M e.on = true) {K : Act → World → Prop} {Q : Exit → Act → World → Prop}
 (hK : ∀ a' w',a'.defers = a.defers → (∃ ρ',Part val fz al rs tm0 comp0 n0 nE ρ0 mu0 w0 (also M i) ρ' a' w') → K a' w') : wpOp P ops Q i K a w:=by
 have hlen:=Chain.lengths R.ch
 have hi' : ops.toList[i]? = some oc:=by simpa using hi
 obtain ⟨o,ho,hor⟩:=R.opr.get hi'
 have hil:=(List.getElem?_eq_some_iff.1 ho).1
 obtain ⟨r,hr⟩ : ∃ r,rs[i]? = some r:=⟨rs[i],List.getElem?_eq_getElem (by omega)⟩
 have hmode : ∀ (j : Nat) p,al[j]? = some p → p.mode ≤ 4:=λj p hp=>by
  have:=(List.getElem?_eq_some_iff.1 hp).1
  exact R.ok.mode j _ p (List.getElem?_eq_getElem (by omega)) hp
 obtain ⟨_,_,hnE,hnm⟩:=Chain.final R.ch
 have hmono:=Qqx hnm
 -- all that it waits for is done
 have hanc : ∀ j ∈ o.anc,M j = true:=λj hj=>by
  obtain ⟨e,he,hb,h1⟩:=R.ok.anc i oc o hi' ho j hj
  have h2:=hready e he hb
  rcases h1 with rfl | ⟨p,hp,h3⟩
  ·exact h2
  ·exact S.cl e.on p h2 hp j h3
 have hdec : ∀ (j : Nat) p,al[j]? = some p → (j < i ∧ j ∈ o.anc ∨ i < j ∧ i ∈ p.anc) → M j = decide (j < i):=λj p hp hj=>by
  rcases hj with ⟨h1,h2⟩ | ⟨h1,h2⟩
  ·rw [hanc j h2]; simp [h1]
  ·have : M j = false:=by
    cases e : M j with
    | false=>rfl
    | true=>have:=S.cl j p e hp i h2; rw [hMi] at this; cases this
   rw [this]; simp; omega
 -- the temporaries that it looks at
 have htm : ∀ q r',(q,r') ∈ Qmb oc o.g → get (Qep M 0 al rs tm0) q r' = get (Qep (λx=>decide (x < 0 + i)) 0 al rs tm0) q r':=λq r' hl=>by
  refine Qgq rfl Iff.rfl λj p hp hd=>?_
  simp only [Nat.zero_add]
  by_cases e : i = j
  ·subst e; rw [hMi]; simp
  ·rcases R.ok.pair i j oc o p hi' ho hp e with h1 | ⟨_,h2,_⟩
   ·exact hdec j p hp h1
   ·exact (h2 _ hd hl).elim
 have hdead : ∀ (M : Nat → Bool) c,¬ live al c → foldC M 0 al rs comp0 c = []:=λM c hc=>by
  refine Qlw (R.dead c hc) λj p r' hp _ ha e=>?_
  simp only [Nat.zero_add] at ha e
  rw [e] at hc
  exact hc (Qkw hp ha.2.1)
 have hmem : ∀ c ∈ reads o i,foldC M 0 al rs comp0 c = foldC (λx=>decide (x < 0 + i)) 0 al rs comp0 c:=λc hc=>by
  by_cases hlv : live al c
  ·refine Qhi rfl λj p r' hp _ ha=>?_
   simp only [Nat.zero_add] at ha ⊢
   by_cases e : i = j
   ·subst e; rw [hMi]; simp
   ·rcases R.ok.pair i j oc o p hi' ho hp e with h1 | ⟨_,_,h3⟩
    ·exact hdec j p hp h1
    ·exact ((h3 c (Qmz (hmode j p hp) hlv ha)).1 (Qvi (hmode i o ho) hlv hc)).elim
  ·rw [hdead _ c hlv,hdead _ c hlv]
 -- the parts behind it
 have hnew : foldC (also M i) 0 al rs comp0 = updC o i r (foldC M 0 al rs comp0):=by
  funext c
  by_cases hlv : live al c
  ·have:=Qnk (M:=M) (c:=c) (al:=al) (rs:=rs) (i:=0) (j0:=i) (comp:=comp0) ho hr (by simpa using hMi) λha j p r' hp hr' hj ha'=>by
    simp only [Nat.zero_add] at ha ha' ⊢
    rcases R.ok.pair i j oc o p hi' ho hp (by omega) with h1 | ⟨_,_,h3⟩
    ·rw [hdec j p hp h1]; simp; omega
    ·exact ((h3 c (Qmz (hmode j p hp) hlv ha')).2 (Qmz (hmode i o ho) hlv ha)).elim
   simpa using this
  ·rw [hdead _ c hlv]
   unfold updC
   split
   ·rename_i hw
    have : c ≠ target o i:=λe=>hlv (e ▸ Qkw ho hw.2)
    simp only [Qem,this,if_false]
    split
    ·rfl
    ·exact (hdead M c hlv).symm
   ·exact (hdead M c hlv).symm
 have htnew : TMeq (setDT (Qep M 0 al rs tm0) o.dst r.v) (Qep (also M i) 0 al rs tm0):=by
  refine ⟨λq r'=>?_,λq r'=>?_⟩
  ·have:=Ql6 (M:=M) (q:=q) (r:=r') (al:=al) (rs:=rs) (i:=0) (j0:=i) (tm:=tm0) ho hr (by simpa using hMi) λhd j p hp hj hd'=>by
    simp only [Nat.zero_add]
    rcases R.ok.pair i j oc o p hi' ho hp (by omega) with h1 | ⟨h1,_,_⟩
    ·rw [hdec j p hp h1]; simp; omega
    ·exact (h1 _ hd hd').elim
   simpa using this.symm
  ·rw [Qko,Qf2,Qf2]
 have hcl : ∀ (k : Nat) p,also M i k = true → al[k]? = some p → ∀ j ∈ p.anc,also M i j = true:=by
  intro k p hk hp j hj
  have up : ∀ j,M j = true → also M i j = true:=λj h=>by unfold also; split <;> simp [h]
  unfold also at hk
  split at hk
  ·subst_vars; rw [ho] at hp; cases hp; exact up j (hanc j hj)
  ·exact up j (S.cl k p hk hp j hj)
 have hsem:=Chain.get R.ch i oc o r hi' ho hr
 obtain ⟨s1,s2,s3,s4⟩:=hsem
 simp only [Nat.zero_add] at s2 s3 htm hmem
 have hn1 : r.n1 = nAt n0 rs (i + 1):=by simp [nAt,hr]
 have hg : Region.wanted oc (yielded ops a.tmps) = r.w:=by
  refine Qm3 hor.2.2 (Qi4.congr (λq r' x hx=>(htm q r' ?_).symm) s2) S.tmr
  unfold Qmb
  refine List.mem_append_right _ ?_
  rw [hx]; simp
 unfold wpOp
 simp only [hi,hg]
 cases hw : r.w with
 | true =>
  simp only [if_true]
  left
  have hs:=s3 hw
  rw [← Qt2 hmem,← Qtt hmem] at hs
  refine hs.2 ρ w a (S.inv.rel o i) (OperR.of S.tmr htm) (by rw [hn1]; exact S.fresh i (by omega) hMi) K Q λx w' hp=>?_
  obtain ⟨ρ',p1,p2,p3,p4,p5,p6⟩:=hp
  refine hK _ _ (put_defers _ _ _) ⟨ρ',?_⟩
  have hupd : foldC (also M i) 0 al rs comp0 = if o.mode ≠ 0 then Qem (foldC M 0 al rs comp0) (takes o i) (target o i) r.out else foldC M 0 al rs comp0:=by
   rw [hnew]; unfold updC; simp [hw]
  have hfr1 : Qfd ρ (nAt n0 rs i) r.n1:=by rw [hn1]; exact S.fresh i (by omega) hMi
  have hle1 : n0 ≤ nAt n0 rs i:=hmono 0 i (by omega) (by omega)
  have hle2 : r.n1 ≤ nE:=by rw [hn1,hnE]; exact hmono (i + 1) rs.length (by omega) (Nat.le_refl _)
  have oldRho : ∀ c id p,(look (foldC M 0 al rs comp0 c) id).isSome → ρ' id = some p → ρ id = some p:=λc id p hl hp=>by
   obtain ⟨cs,hcs⟩:=Option.isSome_iff_exists.1 hl
   obtain ⟨q,o',h1,_⟩:=(S.inv.rm c id cs hcs).at
   have:=p1.old id q h1
   rw [hp] at this; cases this; exact h1
  have hnbm : NewB ρ0 ρ mu0 (muv o i (foldC M 0 al rs comp0)) w0:=λid p hl hp=>by
   obtain ⟨c,_,h2⟩:=Qg1 hl
   exact S.nb c id p h2 hp
  refine ⟨hcl,⟨λid p h=>p1.old id p (S.ext.old id p h),λid p h=>?_⟩,?_,?_,S.fr.trans hnbm p4,?_,?_,?_⟩
  ·rcases p1.new id p h with h1 | h1
   ·exact S.ext.new id p h1
   ·exact .inr ⟨by omega,by omega⟩
  ·rw [hupd]
   split
   ·exact S.inv.update (λid hl=>Qg1 hl) p1 hfr1 p2 p4 p5 p6
   ·rename_i h0
    have h0' : o.mode = 0:=Classical.not_not.1 h0
    have : muv o i (foldC M 0 al rs comp0) = []:=by simp [muv,takes,h0',cat]
    rw [this] at p4
    exact S.inv.mono0 p1.old p4
  ·have:=(S.tmr.mono p1.old p4.shape).put oc.dst p3
   rw [← hor.1] at this
   exact this.congr htnew
  ·intro c id p hl hp
   rw [hupd] at hl
   split at hl
   ·unfold Qem at hl
    split at hl
    ·rcases p5 id p hl hp with h1 | ⟨id0,q0,h1,h2,h3⟩
     ·exact .inl (Nat.le_trans S.fr.size h1)
     ·obtain ⟨c',_,h4⟩:=Qg1 h1
      rcases S.nb c' id0 q0 h4 h2 with h5 | ⟨id1,q1,h5,h6,h7⟩
      ·exact .inl (h3 ▸ h5)
      ·exact .inr ⟨id1,q1,h5,h6,h7.trans h3⟩
    ·split at hl
     ·cases hl
     ·exact S.nb c id p hl (oldRho c id p hl hp)
   ·exact S.nb c id p hl (oldRho c id p hl hp)
  ·intro c id hl
   rw [hupd] at hl
   split at hl
   ·unfold Qem at hl
    split at hl
    ·rcases p6 id hl with h1 | h1
     ·obtain ⟨c',_,h4⟩:=Qg1 h1
      exact S.ni c' id h4
     ·exact .inr ⟨by omega,by omega⟩
    ·split at hl
     ·cases hl
     ·exact S.ni c id hl
   ·exact S.ni c id hl
  ·intro j hj hMj id h1 h2
   have hji : j ≠ i:=λe=>by subst e; simp [also] at hMj
   have hMj' : M j = false:=by unfold also at hMj; simpa [hji] using hMj
   cases e : ρ' id with
   | none=>rfl
   | some p =>
    rcases p1.new id p e with h3 | ⟨h3,h4⟩
    ·rw [S.fresh j hj hMj' id h1 h2] at h3; cases h3
    ·rw [hn1] at h4
     rcases Nat.lt_or_gt_of_ne hji with hlt | hlt
     ·have:=hmono (j + 1) i (by omega) (by omega); omega
     ·have:=hmono (i + 1) j (by omega) (by omega); omega
 | false =>
  simp only [Bool.false_eq_true,if_false]
  have hupd : foldC (also M i) 0 al rs comp0 = foldC M 0 al rs comp0:=by rw [hnew]; unfold updC; simp [hw]
  refine hK _ _ (put_defers _ _ _) ⟨ρ,hcl,S.ext,by rw [hupd]; exact S.inv,?_,S.fr,by rw [hupd]; exact S.nb,by rw [hupd]; exact S.ni,λj hj hMj=>S.fresh j hj ?_⟩
  ·have:=S.tmr.put (x:=undef) (v:=r.v) oc.dst (by rw [s4 hw]; exact ⟨[],rfl,trivial⟩)
   rw [← hor.1] at this
   exact this.congr htnew
  ·unfold also at hMj
   split at hMj
   ·cases hMj
   ·exact hMj
theorem Part.any (R : Reg P val fz ops al rs tm0 comp0 n0 tmE compE nE) {Q : Exit → Act → World → Prop} {d : Act}
 (hQ : ∀ ρ a w,a.defers = d.defers → Part val fz al rs tm0 comp0 n0 nE ρ0 mu0 w0 (λ_=>true) ρ a w → Q .normal a w) :
 ∀ (fuel : Nat) (listed : Array Bool) (a : Act) (w : World), listed.size = ops.size → listed.toList.count false ≤ fuel → a.defers = d.defers →
   (∃ ρ,Part val fz al rs tm0 comp0 n0 nE ρ0 mu0 w0 (λx=>listed.getD x false) ρ a w) → wpAny P .any ops Q fuel listed a w:=by
 have hlen:=Chain.lengths R.ch
 have full : ∀ listed : Array Bool, listed.size = ops.size → Region.ready .any ops listed = [] → ∀ i, i < ops.size → listed.getD i false = true := by
  intro listed hs hr i
  induction i using Nat.strongRecOn with
  | ind i ih =>
   intro hi
   cases e : listed.getD i false with
   | true=>rfl
   | false =>
    exfalso
    have hm : i ∈ Region.ready .any ops listed:=by
     unfold Region.ready
     rw [List.mem_filter]
     refine ⟨List.mem_range.2 hi,?_⟩
     have h1 : listed.getD i true = false:=by
      simp only [Array.getD_eq_getD_getElem?,Array.getElem?_eq_getElem (show i < listed.size by omega),Option.getD_some] at e ⊢
      exact e
     rw [h1,Array.getElem?_eq_getElem hi]
     simp only [Bool.not_false,Bool.true_and,Option.map_some,Option.getD_some,Array.all_eq_true']
     intro ed hed
     cases hb : Region.binds .any ed with
     | false=>rfl
     | true =>
      obtain ⟨o,ho,_⟩:=R.opr.get (show ops.toList[i]? = some ops[i] by simp [hi])
      have:=R.ok.back i ops[i] o (by simp [hi]) ho ed (by simpa using hed) hb
      simp [ih ed.on this (by omega)]
    rw [hr] at hm; cases hm
 have fin : ∀ (listed : Array Bool) a w,listed.size = ops.size → a.defers = d.defers → (∀ i,i < ops.size → listed.getD i false = true) → (∃ ρ,Part val fz al rs tm0 comp0 n0 nE ρ0 mu0 w0 (λx=>listed.getD x false) ρ a w) → Q .normal a w:=by
  intro listed a w hs hd hf ⟨ρ,S⟩
  refine hQ ρ a w hd ?_
  have hlt : ∀ (j : Nat) p,al[j]? = some p → listed.getD (0 + j) false = true:=λj p hp=>by
   have:=(List.getElem?_eq_some_iff.1 hp).1
   rw [Nat.zero_add]
   exact hf j (by simp at hlen; omega)
  have e1 : foldC (λx=>listed.getD x false) 0 al rs comp0 = foldC (λ_=>true) 0 al rs comp0:=by
   funext c; exact Qhi rfl λj p _ hp _ _=>hlt j p hp
  have e2 : TMeq (Qep (λx=>listed.getD x false) 0 al rs tm0) (Qep (λ_=>true) 0 al rs tm0) :=
   ⟨λq r=>Qgq rfl Iff.rfl λj p hp _=>hlt j p hp,λq r=>by rw [Qf2,Qf2]⟩
  refine ⟨λ_ _ _ _ _ _=>rfl,S.ext,by rw [← e1]; exact S.inv,S.tmr.congr e2,S.fr,by rw [← e1]; exact S.nb,by rw [← e1]; exact S.ni,λj _ h=>by cases h⟩
 intro fuel
 induction fuel with
 | zero =>
  intro listed a w hs hc hd hS
  have hall : ∀ i,i < ops.size → listed.getD i false = true:=λi hi=>by
   have hn : false ∉ listed.toList:=List.count_eq_zero.1 (by omega)
   cases e : listed.getD i false with
   | true=>rfl
   | false =>
    simp only [Array.getD_eq_getD_getElem?,Array.getElem?_eq_getElem (show i < listed.size by omega),Option.getD_some] at e
    exact (hn (by rw [← e]; simp)).elim
  refine ⟨?_,fin listed a w hs hd hall hS⟩
  unfold Region.ready
  rw [List.filter_eq_nil_iff]
  intro i hi
  have hi':=List.mem_range.1 hi
  have:=hall i hi'
  simp only [Array.getD_eq_getD_getElem?,Array.getElem?_eq_getElem (show i < listed.size by omega),Option.getD_some] at this ⊢
  simp [this]
 | succ fuel ih =>
  intro listed a w hs hc hd hS
  refine ⟨λhr=>fin listed a w hs hd (full listed hs hr) hS,λi hi=>?_⟩
  unfold Region.ready at hi
  rw [List.mem_filter] at hi
  obtain ⟨h1,h2⟩:=hi
  have hlt:=List.mem_range.1 h1
  rw [Array.getElem?_eq_getElem hlt] at h2
  simp only [Bool.and_eq_true,Bool.not_eq_true',Option.map_some,Option.getD_some,Array.all_eq_true',Bool.or_eq_true] at h2
  obtain ⟨h2,h3⟩:=h2
  have hMi : listed.getD i false = false:=by
   simp only [Array.getD_eq_getD_getElem?,Array.getElem?_eq_getElem (show i < listed.size by omega),Option.getD_some] at h2 ⊢
   exact h2
  obtain ⟨ρ,S⟩:=hS
  refine Part.step R S (Array.getElem?_eq_getElem hlt) hMi (λe he hb=>?_) λa' w' hd' hS'=>?_
  ·have:=h3 e (by simpa using he)
   simpa [hb] using this
  ·have eM : also (λx=>listed.getD x false) i = λx=>(listed.setIfInBounds i true).getD x false:=by
    funext x
    unfold also
    simp only [Array.getD_eq_getD_getElem?,Array.getElem?_setIfInBounds]
    by_cases e : x = i
    ·subst e; simp [show x < listed.size by omega]
    ·have e' : ¬ i = x:=λh=>e h.symm
     simp [e,e']
   rw [eM] at hS'
   refine ih _ a' w' (by simpa using hs) ?_ (hd'.trans hd) hS'
   have hl : i < listed.toList.length:=by simp; omega
   have hv : listed.toList[i] = false:=by
    simp only [Array.getD_eq_getD_getElem?,Array.getElem?_eq_getElem (show i < listed.size by omega),Option.getD_some] at hMi
    simpa using hMi
   rw [Array.toList_setIfInBounds,List.count_set hl,hv]
   have : 0 < listed.toList.count false:=List.count_pos_iff.2 (by rw [← hv]; exact List.getElem_mem hl)
   rw [if_pos (by rfl),if_neg (by decide)]
   omega
end
end Go.Ev
namespace Go.Ev
section
variable {R : Type} {T : R → Prop} {z : R} {P : Program} {val : Nat → Int} {fz : Fz} {orc : Orc R} {call : CallT R}
structure Split (mu0 : St) (comp : Nat → St) : Prop where
 sub : ∀ c id cs,look (comp c) id = some cs → look mu0 id = some cs
 one : ∀ c c' id,(look (comp c) id).isSome → (look (comp c') id).isSome → c = c'
theorem Split.inv {mu0 : St} {comp : Nat → St} {ρ : Rho} {w : World} (h : Split mu0 comp) (hr : Rel val ρ fz mu0 w) : CInv val ρ fz comp w:=by
 have sub' : ∀ c id,(look (comp c) id).isSome → (look mu0 id).isSome:=λc id hs=>by
  obtain ⟨cs,hcs⟩:=Option.isSome_iff_exists.1 hs
  simp [h.sub c id cs hcs]
 refine ⟨hr.rf,λc id cs hl=>hr.rm id cs (h.sub c id cs hl),λc id cs hl=>hr.dm id cs (h.sub c id cs hl),λc c' id id' p p' hl hl' hp hp' e=>?_,λc id id' p p' hl hl' hp hp' e=>?_⟩
 ·have:=hr.dj id id' p p' (sub' c id hl) (.inl (sub' c' id' hl')) hp hp' e
  subst this
  exact ⟨h.one c c' id hl hl',rfl⟩
 ·have:=hr.dj id id' p p' (sub' c id hl) (.inr hl') hp hp' e
  subst this
  obtain ⟨cs,hcs⟩:=Option.isSome_iff_exists.1 hl
  rw [hr.dm id cs (h.sub c id cs hcs)] at hl'
  cases hl'
theorem Split.move {mu0 mu : St} {ad : List St} {i id : Nat} {cs : List SV} (hs : Split mu0 (Qdy mu ad)) (hi : i < ad.length) (e2 : look mu id = some cs) : Split mu0 (Qdy (killS mu id) (ad.set i ((id, cs) :: (ad[i]?).getD []))) := by
 have hget : ∀ j,((ad.set i ((id,cs) :: (ad[i]?).getD []))[j]?).getD [] = if j = i then (id,cs) :: (ad[i]?).getD [] else (ad[j]?).getD []:=λj=>by
  rw [List.getElem?_set]
  by_cases e : i = j
  ·subst e; simp [hi]
  ·have e' : ¬ j = i:=λx=>e x.symm
   simp [e,e']
 refine ⟨λc id' cs' hc=>?_,λc c' id' hc hc'=>?_⟩
 ·cases c with
  | zero =>
   simp only [Qdy,Qdz] at hc
   split at hc
   ·cases hc
   ·exact hs.sub 0 id' cs' hc
  | succ j =>
   simp only [Qdy,hget] at hc
   split at hc
   ·rename_i hj; subst hj
    rw [Qd1] at hc
    split at hc
    ·subst_vars; cases hc; exact hs.sub 0 _ _ e2
    ·exact hs.sub (j + 1) id' cs' hc
   ·exact hs.sub (j + 1) id' cs' hc
 ·have key : ∀ c,(look (Qdy (killS mu id) (ad.set i ((id,cs) :: (ad[i]?).getD [])) c) id').isSome → (c = i + 1 ∧ id' = id) ∨ (id' ≠ id ∧ (look (Qdy mu ad c) id').isSome):=by
   intro c hx
   cases c with
   | zero =>
    simp only [Qdy,Qdz] at hx
    split at hx
    ·cases hx
    ·rename_i hne; exact .inr ⟨λe=>hne e.symm,hx⟩
   | succ j =>
    simp only [Qdy,hget] at hx
    have other : (look ((ad[j]?).getD []) id').isSome → (id' ≠ id ∧ (look (Qdy mu ad (j + 1)) id').isSome):=λhy=>by
     by_cases e : id' = id
     ·subst e
      have:=hs.one (j + 1) 0 id' hy (by simp [Qdy,e2])
      cases this
     ·exact ⟨e,hy⟩
    split at hx
    ·rename_i hj; subst hj
     rw [Qd1] at hx
     split at hx
     ·subst_vars; exact .inl ⟨rfl,rfl⟩
     ·exact .inr (other hx)
    ·exact .inr (other hx)
  rcases key c hc with ⟨h1,h2⟩ | ⟨h1,h2⟩
  ·rcases key c' hc' with ⟨h3,h4⟩ | ⟨h3,h4⟩
   ·rw [h1,h3]
   ·exact (h3 h2).elim
  ·rcases key c' hc' with ⟨h3,h4⟩ | ⟨h3,h4⟩
   ·exact (h1 h4).elim
   ·exact hs.one c c' id' h2 h4
theorem Qlt {mu0 mu : St} {ad : List St} {i id : Nat} {J : St → List St → R} (hs : Split mu0 (Qdy mu ad)) (hi : i < ad.length) (h : T (moveK i id mu ad J)) :
 ∃ mu1 ad1,T (J mu1 ad1) ∧ ad1.length = ad.length ∧ Split mu0 (Qdy mu1 ad1) ∧ ∀ j,j ≠ i → (ad1[j]?).getD [] = (ad[j]?).getD []:=by
 unfold moveK at h
 cases e2 : look mu id with
 | none=>rw [e2] at h; exact ⟨mu,ad,h,rfl,hs,λ_ _=>rfl⟩
 | some cs =>
  rw [e2] at h
  have h3 : T (killK mu id λmu=>setK ad i ((id,cs) :: nth [] ad i) λad=>J mu ad):=h
  rw [Qkg,Qgi,Qfe] at h3
  refine ⟨_,_,h3,by simp,hs.move hi e2,λj hj=>?_⟩
  rw [List.getElem?_set,if_neg (λx=>hj x.symm)]
theorem Qs0 {cs : List SV} {no : R} {k : Nat → R} (h : T (bufK cs no k)) : T no ∨ ∃ g, T (k g) := by
 unfold bufK at h
 cases cs with
 | nil=>exact .inl h
 | cons a l =>
  have h1 : T (a.onMk no λm=>cond (Nat.beq m 3) ((nth .un (a :: l) 3).onBlk no k) no):=h
  cases a with
  | mk t =>
   have h2 : T (cond (Nat.beq t 3) ((nth .un (SV.mk t :: l) 3).onBlk no k) no):=h1
   cases e : Nat.beq t 3 with
   | false=>rw [e] at h2; exact .inl h2
   | true =>
    rw [e] at h2
    have h3 : T ((nth .un (SV.mk t :: l) 3).onBlk no k):=h2
    generalize nth .un (SV.mk t :: l) 3 = s at h3
    cases s with
    | optr id off=>exact .inr ⟨id,h3⟩
    | osl id off len cap s=>exact .inr ⟨id,h3⟩
    | _=>exact .inl h3
  | _=>exact .inl h1
theorem Qna {mu0 mu : St} {ad : List St} {i : Nat} {v : AV} {J : St → List St → R} (hs : Split mu0 (Qdy mu ad)) (hi : i < ad.length) (h : T (Qe7 v i mu ad J)) :
 ∃ mu1 ad1,T (J mu1 ad1) ∧ ad1.length = ad.length ∧ Split mu0 (Qdy mu1 ad1) ∧ ∀ j,j ≠ i → (ad1[j]?).getD [] = (ad[j]?).getD []:=by
 have skip : T (J mu ad) → ∃ mu1 ad1,T (J mu1 ad1) ∧ ad1.length = ad.length ∧ Split mu0 (Qdy mu1 ad1) ∧ ∀ j,j ≠ i → (ad1[j]?).getD [] = (ad[j]?).getD []:=λh=>⟨mu,ad,h,rfl,hs,λ_ _=>rfl⟩
 have main : ∀ id,T (Option.rec (motive:=λ_=>R) (J mu ad) (λcs=>moveK i id mu ad λmu ad=>bufK cs (J mu ad) λg=>moveK i g mu ad J) (look mu id)) →
  ∃ mu1 ad1,T (J mu1 ad1) ∧ ad1.length = ad.length ∧ Split mu0 (Qdy mu1 ad1) ∧ ∀ j,j ≠ i → (ad1[j]?).getD [] = (ad[j]?).getD []:=by
  intro id h
  cases e2 : look mu id with
  | none=>rw [e2] at h; exact skip h
  | some cs =>
   rw [e2] at h
   obtain ⟨mu1,ad1,h1,h2,h3,h4⟩:=Qlt hs hi (show T (moveK i id mu ad λmu ad=>bufK cs (J mu ad) λg=>moveK i g mu ad J) from h)
   rcases Qs0 h1 with h5 | ⟨g,h5⟩
   ·exact ⟨mu1,ad1,h5,h2,h3,h4⟩
   ·obtain ⟨mu2,ad2,g1,g2,g3,g4⟩:=Qlt h3 (by rw [h2]; exact hi) h5
    exact ⟨mu2,ad2,g1,g2.trans h2,g3,λj hj=>(g4 j hj).trans (h4 j hj)⟩
 cases v with
 | ag l=>exact skip h
 | tp l=>exact skip h
 | one s =>
  cases s with
  | optr id off=>exact main id h
  | osl id off len cap s=>exact main id h
  | _=>exact skip h
theorem Ql7 (hz : ¬ T z) {mu0 : St} : ∀ {al : List AOper} {i : Nat} {tm : TM} {mu : St} {ad : List St} {k : St → List St → R}, i + al.length ≤ ad.length → Split mu0 (Qdy mu ad) → T (apart al i tm mu ad k) →
 ∃ mu' ad',T (k mu' ad') ∧ ad'.length = ad.length ∧ Split mu0 (Qdy mu' ad') ∧ ∀ j,(ad'[j]?).getD [] = (ad[j]?).getD [] ∨ ∃ (m : Nat) (p : AOper),j = i + m ∧ al[m]? = some p ∧ p.mode = 4
 | [],i,tm,mu,ad,k,_,hs,h=>⟨mu,ad,h,rfl,hs,λj=>.inl rfl⟩
 | o :: al, i, tm, mu, ad, k, hl, hs, h => by
  have go : ∀ mu1 ad1,ad1.length = ad.length → Split mu0 (Qdy mu1 ad1) → (∀ j,(ad1[j]?).getD [] = (ad[j]?).getD [] ∨ (j = i ∧ o.mode = 4)) → T (apart al (i + 1) tm mu1 ad1 k) →
   ∃ mu' ad',T (k mu' ad') ∧ ad'.length = ad.length ∧ Split mu0 (Qdy mu' ad') ∧ ∀ j,(ad'[j]?).getD [] = (ad[j]?).getD [] ∨ ∃ (m : Nat) (p : AOper),j = i + m ∧ (o :: al)[m]? = some p ∧ p.mode = 4:=by
   intro mu1 ad1 h1 h2 h4 h5
   obtain ⟨mu',ad',g1,g2,g3,g4⟩:=Ql7 hz (by simp at hl; omega) h2 h5
   refine ⟨mu',ad',g1,g2.trans h1,g3,λj=>?_⟩
   rcases g4 j with g | ⟨m,p,e1,e2,e3⟩
   ·rcases h4 j with g' | ⟨e1,e2⟩
    ·exact .inl (g.trans g')
    ·exact .inr ⟨0,o,by omega,by simp,e2⟩
   ·exact .inr ⟨m + 1,p,by omega,by simpa using e2,e3⟩
  have skip : T (apart al (i + 1) tm mu ad k) → ∃ mu' ad',T (k mu' ad') ∧ ad'.length = ad.length ∧ Split mu0 (Qdy mu' ad') ∧ ∀ j,(ad'[j]?).getD [] = (ad[j]?).getD [] ∨ ∃ (m : Nat) (p : AOper),j = i + m ∧ (o :: al)[m]? = some p ∧ p.mode = 4 :=
   λh=>go mu ad rfl hs (λj=>.inl rfl) h
  by_cases hm : o.mode = 4
  ·have hb4 : Nat.beq o.mode 4 = true:=by rw [hm]; rfl
   have h0 : T (Option.rec (motive:=λ_=>R) (apart al (i + 1) tm mu ad k) (λx=>Qe7 (ev tm x) i mu ad λmu ad=>apart al (i + 1) tm mu ad k) o.op.Qqi):=by
    have h1 : T (cond (Nat.beq o.mode 4) (Option.rec (motive:=λ_=>R) (apart al (i + 1) tm mu ad k) (λx=>Qe7 (ev tm x) i mu ad λmu ad=>apart al (i + 1) tm mu ad k) o.op.Qqi) (apart al (i + 1) tm mu ad k)):=h
    rw [hb4] at h1; exact h1
   cases hx : o.op.Qqi with
   | none=>rw [hx] at h0; exact skip h0
   | some x =>
    rw [hx] at h0
    obtain ⟨mu1,ad1,h1,h2,h3,h4⟩:=Qna hs (by simp at hl; omega) (show T (Qe7 (ev tm x) i mu ad λmu ad=>apart al (i + 1) tm mu ad k) from h0)
    refine go mu1 ad1 h2 h3 (λj=>?_) h1
    by_cases e : j = i
    ·exact .inr ⟨e,hm⟩
    ·exact .inl (h4 j e)
  ·have hb : Nat.beq o.mode 4 = false:=by
    cases e : Nat.beq o.mode 4 with
    | false=>rfl
    | true=>exact (hm (Nat.eq_of_beq_eq_true e)).elim
   unfold apart at h
   simp only [hb,cond_false] at h
   exact skip h
def joined : List St → St → St
 | [],mu=>mu
 | s :: r,mu=>joined r (s ++ mu)
theorem Qri (l : List St) (mu : St) (k : St → R) : Qhw l mu k = k (joined l mu):=by
 induction l generalizing mu with
 | nil=>rfl
 | cons s r ih =>
  show joinK s mu (λmu=>Qhw r mu k) = _
  rw [Qgu,ih]
  rfl
theorem Qk2 {id : Nat} {cs : List SV} : ∀ {l : List St} {mu : St},look (joined l mu) id = some cs → look mu id = some cs ∨ ∃ j : Nat,look ((l[j]?).getD []) id = some cs
 | [],mu,h=>.inl h
 | s :: r, mu, h => by
  rcases Qk2 (l:=r) h with h1 | ⟨j,h1⟩
  ·rw [Qd2] at h1
   cases e : look s id with
   | some c=>rw [e] at h1; cases h1; exact .inr ⟨0,by simpa using e⟩
   | none=>rw [e] at h1; exact .inl h1
  ·exact .inr ⟨j + 1,by simpa using h1⟩
theorem Qfm {id : Nat} {cs : List SV} {ad : List St} {mu : St} (h : look (joined ad mu) id = some cs) : ∃ c,look (Qdy mu ad c) id = some cs:=by
 rcases Qk2 h with h | ⟨j,h⟩
 ·exact ⟨0,h⟩
 ·exact ⟨j + 1,h⟩
theorem Qhf : ∀ {l : List AOper} {need : List (Nat × Nat)} {r : List AOper}, Qd0 l need = some r → ∀ o ∈ r, o ∈ l
 | [],need,r,h,o,ho=>by cases h; cases ho
 | a :: l, need, r, h, o, ho => by
  unfold Qd0 at h
  split at h
  ·exact List.mem_cons_of_mem _ (Qhf h o ho)
  ·split at h
   ·split at h
    ·obtain ⟨r',h1,rfl⟩:=Option.map_eq_some_iff.1 h
     simp only [List.mem_cons] at ho ⊢
     rcases ho with rfl | ho
     ·exact .inl rfl
     ·exact .inr (Qhf h1 o ho)
    ·cases h
   ·exact List.mem_cons_of_mem _ (Qhf h o ho)
theorem Qtd {al : List AOper} {o : AOper} (h : o ∈ preOf al) : o ∈ al:=by
 unfold preOf at h
 rw [List.mem_flatMap] at h
 obtain ⟨p,_,h2⟩:=h
 split at h2
 ·cases e : Qd0 (al.take p.2).reverse [_] with
  | none=>rw [e] at h2; simp at h2
  | some r =>
   rw [e] at h2
   have:=Qhf e o (by simpa using h2)
   exact List.mem_of_mem_take (by simpa using this)
 ·cases h2
theorem Qmr (al : List AOper) : (Qlu al).length = al.length:=by simp [Qlu]
theorem Qre {al : List AOper} {i : Nat} {p : AOper} (h : (Qlu al)[i]? = some p) : ∃ o,al[i]? = some o ∧ p.op = o.op ∧ p.dst = o.dst ∧ p.g = o.g ∧ p.anc = o.anc ∧ (p.mode = o.mode ∨ p.mode = 0):=by
 unfold Qlu at h
 rw [List.getElem?_map,List.getElem?_zipIdx] at h
 cases e : al[i]? with
 | none=>rw [e] at h; cases h
 | some o =>
  rw [e] at h
  simp only [Option.map_some,Option.some.injEq] at h
  refine ⟨o,rfl,?_⟩
  split at h
  ·split at h
   ·subst h; exact ⟨rfl,rfl,rfl,rfl,.inl rfl⟩
   ·subst h; exact ⟨rfl,rfl,rfl,rfl,.inr rfl⟩
  ·subst h; exact ⟨rfl,rfl,rfl,rfl,.inl rfl⟩
theorem Qow (hz : ¬ T z) (hc : Qey T P val call) (hk : OrcOk T val orc) {ops : Array Oper} : ∀ {l : List AOper} {tm : TM} {mu : St} {n : Nat} {k : TM → R},(∀ ao ∈ l,∃ o,OpR P ops o ao) → T (preK orc z call fz l tm mu n k) → ∃ tm',T (k tm')
 | [],tm,mu,n,k,_,h=>⟨tm,h⟩
 | ao :: l,tm,mu,n,k,hr,h=>by
  obtain ⟨o,ho⟩:=hr ao (by simp)
  obtain ⟨tm1,mu1,n1,h1,_⟩:=Qkx (P:=P) (val:=val) hz hc hk ho (show T (stepK orc z call fz ao tm mu n λtm _ _=>preK orc z call fz l tm mu n k) from h)
  exact Qow hz hc hk (λao h=>hr ao (by simp [h])) h1
theorem Qln (hz : ¬ T z) (hc : Qey T P val call) (hk : OrcOk T val orc) (hmx : P.follows .mixedOrders = true) {id : Nat} {ops : Array Oper} {al : List AOper} {tm : TM} {mu : St} {n : Nat} {k : TM → St → Nat → R} (hok : regOk ops.toList al = true) (hopr : All2 (OpR P ops) ops.toList al)
 (h : T (drawK orc z call fz al tm mu n k)) :
 ∃ tm' mu' n',T (k tm' mu' n') ∧ n ≤ n' ∧ ∀ ρ w a,Rel val ρ fz mu w → TmR val ρ w tm a → Qfd ρ n n' → ∀ (Q : Exit → Act → World → Prop),(∀ a' w',PostS val ρ fz mu n w a tm' mu' n' a' w' → Q .normal a' w') → (Code.region id ops true).wp P Q a w:=by
 have rok:=rok_of hok
 have hlen:=hopr.length
 have hd0 : ∀ j,(((al.map λ_=>([] : St)))[j]?).getD [] = []:=λj=>by
  rw [List.getElem?_map]; cases al[j]? <;> rfl
 have hs0 : Split mu (Qdy mu (al.map λ_=>[])):=by
  refine ⟨λc id cs hl=>?_,λc c' id hl hl'=>?_⟩
  ·cases c with
   | zero=>exact hl
   | succ j=>simp only [Qdy,hd0] at hl; cases hl
  ·cases c with
   | succ j=>simp only [Qdy,hd0] at hl; cases hl
   | zero=>cases c' with
    | zero=>rfl
    | succ j=>simp only [Qdy,hd0] at hl'; cases hl'
 unfold drawK at h
 obtain ⟨tm0,h⟩:=Qow (P:=P) (val:=val) hz hc hk (ops:=ops) (λao hao=>by
  obtain ⟨i,hi⟩:=List.getElem?_of_mem (Qtd hao)
  have hlt : i < ops.toList.length:=by rw [hlen]; exact (List.getElem?_eq_some_iff.1 hi).1
  obtain ⟨b,hb,hR⟩:=hopr.get (List.getElem?_eq_getElem hlt)
  rw [hi] at hb; cases hb
  exact ⟨_,hR⟩) h
 obtain ⟨mu1,ad1,h1,h2,h3,h4⟩:=Ql7 hz (by simp [Qmr]) hs0 h
 obtain ⟨rs,tm',mu2,ad2,n',h5,h6,h7⟩:=Qnf (P:=P) (val:=val) hz hc hk hopr (by simp at h2; omega) (λj ao hj=>by
  have hj':=(List.getElem?_eq_some_iff.1 hj).1
  refine ⟨rok.mode j _ ao (List.getElem?_eq_getElem (by omega)) hj,λhm=>?_⟩
  have:=rok.lt hlen j ao hj (0 + j) hm
  omega) h1
 rw [Qri] at h5
 obtain ⟨f1,f2,f3,f4⟩:=Chain.final h7
 have hmono:=Qqx f4
 have hdead : ∀ c,¬ live al c → Qdy mu1 ad1 c = []:=λc hc=>by
  cases c with
  | zero=>exact (hc (.inl rfl)).elim
  | succ j =>
   rcases h4 j with e | ⟨m,p',e1,e2,e3⟩
   ·simp only [Qdy,e,hd0]
   ·rw [Nat.zero_add] at e1; subst e1
    obtain ⟨p,e2,_,_,_,_,e4⟩:=Qre e2
    have e3 : p.mode = 4:=by rcases e4 with e4 | e4 <;> omega
    exact (hc (.inr ⟨j,p,rfl,e2,by omega,by omega⟩)).elim
 have RG : Reg P val fz ops al rs tm (Qdy mu1 ad1) n tm' (Qdy mu2 ad2) n':=⟨rok,hopr,h7,hdead⟩
 have hn : n ≤ n':=by rw [f3]; exact hmono 0 _ (by omega) (Nat.le_refl _)
 refine ⟨tm',joined ad2 mu2,n',h5,hn,λρ w a hr ht hf Q hQ=>?_⟩
 have e0 : foldC (λ_=>false) 0 al rs (Qdy mu1 ad1) = Qdy mu1 ad1:=by funext c; exact Qh2 λ_ _ _ _ _ _=>rfl
 have t0 : TMeq tm (Qep (λ_=>false) 0 al rs tm):=⟨λq r=>(Qil λ_ _ _ _=>rfl).symm,λq r=>by rw [Qf2]⟩
 have hS : Part val fz al rs tm (Qdy mu1 ad1) n n' ρ mu w.drew (λ_=>false) ρ a w.drew:=by
  refine ⟨λ_ _ h=>(by cases h),Ext.refl _ _ _,?_,?_,Fr.refl _ _ _,λc id p hl hp=>?_,λc id hl=>?_,λj hj _=>?_⟩
  ·rw [e0]; exact (h3.inv hr).like (Like.drew w)
  ·exact (ht.mono (λ_ _ h=>h) (λb=>Nat.le_of_eq ((Like.drew w).bsize b).symm)).congr t0
  ·rw [e0] at hl
   obtain ⟨cs,hcs⟩:=Option.isSome_iff_exists.1 hl
   exact .inr ⟨id,p,by simp [h3.sub c id cs hcs],hp,rfl⟩
  ·rw [e0] at hl
   obtain ⟨cs,hcs⟩:=Option.isSome_iff_exists.1 hl
   exact .inl (by simp [h3.sub c id cs hcs])
  ·refine hf.sub (hmono 0 j (by omega) (by omega)) ?_
   rw [f3]; exact hmono (j + 1) _ (by omega) (Nat.le_refl _)
 refine wp_region_any hmx (Part.any RG (ρ0:=ρ) (mu0:=mu) (w0:=w.drew) (d:=a) (λρ' a' w' hd S=>hQ a' w' ⟨hd,ρ',S.ext,?_,?_,⟨S.fr.os,S.fr.tape,S.fr.output,S.fr.size,S.fr.keep,S.fr.shape⟩,λid p hl hp=>?_,λid hl=>?_⟩) _ _ a _ (by simp) (by simp [List.count_le_length]) rfl ⟨ρ,?_⟩)
 ·have:=S.inv
  rw [← f2] at this
  refine ⟨this.rf,λid cs hl=>?_,λid cs hl=>?_,λid id' p p' hl hl' hp hp' e=>?_⟩
  ·obtain ⟨c,hc⟩:=Qfm hl; exact this.rm c id cs hc
  ·obtain ⟨c,hc⟩:=Qfm hl; exact this.dm c id cs hc
  ·obtain ⟨cs,hcs⟩:=Option.isSome_iff_exists.1 hl
   obtain ⟨c,hc⟩:=Qfm hcs
   rcases hl' with hl' | hl'
   ·obtain ⟨cs',hcs'⟩:=Option.isSome_iff_exists.1 hl'
    obtain ⟨c',hc'⟩:=Qfm hcs'
    exact (this.dj c c' id id' p p' (by simp [hc]) (by simp [hc']) hp hp' e).2
   ·exact (this.df c id id' p p' (by simp [hc]) hl' hp hp' e).elim
 ·rw [f1]; exact S.tmr
 ·obtain ⟨cs,hcs⟩:=Option.isSome_iff_exists.1 hl
  obtain ⟨c,hc⟩:=Qfm hcs
  have:=S.nb c id p
  rw [← f2] at this
  exact this (by simp [hc]) hp
 ·obtain ⟨cs,hcs⟩:=Option.isSome_iff_exists.1 hl
  obtain ⟨c,hc⟩:=Qfm hcs
  have:=S.ni c id
  rw [← f2] at this
  exact this (by simp [hc])
 ·have eM : (λx=>(Array.replicate ops.size false).getD x false) = λ_=>false:=by
   funext x
   simp only [Array.getD_eq_getD_getElem?,Array.getElem?_replicate]
   split <;> rfl
  rw [eM]
  exact hS
end
end Go.Ev
namespace Go.Ev
def AExit.Qnw : AExit → Exit
 | .normal=>.normal
 | .exit id=>.exit id
 | .ret=>.ret
theorem Qib : ∀ (l : List AOper) (asq : List (List Nat)),l.length = asq.length → (Qgg l asq).length = l.length
 | [],_,_=>by simp [Qgg]
 | _ :: l,[],h=>by simp at h
 | _ :: l,_ :: asq,h=>by simp [Qgg,Qib l asq (by simpa using h)]
theorem Qky : ∀ (l : List Oper) (acc : List (List Nat)),(ancs l acc).length = acc.length + l.length
 | [],acc=>by simp [ancs]
 | o :: l,acc=>by simp [ancs,Qky l]; omega
theorem Qlf : ∀ {l : List AOper} {asq : List (List Nat)} {i : Nat} {p q : AOper},l[i]? = some p → (Qgg l asq)[i]? = some q → q.dst = p.dst ∧ q.op = p.op ∧ q.g = p.g
 | [],_,_,_,_,h,_=>by simp at h
 | _ :: _,[],_,_,_,_,h=>by simp [Qgg] at h
 | a :: l,b :: asq,0,p,q,h,h'=>by simp [Qgg] at h h'; subst h; subst h'; exact ⟨rfl,rfl,rfl⟩
 | a :: l,b :: asq,i + 1,p,q,h,h'=>by simp [Qgg] at h h'; exact Qlf h h'
theorem Qrb (ops : List (AOper × Nat)) (i : Nat) (o : AOper) : (raise ops i o).dst = o.dst ∧ (raise ops i o).op = o.op ∧ (raise ops i o).g = o.g:=by
 unfold raise
 split
 ·split <;> exact ⟨rfl,rfl,rfl⟩
 ·split <;> exact ⟨rfl,rfl,rfl⟩
 ·split <;> exact ⟨rfl,rfl,rfl⟩
 ·exact ⟨rfl,rfl,rfl⟩
theorem Qhk {P : Program} {m : Muts} {ops : Array Oper} : ∀ {l : List Oper} {al : List AOper},Qfh P m ops l = some al → al.length = l.length
 | [],al,h=>by simp [Qfh] at h; subst h; rfl
 | o :: l, al, h => by
  simp only [Qfh] at h
  split at h
  ·rename_i op g r h1 h2 h3
   cases h
   simp [Qhk h3]
  ·cases h
theorem Qj9 {P : Program} {m : Muts} {ops : Array Oper} {l : List Oper} {al : List AOper} (h : Qfh P m ops l = some al) : (modes al (ancs l [])).length = l.length:=by
 have h1:=Qhk h
 simp [modes,Qib al (ancs l []) (by simp [Qky,h1]),h1]
theorem Qoo {al : List AOper} {asq : List (List Nat)} {i : Nat} {p q : AOper} (h : al[i]? = some p) (h' : (modes al asq)[i]? = some q) : q.dst = p.dst ∧ q.op = p.op ∧ q.g = p.g:=by
 unfold modes at h'
 rw [List.getElem?_map] at h'
 obtain ⟨⟨x,j⟩,hx,rfl⟩:=Option.map_eq_some_iff.1 h'
 rw [List.getElem?_zipIdx] at hx
 obtain ⟨y,hy,e⟩:=Option.map_eq_some_iff.1 hx
 simp at e
 obtain ⟨rfl,rfl⟩:=e
 obtain ⟨a1,a2,a3⟩:=Qrb ((Qgg al asq).zipIdx) i y
 obtain ⟨b1,b2,b3⟩:=Qlf h hy
 exact ⟨a1.trans b1,a2.trans b2,a3.trans b3⟩
theorem OpR.same {P : Program} {ops : Array Oper} {o : Oper} {p q : AOper} (h : OpR P ops o p) (e : q.dst = p.dst ∧ q.op = p.op ∧ q.g = p.g) : OpR P ops o q :=
 ⟨e.1.trans h.1,by rw [e.2.1]; exact h.2.1,by rw [e.2.2]; exact h.2.2⟩
section
variable {R : Type} {T : R → Prop} {z : R} {P : Program} {val : Nat → Int} {fz : Fz} {orc : Orc R} {call : CallT R}
def Goes (P : Program) (fuel : Nat) (c : Code) (Q : Exit → Act → World → Prop) (a : Act) (w : World) : Prop:=c.wp P Q a w ∧ ∀ b,c = .loop b → Code.rounds P b Q fuel a w
def CodeS (P : Program) (val : Nat → Int) (fz : Fz) (fuel : Nat) (c : Code) (tm : TM) (mu : St) (n : Nat) (e : AExit) (tm' : TM) (mu' : St) (n' : Nat) : Prop :=
 n ≤ n' ∧ ∀ ρ w a,Rel val ρ fz mu w → TmR val ρ w tm a → Qfd ρ n n' → ∀ (Q : Exit → Act → World → Prop),(∀ a' w',PostS val ρ fz mu n w a tm' mu' n' a' w' → Q e.Qnw a' w') → Goes P fuel c Q a w
theorem Qf1 {fuel : Nat} {c : Code} {Q : Exit → Act → World → Prop} {a : Act} {w : World} (h : c.wp P Q a w) (hn : ∀ b,c ≠ .loop b) : Goes P fuel c Q a w:=⟨h,λb e=>(hn b e).elim⟩
theorem Qi3 {fuel : Nat} {c : Code} {tm : TM} {mu : St} {n : Nat} {e : AExit} (hn : ∀ b,c ≠ .loop b) (h : ∀ (Q : Exit → Act → World → Prop) a w,Q e.Qnw a w → c.wp P Q a w) : CodeS P val fz fuel c tm mu n e tm mu n :=
 ⟨Nat.le_refl _,λ_ w a hr ht _ Q hQ=>Qf1 (h Q a w (hQ a w (PostS.refl hr ht))) hn⟩
theorem Qex (hz : ¬ T z) (hc : Qey T P val call) (hk : OrcOk T val orc) (hmx : P.follows .mixedOrders = true) {m : Muts} : ∀ (fuel : Nat) (c : Code) {ac : ACode} {tm : TM} {mu : St} {n : Nat} {k : AExit → TM → St → Nat → R}, Qdx P m c = some ac → T (acode orc z call fz fuel ac tm mu n k) →
 ∃ e tm' mu' n',T (k e tm' mu' n') ∧ CodeS P val fz fuel c tm mu n e tm' mu' n'
 | 0,c,ac,tm,mu,n,k,_,h=>(hz h).elim
 | fuel + 1,.skip,ac,tm,mu,n,k,hp,h=>by
  simp only [Qdx,Option.some.injEq] at hp; subst hp
  exact ⟨.normal,tm,mu,n,h,Qi3 (by intro b; simp) λQ a w hq=>wp_skip hq⟩
 | fuel + 1,.label l,ac,tm,mu,n,k,hp,h=>by
  simp only [Qdx,Option.some.injEq] at hp; subst hp
  exact ⟨.normal,tm,mu,n,h,Qi3 (by intro b; simp) λQ a w hq=>wp_label hq⟩
 | fuel + 1,.exit id,ac,tm,mu,n,k,hp,h=>by
  simp only [Qdx,Option.some.injEq] at hp; subst hp
  exact ⟨.exit id,tm,mu,n,h,Qi3 (by intro b; simp) λQ a w hq=>wp_exit hq⟩
 | fuel + 1,.ret,ac,tm,mu,n,k,hp,h=>by
  simp only [Qdx,Option.some.injEq] at hp; subst hp
  exact ⟨.ret,tm,mu,n,h,Qi3 (by intro b; simp) λQ a w hq=>wp_ret hq⟩
 | fuel + 1,.region id ops false,ac,tm,mu,n,k,hp,h=>by
  simp only [Qdx] at hp
  split at hp
  ·rename_i al h1
   cases hp
   obtain ⟨tm',mu',n',h2,h3,h4⟩:=Qjs (P:=P) (val:=val) hz hc hk (Qgk h1) (show T (runK orc z call fz al tm mu n (k .normal)) from h)
   exact ⟨.normal,tm',mu',n',h2,h3,λρ w a hr ht hf Q hQ=>Qf1 (wp_region_list (h4 ρ w a hr ht hf Q hQ)) (by intro b; simp)⟩
  ·cases hp; exact (hz h).elim
 | fuel + 1,.region id ops true,ac,tm,mu,n,k,hp,h=>by
  simp only [Qdx] at hp
  split at hp
  ·rename_i l h1
   split at hp
   ·rename_i hok
    cases hp
    have hR : All2 (OpR P ops) ops.toList (modes l (ancs ops.toList [])):=by
     have hl:=Qgk h1
     have hlen : (modes l (ancs ops.toList [])).length = ops.toList.length:=Qj9 h1
     refine All2.Qjc hlen.symm λi o ao ho hao=>?_
     obtain ⟨ao',h2,h3⟩:=hl.get ho
     exact h3.same (Qoo h2 hao)
    obtain ⟨tm',mu',n',h2,h3,h4⟩:=Qln (P:=P) (val:=val) (id:=id) hz hc hk hmx hok hR (show T (drawK orc z call fz _ tm mu n (k .normal)) from h)
    exact ⟨.normal,tm',mu',n',h2,h3,λρ w a hr ht hf Q hQ=>Qf1 (h4 ρ w a hr ht hf Q hQ) (by intro b; simp)⟩
   ·cases hp; exact (hz h).elim
  ·cases hp; exact (hz h).elim
 | fuel + 1,.seq a b,ac,tm,mu,n,k,hp,h=>by
  simp only [Qdx] at hp
  split at hp
  ·rename_i x y hx hy
   cases hp
   obtain ⟨e,tm1,mu1,n1,h1,h2⟩:=Qex hz hc hk hmx fuel a hx (show T (acode orc z call fz fuel x tm mu n λe tm mu n=>AExit.rec (motive:=λ_=>R) (acode orc z call fz fuel y tm mu n k) (λid=>k (.exit id) tm mu n) (k .ret tm mu n) e) from h)
   cases e with
   | normal =>
    obtain ⟨e2,tm2,mu2,n2,h3,h4⟩:=Qex hz hc hk hmx fuel b hy h1
    refine ⟨e2,tm2,mu2,n2,h3,Nat.le_trans h2.1 h4.1,λρ w a hr ht hf Q hQ=>Qf1 (wp_seq ?_) (by intro b; simp)⟩
    refine (h2.2 ρ w a hr ht (hf.sub (Nat.le_refl _) h4.1) _ λa1 w1 hp=>?_).1
    obtain ⟨d,ρ1,p1,p2,p3,p4,p5,p6⟩:=hp
    refine (h4.2 ρ1 w1 a1 p2 p3 (hf.later p1 h2.1) Q λa2 w2 hp2=>hQ a2 w2 ?_).1
    exact PostS.trans d p1 p4 p5 p6 h2.1 h4.1 hp2
   | exit id=>exact ⟨.exit id,tm1,mu1,n1,h1,h2.1,λρ w a hr ht hf Q hQ=>Qf1 (wp_seq (h2.2 ρ w a hr ht hf (Exit.then (b.wp P Q) Q) hQ).1) (by intro b; simp)⟩
   | ret=>exact ⟨.ret,tm1,mu1,n1,h1,h2.1,λρ w a hr ht hf Q hQ=>Qf1 (wp_seq (h2.2 ρ w a hr ht hf (Exit.then (b.wp P Q) Q) hQ).1) (by intro b; simp)⟩
  ·cases hp
 | fuel + 1,.cond c a b,ac,tm,mu,n,k,hp,h=>by
  simp only [Qdx] at hp
  split at hp
  ·rename_i c' x y hcd hx hy
   cases hp
   have h' : T ((ev tm c').onOne z λs=>s.Qei z λt=>cond t (acode orc z call fz fuel x tm mu n k) (acode orc z call fz fuel y tm mu n k)):=h
   obtain ⟨s,e1,h1⟩:=Qdn hz h'
   obtain ⟨t,rfl,h2⟩:=Qew hz h1
   have hev : ∀ ρ w (act : Act),TmR val ρ w tm act → act.eval c = .bool t:=λρ w act ht=>by
    have:=ht.ev hcd
    rw [e1] at this
    exact this
   cases t with
   | true =>
    obtain ⟨e,tm1,mu1,n1,h3,h4⟩:=Qex hz hc hk hmx fuel a hx h2
    exact ⟨e,tm1,mu1,n1,h3,h4.1,λρ w act hr ht hf Q hQ=>Qf1 (wp_cond_true (hev ρ w act ht) (h4.2 ρ w act hr ht hf Q hQ).1) (by intro b; simp)⟩
   | false =>
    obtain ⟨e,tm1,mu1,n1,h3,h4⟩:=Qex hz hc hk hmx fuel b hy h2
    exact ⟨e,tm1,mu1,n1,h3,h4.1,λρ w act hr ht hf Q hQ=>Qf1 (wp_cond_false (hev ρ w act ht) (h4.2 ρ w act hr ht hf Q hQ).1) (by intro b; simp)⟩
  ·cases hp
 | fuel + 1,.block id a,ac,tm,mu,n,k,hp,h=>by
  simp only [Qdx] at hp
  obtain ⟨x,hx,rfl⟩:=Option.map_eq_some_iff.1 hp
  obtain ⟨e,tm1,mu1,n1,h1,h2⟩:=Qex hz hc hk hmx fuel a hx (show T (acode orc z call fz fuel x tm mu n λe tm mu n=>AExit.rec (motive:=λ_=>R) (k .normal tm mu n) (λid'=>cond (Nat.beq id' id) (k .normal tm mu n) (k (.exit id') tm mu n)) (k .ret tm mu n) e) from h)
  cases e with
  | normal=>exact ⟨.normal,tm1,mu1,n1,h1,h2.1,λρ w a hr ht hf Q hQ=>Qf1 (wp_block (h2.2 ρ w a hr ht hf (Exit.inBlock id Q) hQ).1) (by intro b; simp)⟩
  | ret=>exact ⟨.ret,tm1,mu1,n1,h1,h2.1,λρ w a hr ht hf Q hQ=>Qf1 (wp_block (h2.2 ρ w a hr ht hf (Exit.inBlock id Q) hQ).1) (by intro b; simp)⟩
  | exit id' =>
   have h1' : T (cond (Nat.beq id' id) (k .normal tm1 mu1 n1) (k (.exit id') tm1 mu1 n1)):=h1
   cases hb : Nat.beq id' id with
   | true =>
    rw [hb] at h1'
    have:=Nat.eq_of_beq_eq_true hb
    subst this
    refine ⟨.normal,tm1,mu1,n1,h1',h2.1,λρ w a hr ht hf Q hQ=>Qf1 (wp_block (h2.2 ρ w a hr ht hf _ λa' w' hp=>?_).1) (by intro b; simp)⟩
    show Exit.inBlock id' Q (.exit id') a' w'
    simp only [Exit.inBlock,if_true]
    exact hQ a' w' hp
   | false =>
    rw [hb] at h1'
    have:=Nat.ne_of_beq_eq_false hb
    refine ⟨.exit id',tm1,mu1,n1,h1',h2.1,λρ w a hr ht hf Q hQ=>Qf1 (wp_block (h2.2 ρ w a hr ht hf _ λa' w' hp=>?_).1) (by intro b; simp)⟩
    show Exit.inBlock id Q (.exit id') a' w'
    simp only [Exit.inBlock,this,if_false]
    exact hQ a' w' hp
 | fuel + 1,.loop a,ac,tm,mu,n,k,hp,h=>by
  have hp0:=hp
  simp only [Qdx] at hp
  obtain ⟨x,hx,rfl⟩:=Option.map_eq_some_iff.1 hp
  obtain ⟨e,tm1,mu1,n1,h1,h2⟩:=Qex hz hc hk hmx fuel a hx (show T (acode orc z call fz fuel x tm mu n λe tm mu n=>AExit.rec (motive:=λ_=>R) (acode orc z call fz fuel (.loop x) tm mu n k) (λid=>k (.exit id) tm mu n) (k .ret tm mu n) e) from h)
  have lift : ∀ {Q : Exit → Act → World → Prop} {act : Act} {w : World},Code.rounds P a Q (fuel + 1) act w → Goes P (fuel + 1) (.loop a) Q act w:=λhr=>⟨wp_loop_rounds _ hr,λb e=>by cases e; exact hr⟩
  cases e with
  | normal =>
   obtain ⟨e2,tm2,mu2,n2,h3,h4⟩:=Qex hz hc hk hmx fuel (.loop a) hp0 h1
   refine ⟨e2,tm2,mu2,n2,h3,Nat.le_trans h2.1 h4.1,λρ w act hr ht hf Q hQ=>lift ?_⟩
   refine (h2.2 ρ w act hr ht (hf.sub (Nat.le_refl _) h4.1) (Exit.then (Code.rounds P a Q fuel) Q) λa1 w1 hp=>?_).1
   obtain ⟨d,ρ1,p1,p2,p3,p4,p5,p6⟩:=hp
   refine (h4.2 ρ1 w1 a1 p2 p3 (hf.later p1 h2.1) Q λa2 w2 hp2=>hQ a2 w2 ?_).2 a rfl
   exact PostS.trans d p1 p4 p5 p6 h2.1 h4.1 hp2
  | exit id=>exact ⟨.exit id,tm1,mu1,n1,h1,h2.1,λρ w act hr ht hf Q hQ=>lift (h2.2 ρ w act hr ht hf (Exit.then (Code.rounds P a Q fuel) Q) hQ).1⟩
  | ret=>exact ⟨.ret,tm1,mu1,n1,h1,h2.1,λρ w act hr ht hf Q hQ=>lift (h2.2 ρ w act hr ht hf (Exit.then (Code.rounds P a Q fuel) Q) hQ).1⟩
 | fuel + 1,.scope a,ac,tm,mu,n,k,hp,h=>by
  simp only [Qdx] at hp
  obtain ⟨e,tm1,mu1,n1,h1,h2⟩:=Qex hz hc hk hmx (fuel + 1) a hp h
  refine ⟨e,tm1,mu1,n1,h1,h2.1,λρ w act hr ht hf Q hQ=>Qf1 (wp_scope_straight (h2.2 ρ w act hr ht hf _ λa' w' hp=>?_).1) (by intro b; simp)⟩
  cases e <;> exact hQ a' w' hp
 | fuel + 1,.goto l,ac,tm,mu,n,k,hp,h=>by
  simp only [Qdx,Option.some.injEq] at hp; subst hp
  exact (hz h).elim
 | fuel + 1,.rangeFunc ..,ac,tm,mu,n,k,hp,h=>by
  simp only [Qdx,Option.some.injEq] at hp; subst hp
  exact (hz h).elim
 | fuel + 1,.refuse _,ac,tm,mu,n,k,hp,h=>by
  simp only [Qdx,Option.some.injEq] at hp; subst hp
  exact (hz h).elim
termination_by fuel c=>(fuel,SizeOf.sizeOf c)
end
end Go.Ev
namespace Go.Ev
def pad : Nat → List AV → List AV
 | 0,_=>[]
 | m + 1,[]=>noVal :: pad m []
 | m + 1,a :: t=>a :: pad m t
theorem Qh5 : ∀ (m : Nat) (l : List AV),(pad m l).length = m
 | 0,_=>rfl
 | m + 1,[]=>by simp [pad,Qh5 m]
 | m + 1,a :: t=>by simp [pad,Qh5 m]
theorem Qpc : ∀ {m : Nat} {l : List AV} {t : Nat},t < m → (pad m l)[t]? = some ((l[t]?).getD noVal)
 | 0,_,_,h=>by omega
 | m + 1,[],0,_=>by simp [pad]
 | m + 1,[],t + 1,h=>by
  have:=Qpc (m:=m) (l:=[]) (t:=t) (by omega)
  simpa [pad] using this
 | m + 1,a :: l,0,_=>by simp [pad]
 | m + 1,a :: l,t + 1,h=>by simpa [pad] using Qpc (m:=m) (l:=l) (t:=t) (by omega)
theorem chunk {last : List AV} (hl : last.length ≤ 16) : ∀ {rows : List (List AV)}, (∀ r ∈ rows, r.length = 16) → ∀ t, get (rows ++ [last]) (t / 16) (t % 16) = ((rows.flatten ++ last)[t]?).getD (.one .un) ∧ (inR (rows ++ [last]) (t / 16) (t % 16) → t < (rows.flatten ++ last).length)
 | [],_,t=>by
  simp only [List.nil_append,List.flatten_nil]
  rcases Nat.lt_or_ge t 16 with h | h
  ·have e1 : t / 16 = 0:=by omega
   have e2 : t % 16 = t:=by omega
   rw [e1,e2]
   refine ⟨?_,λ⟨row,h1,h2⟩=>?_⟩
   ·unfold get; simp [Qfe]
   ·simp at h1; subst h1; exact h2
  ·have e1 : [last][t / 16]? = none:=List.getElem?_eq_none (by simp; omega)
   refine ⟨?_,λ⟨row,h1,h2⟩=>by rw [e1] at h1; cases h1⟩
   unfold get
   rw [Qfe,Qfe,e1]
   rw [List.getElem?_eq_none (l:=last) (by omega)]
   rfl
 | r :: rows, hr, t => by
  have hr0:=hr r (by simp)
  rcases Nat.lt_or_ge t 16 with h | h
  ·have e1 : t / 16 = 0:=by omega
   have e2 : t % 16 = t:=by omega
   rw [e1,e2]
   refine ⟨?_,λ_=>by simp; omega⟩
   unfold get
   simp only [Qfe,List.cons_append,List.getElem?_cons_zero,Option.getD_some,List.flatten_cons,List.append_assoc]
   rw [List.getElem?_append_left (by omega)]
  ·obtain ⟨h1,h2⟩:=chunk hl (rows:=rows) (λr h=>hr r (by simp [h])) (t - 16)
   have e1 : t / 16 = (t - 16) / 16 + 1:=by omega
   have e2 : t % 16 = (t - 16) % 16:=by omega
   rw [e1,e2]
   refine ⟨?_,λ⟨row,g1,g2⟩=>?_⟩
   ·have : get (r :: rows ++ [last]) ((t - 16) / 16 + 1) ((t - 16) % 16) = get (rows ++ [last]) ((t - 16) / 16) ((t - 16) % 16):=by
     unfold get; simp [Qfe]
    rw [this,h1]
    simp only [List.flatten_cons,List.append_assoc]
    rw [List.getElem?_append_right (l₁:=r) (by omega),hr0]
   ·have:=h2 ⟨row,by simpa using g1,g2⟩
    simp only [List.flatten_cons,List.append_assoc,List.length_append] at *
    omega
theorem Qir {R : Type} : ∀ {m i : Nat} {args row : List AV} {acc : TM} {k : TM → R}, row.length = i → i ≤ 16 → (∀ r ∈ acc, r.length = 16) →
 ∃ rows last,rowsK m i args row acc k = k (rows ++ [last]) ∧ (∀ r ∈ rows,r.length = 16) ∧ last.length ≤ 16 ∧ rows.flatten ++ last = acc.reverse.flatten ++ row.reverse ++ pad m args
 | 0,i,args,row,acc,k,h1,h2,h3=>⟨acc.reverse,row.reverse,rfl,by simpa using h3,by simp; omega,by simp [pad]⟩
 | m + 1, i, args, row, acc, k, h1, h2, h3 => by
  by_cases hi : i = 16
  ·subst hi
   cases args with
   | nil =>
    obtain ⟨rows,last,g1,g2,g3,g4⟩:=Qir (m:=m) (i:=1) (args:=[]) (row:=[noVal]) (acc:=row.reverse :: acc) (k:=k) rfl (by omega) (by simp; exact ⟨h1,h3⟩)
    exact ⟨rows,last,g1,g2,g3,by rw [g4]; simp [pad]⟩
   | cons a t =>
    obtain ⟨rows,last,g1,g2,g3,g4⟩:=Qir (m:=m) (i:=1) (args:=t) (row:=[a]) (acc:=row.reverse :: acc) (k:=k) rfl (by omega) (by simp; exact ⟨h1,h3⟩)
    exact ⟨rows,last,g1,g2,g3,by rw [g4]; simp [pad]⟩
  ·have hb : Nat.beq i 16 = false:=by
    cases e : Nat.beq i 16 with
    | false=>rfl
    | true=>exact (hi (Nat.eq_of_beq_eq_true e)).elim
   cases args with
   | nil =>
    obtain ⟨rows,last,g1,g2,g3,g4⟩:=Qir (m:=m) (i:=i + 1) (args:=[]) (row:=noVal :: row) (acc:=acc) (k:=k) (by simp [h1]) (by omega) h3
    refine ⟨rows,last,?_,g2,g3,by rw [g4]; simp [pad]⟩
    rw [← g1]
    show cond (Nat.beq i 16) _ _ = _
    rw [hb]; rfl
   | cons a t =>
    obtain ⟨rows,last,g1,g2,g3,g4⟩:=Qir (m:=m) (i:=i + 1) (args:=t) (row:=a :: row) (acc:=acc) (k:=k) (by simp [h1]) (by omega) h3
    refine ⟨rows,last,?_,g2,g3,by rw [g4]; simp [pad]⟩
    rw [← g1]
    show cond (Nat.beq i 16) _ _ = _
    rw [hb]; rfl
section
variable {R : Type} {T : R → Prop} {z : R} {P : Program} {val : Nat → Int} {fz : Fz} {orc : Orc R} {call : CallT R}
theorem rows_TmR {m : Nat} {args : List AV} {k : TM → R} (h : T (rowsK m 0 args [] [] k)) : ∃ tm, T (k tm) ∧ ∀ ρ w (xs : List Value), All2 (AVR val ρ w) args xs → TmR val ρ w tm { tmps := xs.toArray ++ Array.replicate (m - xs.toArray.size) undef, defers := [] } := by
 obtain ⟨rows,last,g1,g2,g3,g4⟩:=Qir (R:=R) (m:=m) (i:=0) (args:=args) (row:=[]) (acc:=[]) (k:=k) rfl (by omega) (by simp)
 rw [g1] at h
 refine ⟨_,h,λρ w xs hx=>?_⟩
 have hL : rows.flatten ++ last = pad m args:=by rw [g4]; simp
 have key:=chunk g3 g2
 rw [hL] at key
 refine ⟨λt ht=>?_,λt=>?_⟩
 ·have:=(key t).2 ht
  rw [Qh5] at this
  simp; omega
 ·rw [(key t).1]
  rcases Nat.lt_or_ge t m with h1 | h1
  ·rw [Qpc h1]
   simp only [Option.getD_some,Array.getD_eq_getD_getElem?]
   rcases Nat.lt_or_ge t xs.length with h2 | h2
   ·have h3 : t < args.length:=by rw [hx.length]; exact h2
    obtain ⟨b,h4,h5⟩:=hx.get (List.getElem?_eq_getElem h3)
    rw [List.getElem?_eq_getElem h3,Option.getD_some,Array.getElem?_append_left (by simpa using h2)]
    simp only [List.getElem?_toArray,h4,Option.getD_some]
    exact h5
   ·rw [List.getElem?_eq_none (by rw [hx.length]; exact h2),Array.getElem?_append_right (by simpa using h2)]
    rw [Array.getElem?_replicate]
    split
    ·exact ⟨[],rfl,trivial⟩
    ·exact ⟨[],rfl,trivial⟩
  ·rw [List.getElem?_eq_none (by rw [Qh5]; exact h1)]
   trivial
def Ql8 (tmps : Array Value) : ResultVar → Sem Value
 | .tmp t=>pure (tmps.getD t undef)
 | .cell a t=>do loadVar t (← asAddr (tmps.getD a undef))
def ResR (P : Program) : ResultVar → ARes → Prop
 | .tmp t,.tmp q r=>q = t / 16 ∧ r = t % 16
 | .cell a t,.cell q r g n=>q = a / 16 ∧ r = a % 16 ∧ aggOf P t = some g ∧ szOf P t = some n
 | _,_=>False
theorem Qk0 : ∀ {l : List ResultVar} {rl : List ARes},Qhu P l = some rl → All2 (ResR P) l rl
 | [],rl,h=>by simp [Qhu] at h; subst h; trivial
 | .tmp t :: l,rl,h=>by
  simp only [Qhu] at h
  obtain ⟨r,h1,rfl⟩:=Option.map_eq_some_iff.1 h
  exact ⟨⟨rfl,rfl⟩,Qk0 h1⟩
 | .cell a t :: l,rl,h=>by
  simp only [Qhu] at h
  split at h
  ·rename_i g n r h1 h2 h3
   split at h
   ·cases h; exact ⟨⟨rfl,rfl,h1,h2⟩,Qk0 h3⟩
   ·cases h
  ·cases h
theorem Qju (hz : ¬ T z) {rv : ResultVar} {r : ARes} {tm : TM} {mu : St} {k : AV → R} (hr : ResR P rv r) (h : T (Qiv z fz r tm mu k)) : ∃ v,T (k v) ∧ ∀ ρ w a,Rel val ρ fz mu w → TmR val ρ w tm a → ∃ x,(Ql8 a.tmps rv).run P w = .ok x w ∧ AVR val ρ w v x:=by
 cases rv with
 | tmp t=>cases r with
  | cell q r g n=>exact hr.elim
  | tmp q r =>
   obtain ⟨rfl,rfl⟩:=hr
   exact ⟨_,h,λρ w a _ ht=>⟨a.tmps.getD t undef,by simp [Ql8],ht.vals t⟩⟩
 | cell a t=>cases r with
  | tmp q r=>exact hr.elim
  | cell q r g n =>
   obtain ⟨rfl,rfl,ha,hs⟩:=hr
   have h' : T ((get tm (a / 16) (a % 16)).onOne z λs=>s.onPtr z λid off=>Qfr fz mu id z λcs=>subK cs off n z λc=>asRes g c z k):=h
   obtain ⟨s,e1,h1⟩:=Qdn hz h'
   obtain ⟨id,off,rfl,h2⟩:=Qfy hz h1
   obtain ⟨cs,h3,h4⟩:=Qgo hz h2
   obtain ⟨h5,h6⟩:=Qg7 hz h4
   obtain ⟨v,h7,h8⟩:=Qhz hz h6
   refine ⟨v,h8,λρ w act hrel ht=>?_⟩
   have hv:=ht.vals a
   rw [e1] at hv
   obtain ⟨p,hp,hx⟩:=hv
   obtain ⟨vs,g1,g2,g3,g4⟩:=(seen hrel h3).read (P:=P) hp h5
   obtain ⟨x,g5,g6⟩:=Qq8 ha hs g1 g2 g3 g4 h7
   exact ⟨x,by simp [Ql8,hx,asAddr,g5],g6⟩
theorem Qvd (hz : ¬ T z) {v : AV} {k : CV → R} (h : T (toCV z v k)) : ∃ c,T (k c) ∧ ∀ ρ w x,AVR val ρ w v x → CVR val ρ w c x:=by
 cases v with
 | one s=>exact ⟨.one s,h,λ_ _ _ hx=>hx⟩
 | ag l=>exact ⟨.ag l,h,λ_ _ _ hx=>hx⟩
 | tp l=>exact (hz h).elim
theorem Qjz (hz : ¬ T z) : ∀ {l : List ResultVar} {rl : List ARes} {tm : TM} {mu : St} {k : List CV → R},All2 (ResR P) l rl → T (Qjv z fz rl tm mu k) →
 ∃ cs,T (k cs) ∧ ∀ ρ w a,Rel val ρ fz mu w → TmR val ρ w tm a → ∃ xs : List Value,(l.mapM (Ql8 a.tmps)).run P w = .ok xs w ∧ xs.length = l.length ∧ All2 (CVR val ρ w) cs xs
 | [],[],tm,mu,k,_,h=>⟨[],h,λρ w a _ _=>⟨[],by simp,rfl,trivial⟩⟩
 | [],_ :: _,_,_,_,hl,_=>hl.elim
 | _ :: _,[],_,_,_,hl,_=>hl.elim
 | rv :: l,r :: rl,tm,mu,k,hl,h=>by
  obtain ⟨v,h1,h2⟩:=Qju (P:=P) (val:=val) hz hl.1 (show T (Qiv z fz r tm mu λv=>toCV z v λc=>Qjv z fz rl tm mu λcs=>k (c :: cs)) from h)
  obtain ⟨c,h3,h4⟩:=Qvd (val:=val) hz h1
  obtain ⟨cs,h5,h6⟩:=Qjz hz hl.2 h3
  refine ⟨c :: cs,h5,λρ w a hr ht=>?_⟩
  obtain ⟨x,g1,g2⟩:=h2 ρ w a hr ht
  obtain ⟨xs,g3,gl,g4⟩:=h6 ρ w a hr ht
  exact ⟨x :: xs,by simp [List.mapM_cons,g1,g3],by simp [gl],h4 _ _ _ g2,g4⟩
theorem Qio {fn : Func} {tmps : Array Value} {w : World} {xs : List Value} (h : (fn.results.toList.mapM (Ql8 tmps)).run P w = .ok xs w) :
 (results fn tmps).run P w = .ok (if hx : xs.toArray.size = 1 then xs.toArray[0] else .tuple xs.toArray) w:=by
 have e : results fn tmps = (fn.results.mapM (Ql8 tmps)) >>= λvs=>pure (if h : vs.size = 1 then vs[0] else .tuple vs):=by
  unfold results
  congr 1
 rw [e,Array.mapM_eq_mapM_toList]
 simp [h]
theorem Ql5 (hz : ¬ T z) {fn : Func} {rl : List ARes} {tm : TM} {mu : St} {k : AV → R} (hp : Qhu P fn.results.toList = some rl) (h : T (resK z fz rl tm mu k)) :
 ∃ v,T (k v) ∧ ∀ ρ w a,Rel val ρ fz mu w → TmR val ρ w tm a → ∃ x,(results fn a.tmps).run P w = .ok x w ∧ AVR val ρ w v x:=by
 have hR:=Qk0 hp
 generalize hl : fn.results.toList = l at hR
 cases rl with
 | nil=>cases l with
  | cons _ _=>exact hR.elim
  | nil =>
   refine ⟨.tp [],h,λρ w a _ _=>⟨_,Qio (xs:=[]) (by rw [hl]; simp),[],by simp,trivial⟩⟩
 | cons r t=>cases l with
  | nil=>exact hR.elim
  | cons rv l =>
   cases t with
   | nil=>cases l with
    | cons _ _=>exact hR.2.elim
    | nil =>
     obtain ⟨v,h1,h2⟩:=Qju (P:=P) (val:=val) hz hR.1 (show T (Qiv z fz r tm mu k) from h)
     refine ⟨v,h1,λρ w a hr ht=>?_⟩
     obtain ⟨x,g1,g2⟩:=h2 ρ w a hr ht
     exact ⟨_,Qio (xs:=[x]) (by rw [hl]; simp [g1]),by simpa using g2⟩
   | cons r2 t=>cases l with
    | nil=>exact hR.2.elim
    | cons rv2 l =>
     obtain ⟨cs,h1,h2⟩:=Qjz (P:=P) (val:=val) hz hR (show T (Qjv z fz (r :: r2 :: t) tm mu λcs=>k (.tp cs)) from h)
     refine ⟨_,h1,λρ w a hr ht=>?_⟩
     obtain ⟨xs,g1,gl,g2⟩:=h2 ρ w a hr ht
     refine ⟨_,Qio (xs:=xs) (by rw [hl]; exact g1),?_⟩
     have hlen : xs.toArray.size ≠ 1:=by
      simp at gl
      simp [gl]
     simp only [hlen,dite_false]
     exact ⟨xs,rfl,g2⟩
abbrev Contract (R : Type):=List AV → Fz → St → Nat → (AV → St → Nat → R) → R
def Qmh (T : R → Prop) (P : Program) (val : Nat → Int) (f : Nat) (c : Contract R) : Prop :=
 ∀ args fz mu n k, T (c args fz mu n k) → ∃ v mu' n', T (k v mu' n') ∧ Qgb P f = true ∧ n ≤ n' ∧ ∀ ρ w (xs : List Value), Rel val ρ fz mu w → All2 (AVR val ρ w) args xs → Qfd ρ n n' →
   Calls P f xs.toArray w λe w'=>∃ x,e = .returned x ∧ Post val ρ fz mu n w v mu' n' x w'
def Qpt (P : Program) (F : Nat → Option AFunc) : Prop:=∀ f af,F f = some af → Qgb P f = true ∧ ∃ fn m,P.funcs[f]? = some fn ∧ Qkj P m fn = some af
theorem Qla (hz : ¬ T z) (hk : OrcOk T val orc) (hmx : P.follows .mixedOrders = true) {K : Nat → Option (Contract R)} {F : Nat → Option AFunc} (hK : ∀ f c, K f = some c → Qmh T P val f c) (hF : Qpt P F) (big : Nat) :
 ∀ depth,Qey T P val (vcall orc z K F big depth)
 | 0=>λf args fz mu n k h=>(hz h).elim
 | depth + 1 => fun f args fz mu n k h => by
  have ih:=Qla hz hk hmx hK hF big depth
  cases eK : K f with
  | some c =>
   have h' : T (c args fz mu n k):=by
    unfold vcall at h
    simp only [eK] at h
    exact h
   exact hK f c eK args fz mu n k h'
  | none =>
   cases eF : F f with
   | none =>
    unfold vcall at h
    simp only [eK,eF] at h
    exact (hz h).elim
   | some af =>
    obtain ⟨hb,fn,m,hfn,hp⟩:=hF f af eF
    have h' : T (cond (Nat.beq args.length af.nargs) (rowsK af.ntmps 0 args [] [] λtm=>acode orc z (vcall orc z K F big depth) fz big af.body tm mu n λe tm mu n =>
     AExit.rec (motive:=λ_=>R) (resK z fz af.res tm mu λv=>k v mu n) (λ_=>z) (resK z fz af.res tm mu λv=>k v mu n) e) z):=by
     unfold vcall at h
     simp only [eK,eF] at h
     exact h
    cases hb' : Nat.beq args.length af.nargs with
    | false=>rw [hb'] at h'; exact (hz h').elim
    | true =>
     rw [hb'] at h'
     unfold Qkj at hp
     cases hbody : fn.body with
     | none=>rw [hbody] at hp; cases hp
     | some c =>
      rw [hbody] at hp
      simp only at hp
      split at hp
      ·rename_i b r hpc hpr
       cases hp
       obtain ⟨tm,h1,h2⟩:=rows_TmR (val:=val) (T:=T) h'
       obtain ⟨e,tm',mu',n',h3,h4⟩:=Qex (P:=P) (val:=val) hz ih hk hmx big c hpc h1
       have h5 : T (resK z fz r tm' mu' λv=>k v mu' n') ∧ (e = .normal ∨ e = .ret):=by
        cases e with
        | normal=>exact ⟨h3,.inl rfl⟩
        | ret=>exact ⟨h3,.inr rfl⟩
        | exit id=>exact (hz h3).elim
       obtain ⟨h6,h7⟩:=h5
       obtain ⟨v,h8,h9⟩:=Ql5 (P:=P) (val:=val) hz hpr h6
       refine ⟨v,mu',n',h8,hb,h4.1,λρ w xs hr hx hf=>?_⟩
       refine calls_of_wp hfn hbody (h4.2 ρ w _ hr (h2 ρ w xs hx) hf _ λa' w' hp=>?_).1
       obtain ⟨d,ρ',p1,p2,p3,p4,p5,p6⟩:=hp
       obtain ⟨x,g1,g2⟩:=h9 ρ' w' a' p2 p3
       have : a'.defers = [] ∧ ∃ v_1,(results fn a'.tmps).run P w' = .ok v_1 w' ∧ ∃ x,Ending.returned v_1 = .returned x ∧ Post val ρ fz mu n w v mu' n' x w' :=
        ⟨d,x,g1,x,rfl,ρ',p1,p2,g2,p4,p5,p6⟩
       rcases h7 with rfl | rfl
       ·exact this
       ·exact this
      ·cases hp
end
end Go.Ev
namespace Go.Ev
section
variable {R : Type}
def onw (next : TM → St → Nat → R) (k : AExit → TM → St → Nat → R) : AExit → TM → St → Nat → R:=λe tm mu n=>AExit.rec (motive:=λ_=>R) (next tm mu n) (λid=>k (.exit id) tm mu n) (k .ret tm mu n) e
def inB (id : Nat) (k : AExit → TM → St → Nat → R) : AExit → TM → St → Nat → R:=λe tm mu n=>AExit.rec (motive:=λ_=>R) (k .normal tm mu n) (λid'=>cond (Nat.beq id' id) (k .normal tm mu n) (k (.exit id') tm mu n)) (k .ret tm mu n) e
def loopD (z : R) (a : TM → St → Nat → (AExit → TM → St → Nat → R) → R) (fuel : Nat) : TM → St → Nat → (AExit → TM → St → Nat → R) → R :=
 Nat.rec (motive:=λ_=>TM → St → Nat → (AExit → TM → St → Nat → R) → R) (λ_ _ _ _=>z) (λ_ ih tm mu n k=>a tm mu n (onw (ih · · · k) k)) fuel
def dcode (orc : Orc R) (z : R) (call : CallT R) (fz : Fz) (fuel : Nat) : ACode → TM → St → Nat → (AExit → TM → St → Nat → R) → R
 | .skip,tm,mu,n,k=>k .normal tm mu n
 | .reg ops,tm,mu,n,k=>runK orc z call fz ops tm mu n (k .normal)
 | .draw ops,tm,mu,n,k=>drawK orc z call fz ops tm mu n (k .normal)
 | .seq a b,tm,mu,n,k=>dcode orc z call fz fuel a tm mu n (onw (dcode orc z call fz fuel b · · · k) k)
 | .cond x a b,tm,mu,n,k=>(ev tm x).onOne z λs=>s.Qei z λt=>cond t (dcode orc z call fz fuel a tm mu n k) (dcode orc z call fz fuel b tm mu n k)
 | .blk id a,tm,mu,n,k=>dcode orc z call fz fuel a tm mu n (inB id k)
 | .loop a,tm,mu,n,k=>loopD z (dcode orc z call fz fuel a) fuel tm mu n k
 | .exit id,tm,mu,n,k=>k (.exit id) tm mu n
 | .ret,tm,mu,n,k=>k .ret tm mu n
 | .bad,_,_,_,_=>z
end
section
variable {R : Type} {T : R → Prop} {z : R} {P : Program} {val : Nat → Int} {fz : Fz} {orc : Orc R} {call : CallT R}
def CodeD (P : Program) (val : Nat → Int) (fz : Fz) (c : Code) (tm : TM) (mu : St) (n : Nat) (e : AExit) (tm' : TM) (mu' : St) (n' : Nat) : Prop :=
 n ≤ n' ∧ ∀ ρ w a,Rel val ρ fz mu w → TmR val ρ w tm a → Qfd ρ n n' → ∀ (Q : Exit → Act → World → Prop),(∀ a' w',PostS val ρ fz mu n w a tm' mu' n' a' w' → Q e.Qnw a' w') → c.wp P Q a w
theorem Qia {c : Code} {tm : TM} {mu : St} {n : Nat} {e : AExit} (h : ∀ (Q : Exit → Act → World → Prop) a w,Q e.Qnw a w → c.wp P Q a w) : CodeD P val fz c tm mu n e tm mu n :=
 ⟨Nat.le_refl _,λ_ w a hr ht _ Q hQ=>h Q a w (hQ a w (PostS.refl hr ht))⟩
theorem Qkp (hz : ¬ T z) {a : Code} {D : TM → St → Nat → (AExit → TM → St → Nat → R) → R}
 (ha : ∀ {tm : TM} {mu : St} {n : Nat} {k : AExit → TM → St → Nat → R},T (D tm mu n k) → ∃ e tm' mu' n',T (k e tm' mu' n') ∧ CodeD P val fz a tm mu n e tm' mu' n') :
 ∀ (fuel : Nat) {tm : TM} {mu : St} {n : Nat} {k : AExit → TM → St → Nat → R},T (loopD z D fuel tm mu n k) →
 ∃ e tm' mu' n',T (k e tm' mu' n') ∧ n ≤ n' ∧ ∀ ρ w act,Rel val ρ fz mu w → TmR val ρ w tm act → Qfd ρ n n' → ∀ (Q : Exit → Act → World → Prop),(∀ a' w',PostS val ρ fz mu n w act tm' mu' n' a' w' → Q e.Qnw a' w') → Code.rounds P a Q fuel act w
 | 0,tm,mu,n,k,h=>(hz h).elim
 | fuel + 1,tm,mu,n,k,h=>by
  obtain ⟨e,tm1,mu1,n1,h1,h2⟩:=ha (show T (D tm mu n (onw (loopD z D fuel · · · k) k)) from h)
  cases e with
  | normal =>
   obtain ⟨e2,tm2,mu2,n2,h3,h4,h5⟩:=Qkp hz ha fuel (show T (loopD z D fuel tm1 mu1 n1 k) from h1)
   refine ⟨e2,tm2,mu2,n2,h3,Nat.le_trans h2.1 h4,λρ w act hr ht hf Q hQ=>?_⟩
   refine h2.2 ρ w act hr ht (hf.sub (Nat.le_refl _) h4) (Exit.then (Code.rounds P a Q fuel) Q) λa1 w1 hp=>?_
   obtain ⟨d,ρ1,p1,p2,p3,p4,p5,p6⟩:=hp
   refine h5 ρ1 w1 a1 p2 p3 (hf.later p1 h2.1) Q λa2 w2 hp2=>hQ a2 w2 ?_
   exact PostS.trans d p1 p4 p5 p6 h2.1 h4 hp2
  | exit id=>exact ⟨.exit id,tm1,mu1,n1,h1,h2.1,λρ w act hr ht hf Q hQ=>h2.2 ρ w act hr ht hf (Exit.then (Code.rounds P a Q fuel) Q) hQ⟩
  | ret=>exact ⟨.ret,tm1,mu1,n1,h1,h2.1,λρ w act hr ht hf Q hQ=>h2.2 ρ w act hr ht hf (Exit.then (Code.rounds P a Q fuel) Q) hQ⟩
theorem Qe3 (hz : ¬ T z) (hc : Qey T P val call) (hk : OrcOk T val orc) (hmx : P.follows .mixedOrders = true) {m : Muts} {fuel : Nat} : ∀ (c : Code) {ac : ACode} {tm : TM} {mu : St} {n : Nat} {k : AExit → TM → St → Nat → R}, Qdx P m c = some ac → T (dcode orc z call fz fuel ac tm mu n k) →
 ∃ e tm' mu' n',T (k e tm' mu' n') ∧ CodeD P val fz c tm mu n e tm' mu' n'
 | .skip,ac,tm,mu,n,k,hp,h=>by
  simp only [Qdx,Option.some.injEq] at hp; subst hp
  exact ⟨.normal,tm,mu,n,h,Qia λQ a w hq=>wp_skip hq⟩
 | .label l,ac,tm,mu,n,k,hp,h=>by
  simp only [Qdx,Option.some.injEq] at hp; subst hp
  exact ⟨.normal,tm,mu,n,h,Qia λQ a w hq=>wp_label hq⟩
 | .exit id,ac,tm,mu,n,k,hp,h=>by
  simp only [Qdx,Option.some.injEq] at hp; subst hp
  exact ⟨.exit id,tm,mu,n,h,Qia λQ a w hq=>wp_exit hq⟩
 | .ret,ac,tm,mu,n,k,hp,h=>by
  simp only [Qdx,Option.some.injEq] at hp; subst hp
  exact ⟨.ret,tm,mu,n,h,Qia λQ a w hq=>wp_ret hq⟩
 | .region id ops false,ac,tm,mu,n,k,hp,h=>by
  simp only [Qdx] at hp
  split at hp
  ·rename_i al h1
   cases hp
   obtain ⟨tm',mu',n',h2,h3,h4⟩:=Qjs (P:=P) (val:=val) hz hc hk (Qgk h1) (show T (runK orc z call fz al tm mu n (k .normal)) from h)
   exact ⟨.normal,tm',mu',n',h2,h3,λρ w a hr ht hf Q hQ=>wp_region_list (h4 ρ w a hr ht hf Q hQ)⟩
  ·cases hp; exact (hz h).elim
 | .region id ops true,ac,tm,mu,n,k,hp,h=>by
  simp only [Qdx] at hp
  split at hp
  ·rename_i l h1
   split at hp
   ·rename_i hok
    cases hp
    have hR : All2 (OpR P ops) ops.toList (modes l (ancs ops.toList [])):=by
     have hl:=Qgk h1
     have hlen : (modes l (ancs ops.toList [])).length = ops.toList.length:=Qj9 h1
     refine All2.Qjc hlen.symm λi o ao ho hao=>?_
     obtain ⟨ao',h2,h3⟩:=hl.get ho
     exact h3.same (Qoo h2 hao)
    obtain ⟨tm',mu',n',h2,h3,h4⟩:=Qln (P:=P) (val:=val) (id:=id) hz hc hk hmx hok hR (show T (drawK orc z call fz _ tm mu n (k .normal)) from h)
    exact ⟨.normal,tm',mu',n',h2,h3,λρ w a hr ht hf Q hQ=>h4 ρ w a hr ht hf Q hQ⟩
   ·cases hp; exact (hz h).elim
  ·cases hp; exact (hz h).elim
 | .seq a b,ac,tm,mu,n,k,hp,h=>by
  simp only [Qdx] at hp
  split at hp
  ·rename_i x y hx hy
   cases hp
   obtain ⟨e,tm1,mu1,n1,h1,h2⟩:=Qe3 hz hc hk hmx a hx (show T (dcode orc z call fz fuel x tm mu n (onw (dcode orc z call fz fuel y · · · k) k)) from h)
   cases e with
   | normal =>
    obtain ⟨e2,tm2,mu2,n2,h3,h4⟩:=Qe3 hz hc hk hmx b hy (show T (dcode orc z call fz fuel y tm1 mu1 n1 k) from h1)
    refine ⟨e2,tm2,mu2,n2,h3,Nat.le_trans h2.1 h4.1,λρ w a hr ht hf Q hQ=>wp_seq ?_⟩
    refine h2.2 ρ w a hr ht (hf.sub (Nat.le_refl _) h4.1) _ λa1 w1 hp=>?_
    obtain ⟨d,ρ1,p1,p2,p3,p4,p5,p6⟩:=hp
    refine h4.2 ρ1 w1 a1 p2 p3 (hf.later p1 h2.1) Q λa2 w2 hp2=>hQ a2 w2 ?_
    exact PostS.trans d p1 p4 p5 p6 h2.1 h4.1 hp2
   | exit id=>exact ⟨.exit id,tm1,mu1,n1,h1,h2.1,λρ w a hr ht hf Q hQ=>wp_seq (h2.2 ρ w a hr ht hf (Exit.then (b.wp P Q) Q) hQ)⟩
   | ret=>exact ⟨.ret,tm1,mu1,n1,h1,h2.1,λρ w a hr ht hf Q hQ=>wp_seq (h2.2 ρ w a hr ht hf (Exit.then (b.wp P Q) Q) hQ)⟩
  ·cases hp
 | .cond c a b,ac,tm,mu,n,k,hp,h=>by
  simp only [Qdx] at hp
  split at hp
  ·rename_i c' x y hcd hx hy
   cases hp
   have h' : T ((ev tm c').onOne z λs=>s.Qei z λt=>cond t (dcode orc z call fz fuel x tm mu n k) (dcode orc z call fz fuel y tm mu n k)):=h
   obtain ⟨s,e1,h1⟩:=Qdn hz h'
   obtain ⟨t,rfl,h2⟩:=Qew hz h1
   have hev : ∀ ρ w (act : Act),TmR val ρ w tm act → act.eval c = .bool t:=λρ w act ht=>by
    have:=ht.ev hcd
    rw [e1] at this
    exact this
   cases t with
   | true =>
    obtain ⟨e,tm1,mu1,n1,h3,h4⟩:=Qe3 hz hc hk hmx a hx h2
    exact ⟨e,tm1,mu1,n1,h3,h4.1,λρ w act hr ht hf Q hQ=>wp_cond_true (hev ρ w act ht) (h4.2 ρ w act hr ht hf Q hQ)⟩
   | false =>
    obtain ⟨e,tm1,mu1,n1,h3,h4⟩:=Qe3 hz hc hk hmx b hy h2
    exact ⟨e,tm1,mu1,n1,h3,h4.1,λρ w act hr ht hf Q hQ=>wp_cond_false (hev ρ w act ht) (h4.2 ρ w act hr ht hf Q hQ)⟩
  ·cases hp
 | .block id a,ac,tm,mu,n,k,hp,h=>by
  simp only [Qdx] at hp
  obtain ⟨x,hx,rfl⟩:=Option.map_eq_some_iff.1 hp
  obtain ⟨e,tm1,mu1,n1,h1,h2⟩:=Qe3 hz hc hk hmx a hx (show T (dcode orc z call fz fuel x tm mu n (inB id k)) from h)
  cases e with
  | normal=>exact ⟨.normal,tm1,mu1,n1,h1,h2.1,λρ w a hr ht hf Q hQ=>wp_block (h2.2 ρ w a hr ht hf (Exit.inBlock id Q) hQ)⟩
  | ret=>exact ⟨.ret,tm1,mu1,n1,h1,h2.1,λρ w a hr ht hf Q hQ=>wp_block (h2.2 ρ w a hr ht hf (Exit.inBlock id Q) hQ)⟩
  | exit id' =>
   have h1' : T (cond (Nat.beq id' id) (k .normal tm1 mu1 n1) (k (.exit id') tm1 mu1 n1)):=h1
   cases hb : Nat.beq id' id with
   | true =>
    rw [hb] at h1'
    have:=Nat.eq_of_beq_eq_true hb
    subst this
    refine ⟨.normal,tm1,mu1,n1,h1',h2.1,λρ w a hr ht hf Q hQ=>wp_block (h2.2 ρ w a hr ht hf _ λa' w' hp=>?_)⟩
    show Exit.inBlock id' Q (.exit id') a' w'
    simp only [Exit.inBlock,if_true]
    exact hQ a' w' hp
   | false =>
    rw [hb] at h1'
    have:=Nat.ne_of_beq_eq_false hb
    refine ⟨.exit id',tm1,mu1,n1,h1',h2.1,λρ w a hr ht hf Q hQ=>wp_block (h2.2 ρ w a hr ht hf _ λa' w' hp=>?_)⟩
    show Exit.inBlock id Q (.exit id') a' w'
    simp only [Exit.inBlock,this,if_false]
    exact hQ a' w' hp
 | .loop a,ac,tm,mu,n,k,hp,h=>by
  simp only [Qdx] at hp
  obtain ⟨x,hx,rfl⟩:=Option.map_eq_some_iff.1 hp
  obtain ⟨e,tm1,mu1,n1,h1,h2,h3⟩:=Qkp (P:=P) (val:=val) (fz:=fz) (a:=a) hz (λh=>Qe3 hz hc hk hmx a hx h) fuel (show T (loopD z (dcode orc z call fz fuel x) fuel tm mu n k) from h)
  exact ⟨e,tm1,mu1,n1,h1,h2,λρ w act hr ht hf Q hQ=>wp_loop_rounds _ (h3 ρ w act hr ht hf Q hQ)⟩
 | .scope a,ac,tm,mu,n,k,hp,h=>by
  simp only [Qdx] at hp
  obtain ⟨e,tm1,mu1,n1,h1,h2⟩:=Qe3 hz hc hk hmx a hp h
  refine ⟨e,tm1,mu1,n1,h1,h2.1,λρ w act hr ht hf Q hQ=>wp_scope_straight (h2.2 ρ w act hr ht hf _ λa' w' hp=>?_)⟩
  cases e <;> exact hQ a' w' hp
 | .goto l,ac,tm,mu,n,k,hp,h=>by
  simp only [Qdx,Option.some.injEq] at hp; subst hp
  exact (hz h).elim
 | .rangeFunc ..,ac,tm,mu,n,k,hp,h=>by
  simp only [Qdx,Option.some.injEq] at hp; subst hp
  exact (hz h).elim
 | .refuse _,ac,tm,mu,n,k,hp,h=>by
  simp only [Qdx,Option.some.injEq] at hp; subst hp
  exact (hz h).elim
end
end Go.Ev
namespace Go.Ev
def isT (v : AV) (_ : St) (_ : Nat) : Bool:=v.onOne false λs=>s.Qei false λb=>b
theorem isT_elim {v : AV} {mu : St} {n : Nat} (h : isT v mu n = true) : v = .one (.bool true):=by
 have hz : ¬ ((false : Bool) = true):=by decide
 obtain ⟨s,rfl,h1⟩:=Qdn (T:=λb : Bool=>b = true) hz h
 obtain ⟨b,rfl,h2⟩:=Qew (T:=λb : Bool=>b = true) hz h1
 rw [h2]
def Qtz (W w' : World) : Prop:=W.keptBut w' (λ_=>False) ∧ (∀ a : Addr,a.block < W.heap.size → w'.frozen? a = W.frozen? a) ∧ W.heap.size ≤ w'.heap.size
theorem Qtz.frame {W w' : World} (h : Qtz W w') (may : MemPlace → Prop) : W.keptBut w' may:=World.keptBut_mono (λ_ f=>f.elim) h.1
theorem Fr.grown {ρ : Rho} {w w' : World} (h : Fr ρ [] w w') : Qtz w w':=by
 have hk : ∀ i,i < w.heap.size → w'.heap[i]? = w.heap[i]?:=λi hi=>h.keep i hi λid p hl=>by cases hl
 refine ⟨⟨h.os,h.output,λi hi=>?_⟩,λa ha=>?_,h.size⟩
 ·rw [hk i hi]
  cases e : w.heap[i]? with
  | none=>trivial
  | some o=>cases o <;> simp
 ·unfold World.frozen?
  rw [hk _ ha]
section
open Go.ChangeShapes Go.WideShapes
variable {H : Type} {enc : TypeId × Value → H} {P : Program}
theorem Qnb {f : Func} {s : ChangeSpec} {apart fresh handsOn again : Bool} {W W' : World} {args : Array Value} {v : Value} {ds gs : List (DataW H)} {before pa pv : List MemPlace}
 (hW : DataW.Whole enc P f.params.toList s.vars apart W args.toList ds gs before)
 (hres : ∀ (b : Nat) (sp : Nat → Bool) (hd : Bool),DataW.TrodAll enc P W' b sp hd f.resultTypes.toList (v.resultList f.resultTypes.size) (s.fn H (ds ++ gs)).results [])
 (hargs : ∀ sp : Nat → Bool,(∀ p ∈ before,sp p.block = true) → DataW.TrodAll enc P W' 0 sp true f.params.toList args.toList (s.fn H (ds ++ gs)).args pa)
 (hvars : ∀ sp : Nat → Bool,(∀ p ∈ before,sp p.block = true) → DataW.TrodVars enc P W' sp s.vars (s.fn H (ds ++ gs)).vars pv)
 (hps : before = pa ++ pv) (hk : W.keptBut W' (· ∈ before)) (hfz : ∀ a : Addr,a.block < W.heap.size → W'.frozen? a = W.frozen? a)
 (hok : ∀ (j : Nat) (t : TypeId) (r : Value),f.resultTypes[j]? = some t → (v.resultList f.resultTypes.size)[j]? = some r → Value.okWide P W' .any 0 t r) :
 s.post enc P f apart fresh handsOn again W args v W':=by
 have hlt:=hW.lt
 have hold : ∀ p ∈ before,(λb=>decide (b < W.heap.size)) p.block = true:=λp hp=>by simpa using hlt p hp
 refine ⟨ds,gs,before,[],pa,pv,hW,hres _ _ _,hargs _ hold,hvars _ hold,World.keptBut_mono (λp hp=>⟨hp,?_⟩) hk,λ_=>?_⟩
 ·rw [hps,List.mem_append] at hp
  exact Or.inr hp
 ·obtain ⟨_,_,_,_,_,hz,hn⟩:=hW
  refine ⟨hok,_,_,([] ++ pa) ++ pv,⟨[] ++ pa,pv,trodAll_append (hargs _ (λ_ _=>rfl)) (hres _ _ _),hvars _ (λ_ _=>rfl),rfl,?_,?_⟩,?_⟩
  ·intro b off hp
   have hp' : MemPlace.cell b off ∈ before:=by rw [hps]; simpa using hp
   rw [hfz _ (hlt _ hp')]
   exact hz b off hp'
  ·intro ha
   have:=hn ha
   rw [hps] at this
   simpa using this
  ·intro p hp _
   rw [hps]
   simpa using hp
end
theorem law_true {R : Type} {T : R → Prop} {z : R} (hz : ¬ T z) {P : Program} {val : Nat → Int} {orc : Orc R} {K : Nat → Option (Contract R)} {F : Nat → Option AFunc} {big depth f : Nat} {args : List AV} {isR : AV → St → Nat → R} (hR : ∀ v mu n,T (isR v mu n) → v = .one (.bool true)) (hk : OrcOk T val orc) (hmx : P.follows .mixedOrders = true)
 (hK : ∀ f c,K f = some c → Qmh T P val f c) (hF : Qpt P F) (h : T (vcall orc z K F big depth f args (λ_=>none) [] 0 isR)) (w : World) (xs : List Value) (hx : All2 (AVR val (λ_=>none) w) args xs) :
 Calls P f xs.toArray w λe w'=>e = .returned (.bool true) ∧ Fr (λ_=>none) [] w w':=by
 obtain ⟨v,mu',n',h1,_,h2,h3⟩:=Qla (T:=T) hz hk hmx hK hF big depth f args (λ_=>none) [] 0 isR h
 have:=hR _ _ _ h1
 subst this
 refine (h3 (λ_=>none) w xs ⟨λid cs h=>(by cases h),λid cs h=>(by cases h),λid cs h=>(by cases h),λid id' p p' h=>(by cases h)⟩ hx λ_ _ _=>rfl).mono λe w' ⟨x,e1,ρ',p1,p2,p3,p4,p5,p6⟩=>?_
 subst e1
 have hx : x = .bool true:=p3
 subst hx
 exact ⟨rfl,p4⟩
inductive FTree where
 | nil
 | node (k : Nat) (f : AFunc) (l r : FTree)
def FTree.find (t : FTree) (f : Nat) : Option AFunc :=
 FTree.rec (motive:=λ_=>Option AFunc) none (λk v _ _ ihl ihr=>cond (Nat.blt f k) ihl (cond (Nat.blt k f) ihr (some v))) t
def FOk (P : Program) (f : Nat) (af : AFunc) : Prop:=Qgb P f = true ∧ ∃ fn m,P.funcs[f]? = some fn ∧ Qkj P m fn = some af
def FTree.Ok (P : Program) : FTree → Prop
 | .nil=>True
 | .node k v l r=>FOk P k v ∧ l.Ok P ∧ r.Ok P
theorem FTree.ok {P : Program} : ∀ {t : FTree}, t.Ok P → Qpt P t.find
 | .nil,_,f,af,h=>by cases h
 | .node k v l r, ht, f, af, h => by
  have h' : (cond (Nat.blt f k) (l.find f) (cond (Nat.blt k f) (r.find f) (some v))) = some af:=h
  cases e1 : Nat.blt f k with
  | true=>rw [e1] at h'; exact FTree.ok ht.2.1 f af h'
  | false =>
   rw [e1] at h'
   cases e2 : Nat.blt k f with
   | true=>rw [e2] at h'; exact FTree.ok ht.2.2 f af h'
   | false =>
    rw [e2] at h'
    have h3 : ¬ f < k:=λh=>by
     have h5 : Nat.blt f k = true:=by rw [Nat.blt_eq]; exact h
     rw [e1] at h5; cases h5
    have h4 : ¬ k < f:=λh=>by
     have h5 : Nat.blt k f = true:=by rw [Nat.blt_eq]; exact h
     rw [e2] at h5; cases h5
    have : k = f:=by omega
    subst this
    cases h'
    exact ht.1
def Qdp (l : List Nat) (dy : Bool) : Muts:=⟨λf=>l.any λx=>Nat.beq x f,dy⟩
end Go.Ev
namespace Go.Ev
theorem Rel.grow {val : Nat → Int} {ρ ρ0 : Rho} {fz : Fz} {mu : St} {w w' : World} (hr : Rel val ρ fz mu w) (hf : Fr ρ0 [] w w') : Rel val ρ fz mu w':=by
 have kp : ∀ b,b < w.heap.size → w'.heap[b]? = w.heap[b]?:=λb hb=>hf.keep b hb λid p hl=>(by cases hl)
 exact ⟨λid cs hl=>(hr.rf id cs hl).mono (λ_ _ h=>h) hf.shape λp hp=>kp _ ((hr.rf id cs hl).lt hp),λid cs hl=>(hr.rm id cs hl).mono (λ_ _ h=>h) hf.shape λp hp=>kp _ ((hr.rm id cs hl).lt hp),hr.dm,hr.dj⟩
theorem Fr.any {ρ ρ0 : Rho} {mu : St} {w w' : World} (hf : Fr ρ0 [] w w') : Fr ρ mu w w' :=
 ⟨hf.os,hf.tape,hf.output,hf.size,λb hb _=>hf.keep b hb λid p hl=>(by cases hl),hf.shape⟩
section
variable {R : Type} {T : R → Prop} {z : R} {P : Program} {val : Nat → Int}
def Qqt (P : Program) (f : Nat) : Prop:=∀ w,Calls P f #[] w λe w'=>e = .returned (.bool true) ∧ Fr (λ_=>none) [] w w'
end
def noOrc {R : Type} (z : R) : Orc R:=⟨λ_ _ _ _ _=>z,λ_ _ _ _ _=>z,λ_ _ _=>z,λ_ _=>z,true⟩
theorem noOrc_ok {R : Type} {T : R → Prop} {z : R} (hz : ¬ T z) (val : Nat → Int) : OrcOk T val (noOrc z):=⟨λ_ _ _ _ _ h=>(hz h).elim,λ_ _ _ _ _ h=>(hz h).elim,λ_ _ _ h=>(hz h).elim,λ_ _ h=>(hz h).elim⟩
end Go.Ev
namespace Go.Ev
theorem nr {α : Sort _} {a b : α} (h : a = b) : a = b:=h
abbrev v0 : Nat → Int:=λ_=>0
def CallS (P : Program) (f : Nat) (args : List AV) (fz : Fz) (mu : St) (n : Nat) (v : AV) (mu' : St) (n' : Nat) : Prop :=
 Qgb P f = true ∧ n ≤ n' ∧ ∀ ρ w (xs : List Value),Rel v0 ρ fz mu w → All2 (AVR v0 ρ w) args xs → Qfd ρ n n' →
  Calls P f xs.toArray w λe w'=>∃ x,e = .returned x ∧ Post v0 ρ fz mu n w v mu' n' x w'
def CP (P : Program) : CallT Prop:=λf args fz mu n k=>∃ v mu' n',k v mu' n' ∧ CallS P f args fz mu n v mu' n'
theorem CP_sound {P : Program} : Qey (λp : Prop=>p) P v0 (CP P):=λ_ _ _ _ _ _ ⟨v,mu',n',h,h1,h2,h3⟩=>⟨v,mu',n',h,h1,h2,h3⟩
def pOrc : Orc Prop:=⟨λ_ _ _ _ _=>False,λ_ _ _ _ _=>False,λ_ _ _=>False,λ_ _=>False,false⟩
theorem pOrc_ok : OrcOk (λp : Prop=>p) v0 pOrc:=⟨λ_ _ _ _ _ h=>h.elim,λ_ _ _ _ _ h=>h.elim,λ_ _ _ h=>h.elim,λ_ _ h=>h.elim⟩
def endP (fz : Fz) (res : List ARes) (k : KT Prop) : AExit → TM → St → Nat → Prop:=λe tm mu n =>
 AExit.rec (motive:=λ_=>Prop) (resK False fz res tm mu λv=>k v mu n) (λ_=>False) (resK False fz res tm mu λv=>k v mu n) e
def rowE (nt : Nat) (e : Nat → Nat → AV) (q : Nat) : List AV:=(List.range (min 16 (nt - 16 * q))).map (e q)
def tmE (nt : Nat) (e : Nat → Nat → AV) : TM:=(List.range ((nt + 15) / 16)).map (rowE nt e)
def updE (e : Nat → Nat → AV) (q r : Nat) (v : AV) : Nat → Nat → AV:=λq' r'=>if q' = q ∧ r' = r then v else e q' r'
def envI (args : List AV) : Nat → Nat → AV:=λq r=>(args[16 * q + r]?).getD noVal
theorem Qkf {nt : Nat} {e : Nat → Nat → AV} {q r : Nat} : (rowE nt e q)[r]? = if r < 16 ∧ 16 * q + r < nt then some (e q r) else none:=by
 unfold rowE
 rw [List.getElem?_map]
 by_cases h : r < 16 ∧ 16 * q + r < nt
 ·rw [List.getElem?_range (by omega),if_pos h]; rfl
 ·rw [List.getElem?_eq_none (by simp; omega),if_neg h]; rfl
theorem Qhp {nt : Nat} {e : Nat → Nat → AV} {q : Nat} : (tmE nt e)[q]? = if 16 * q < nt then some (rowE nt e q) else none:=by
 unfold tmE
 rw [List.getElem?_map]
 by_cases h : 16 * q < nt
 ·rw [List.getElem?_range (by omega),if_pos h]; rfl
 ·rw [List.getElem?_eq_none (by simp; omega),if_neg h]; rfl
theorem Qs5 {nt : Nat} {e : Nat → Nat → AV} {q r : Nat} (h1 : r < 16) (h2 : 16 * q + r < nt) : get (tmE nt e) q r = e q r:=by
 unfold get
 rw [Qfe,Qfe,Qhp,if_pos (by omega),Option.getD_some,Qkf,if_pos ⟨h1,h2⟩]; rfl
theorem set_tmE {nt : Nat} {e : Nat → Nat → AV} {q r : Nat} {v : AV} (h1 : r < 16) (h2 : 16 * q + r < nt) : setT (tmE nt e) q r v = tmE nt (updE e q r v):=by
 unfold setT
 apply List.ext_getElem?
 intro q'
 rw [List.getElem?_set,Qfe,Qhp,Qhp,Qhp]
 have hl : (tmE nt e).length = (nt + 15) / 16:=by simp [tmE]
 by_cases hq : q = q'
 ·subst hq
  rw [if_pos rfl,if_pos (by omega),if_pos (by omega),if_pos (by omega)]
  congr 1
  rw [Option.getD_some]
  apply List.ext_getElem?
  intro r'
  rw [List.getElem?_set,Qkf,Qkf]
  have hrl : (rowE nt e q).length = min 16 (nt - 16 * q):=by simp [rowE]
  by_cases hr : r = r'
  ·subst hr
   rw [if_pos rfl,if_pos (by omega),if_pos ⟨h1,h2⟩]
   simp [updE]
  ·rw [if_neg hr]
   have : updE e q r v q r' = e q r':=by simp [updE]; intro h; exact (hr h.symm).elim
   rw [this]
 ·rw [if_neg hq]
  by_cases h : 16 * q' < nt
  ·rw [if_pos h,if_pos h]
   congr 1
   unfold rowE
   congr 1
   funext r'
   simp [updE]; intro h; exact (hq h.symm).elim
  ·rw [if_neg h,if_neg h]
def updN (nt : Nat) (e : Nat → Nat → AV) (q r : Nat) (v : AV) : Nat → Nat → AV:=if r < 16 ∧ 16 * q + r < nt then updE e q r v else e
theorem tmE_none {nt : Nat} {e : Nat → Nat → AV} {q r : Nat} {v : AV} (h : ¬ (r < 16 ∧ 16 * q + r < nt)) : setT (tmE nt e) q r v = tmE nt e := by
 unfold setT
 apply List.ext_getElem?
 intro q'
 rw [List.getElem?_set,Qfe,Qhp,Qhp]
 have hl : (tmE nt e).length = (nt + 15) / 16:=by simp [tmE]
 by_cases hq : q = q'
 ·subst hq
  rw [if_pos rfl]
  by_cases hb : 16 * q < nt
  ·rw [if_pos (by omega),if_pos hb,Option.getD_some]
   congr 1
   have hrl : (rowE nt e q).length = min 16 (nt - 16 * q):=by simp [rowE]
   apply List.ext_getElem?
   intro r'
   rw [List.getElem?_set]
   by_cases hr : r = r'
   ·subst hr
    rw [if_pos rfl,if_neg (by omega),List.getElem?_eq_none (by omega)]
   ·rw [if_neg hr]
  ·rw [if_neg (by omega),if_neg hb]
 ·rw [if_neg hq]
theorem set_N {nt : Nat} {e : Nat → Nat → AV} {q r : Nat} {v : AV} : setT (tmE nt e) q r v = tmE nt (updN nt e q r v):=by
 unfold updN
 split
 ·rename_i h; exact set_tmE h.1 h.2
 ·rename_i h; exact tmE_none h
theorem tmE_out {nt : Nat} {e : Nat → Nat → AV} {q r : Nat} (h : inR (tmE nt e) q r) : 16 * q + r < nt:=by
 obtain ⟨row,h1,h2⟩:=h
 rw [Qhp] at h1
 split at h1
 ·cases h1
  simp [rowE] at h2
  omega
 ·cases h1
theorem envI_TmR {nt : Nat} {args : List AV} {ρ : Rho} {w : World} {xs : List Value} (hx : All2 (AVR v0 ρ w) args xs) : TmR v0 ρ w (tmE nt (envI args)) { tmps := xs.toArray ++ Array.replicate (nt - xs.toArray.size) undef, defers := [] } := by
 refine ⟨λt ht=>?_,λt=>?_⟩
 ·have:=tmE_out ht
  simp; omega
 ·by_cases ht : t < nt
  ·rw [Qs5 (by omega) (by omega)]
   unfold envI
   rw [show 16 * (t / 16) + t % 16 = t by omega]
   by_cases h1 : t < args.length
   ·obtain ⟨b,h2,h3⟩:=hx.get (List.getElem?_eq_getElem h1)
    have h4 : t < xs.length:=by rw [← hx.length]; exact h1
    rw [List.getElem?_eq_getElem h1,Option.getD_some,Array.getD_eq_getD_getElem?,Array.getElem?_append_left (by simpa using h4)]
    simp only [List.getElem?_toArray,h2,Option.getD_some]
    exact h3
   ·have h4 : ¬ t < xs.length:=by rw [← hx.length]; exact h1
    rw [List.getElem?_eq_none (by omega),Array.getD_eq_getD_getElem?,Array.getElem?_append_right (by simpa using h4),Array.getElem?_replicate]
    split <;> exact ⟨[],rfl,trivial⟩
  ·have : get (tmE nt (envI args)) (t / 16) (t % 16) = .one .un:=by
    unfold get
    rw [Qfe,Qfe,Qhp]
    split
    ·rw [Option.getD_some,Qkf,if_neg (by omega)]; rfl
    ·rfl
   rw [this]; trivial
def textP (P : Program) (fuel : Nat) (af : AFunc) (args : List AV) (fz : Fz) (mu : St) (n : Nat) (k : KT Prop) : Prop :=
 dcode pOrc False (CP P) fz fuel af.body (tmE af.ntmps (envI args)) mu n (endP fz af.res k)
theorem CP_of {P : Program} {f : Nat} {af : AFunc} {args : List AV} {fz : Fz} {mu : St} {n : Nat} {k : KT Prop} (hf : FOk P f af) (hmx : P.follows .mixedOrders = true) (fuel : Nat)
 (h : textP P fuel af args fz mu n k) : CP P f args fz mu n k:=by
 have hz : ¬ (λp : Prop=>p) False:=λh=>h
 obtain ⟨hb,fn,m,hfn,hp⟩:=hf
 unfold Qkj at hp
 cases hbody : fn.body with
 | none=>rw [hbody] at hp; cases hp
 | some c =>
  rw [hbody] at hp
  simp only at hp
  split at hp
  ·rename_i b r hpc hpr
   cases hp
   have h1:=h
   have h2:=λρ w (xs : List Value) (hx : All2 (AVR v0 ρ w) args xs)=>envI_TmR (nt:=fn.ntmps) hx
   obtain ⟨e,tm',mu',n',h3,h4⟩:=Qe3 (P:=P) (val:=v0) (T:=λp : Prop=>p) hz CP_sound pOrc_ok hmx c hpc h1
   have h5 : resK False fz r tm' mu' (λv=>k v mu' n') ∧ (e = .normal ∨ e = .ret):=by
    cases e with
    | normal=>exact ⟨h3,.inl rfl⟩
    | ret=>exact ⟨h3,.inr rfl⟩
    | exit id=>exact (h3 : False).elim
   obtain ⟨h6,h7⟩:=h5
   obtain ⟨v,h8,h9⟩:=Ql5 (P:=P) (val:=v0) (T:=λp : Prop=>p) hz hpr h6
   refine ⟨v,mu',n',h8,hb,h4.1,λρ w xs hr hx hf=>?_⟩
   refine calls_of_wp hfn hbody (h4.2 ρ w _ hr (h2 ρ w xs hx) hf _ λa' w' hp=>?_)
   obtain ⟨d,ρ',p1,p2,p3,p4,p5,p6⟩:=hp
   obtain ⟨x,g1,g2⟩:=h9 ρ' w' a' p2 p3
   have : a'.defers = [] ∧ ∃ v_1,(results fn a'.tmps).run P w' = .ok v_1 w' ∧ ∃ x,Ending.returned v_1 = .returned x ∧ Post v0 ρ fz mu n w v mu' n' x w' :=
    ⟨d,x,g1,x,rfl,ρ',p1,p2,g2,p4,p5,p6⟩
   rcases h7 with rfl | rfl
   ·exact this
   ·exact this
  ·cases hp
section
variable {fz : Fz} {mu : St} {n : Nat} {fu : Nat} {k : AExit → TM → St → Nat → Prop} {P : Program} {nt : Nat} {en : Nat → Nat → AV}
inductive W2 (a b : Prop) : Type where | mk
inductive WK (k : KT Prop) : Type where | mk
inductive WL (D : TM → St → Nat → (AExit → TM → St → Nat → Prop) → Prop) (k : AExit → TM → St → Nat → Prop) : Type where | mk
def Br (t : Bool) (a b : Prop) (_ : W2 a b) : Prop:=cond t a b
theorem Br_true {a b : Prop} {w : W2 a b} : Br true a b w = a:=nr rfl
theorem Br_false {a b : Prop} {w : W2 a b} : Br false a b w = b:=nr rfl
theorem beq_t {b : Bool} : (b == true) = b:=by cases b <;> rfl
theorem beq_f {b : Bool} : (b == false) = !b:=by cases b <;> rfl
theorem Br_not {t : Bool} {a b : Prop} {w : W2 a b} : Br (!t) a b w = Br t b a .mk:=by cases t <;> rfl
theorem Qdv {t : Bool} {a b : Prop} {w : W2 a b} (h1 : t = true → a) (h2 : t = false → b) : Br t a b w:=by cases t; exact h2 rfl; exact h1 rfl
def CPh (P : Program) (f : Nat) (args : List AV) (fz : Fz) (mu : St) (n : Nat) (k : KT Prop) (_ : WK k) : Prop:=CP P f args fz mu n k
def CPr (P : Program) (f : Nat) (args : List AV) (fz : Fz) (mu : St) (n : Nat) (k : KT Prop) (_ : WK k) : Prop:=CP P f args (with' mu fz) [] n λv new n'=>k v (new ++ mu) n'
def Lp (D : TM → St → Nat → (AExit → TM → St → Nat → Prop) → Prop) (fu : Nat) (tm : TM) (mu : St) (n : Nat) (k : AExit → TM → St → Nat → Prop) (_ : WL D k) : Prop:=loopD False D fu tm mu n k
theorem Qim {D : TM → St → Nat → (AExit → TM → St → Nat → Prop) → Prop} {fu : Nat} {tm : TM} {k : AExit → TM → St → Nat → Prop} {w : WL D k} : Lp D (fu + 1) tm mu n k w = D tm mu n (onw (λtm mu n=>Lp D fu tm mu n k .mk) k):=nr rfl
def Qge {α : Type} (o : Option α) (k : α → Prop) : Prop:=Option.rec (motive:=λ_=>Prop) False k o
@[congr] theorem onSome_congr {α : Type} {o o' : Option α} {k : α → Prop} (h : o = o') : Qge o k = Qge o' k:=by rw [h]
theorem Qks {α : Type} {a : α} {k : α → Prop} : Qge (some a) k = k a:=nr rfl
def Need (c : Prop) (p : Prop) : Prop:=c ∧ p
theorem Qli {p : Prop} : Need True p = p:=by simp [Need]
@[congr] theorem onOne_congr {v v' : AV} {z : Prop} {k : SV → Prop} (h : v = v') : v.onOne z k = v'.onOne z k:=by rw [h]
@[congr] theorem onAg_congr {v v' : AV} {z : Prop} {k : List SV → Prop} (h : v = v') : v.onAg z k = v'.onAg z k:=by rw [h]
@[congr] theorem onTp_congr {v v' : AV} {z : Prop} {k : List CV → Prop} (h : v = v') : v.onTp z k = v'.onTp z k:=by rw [h]
@[congr] theorem onCells_congr {v v' : AV} {z : Prop} {k : List SV → Prop} (h : v = v') : v.onCells z k = v'.onCells z k:=by rw [h]
theorem onOne_p {s : SV} {z : Prop} {k : SV → Prop} : (AV.one s).onOne z k = k s:=nr rfl
theorem onAg_p {s : List SV} {z : Prop} {k : List SV → Prop} : (AV.ag s).onAg z k = k s:=nr rfl
theorem onTp_p {s : List CV} {z : Prop} {k : List CV → Prop} : (AV.tp s).onTp z k = k s:=nr rfl
theorem Qqf {s : SV} {z : Prop} {k : List SV → Prop} : (AV.one s).onCells z k = k [s]:=nr rfl
theorem Qrf {s : List SV} {z : Prop} {k : List SV → Prop} : (AV.ag s).onCells z k = k s:=nr rfl
theorem onInt_p {kd : IntKind} {i : Int} {z : Prop} {k : IntKind → Int → Prop} : (SV.int kd i).onInt z k = k kd i:=nr rfl
theorem onBool_p {b : Bool} {z : Prop} {k : Bool → Prop} : (SV.bool b).Qei z k = k b:=nr rfl
theorem onStr_p {l m : Nat} {z : Prop} {k : Nat → Nat → Prop} : (SV.str l m).onStr z k = k l m:=nr rfl
theorem onPtr_p {a b : Nat} {z : Prop} {k : Nat → Nat → Prop} : (SV.optr a b).onPtr z k = k a b:=nr rfl
theorem onSl_p {a b c d e : Nat} {z : Prop} {k : Nat → Nat → Nat → Nat → Nat → Prop} : (SV.osl a b c d e).onSl z k = k a b c d e:=nr rfl
theorem onFn_p {f : Nat} {c : List (Nat × Nat)} {z : Prop} {k : Nat → List (Nat × Nat) → Prop} : (SV.fn f c).onFn z k = k f c:=nr rfl
theorem dc_skip : dcode pOrc False (CP P) fz fu .skip (tmE nt en) mu n k = k .normal (tmE nt en) mu n:=nr rfl
theorem dc_reg {ops : List AOper} : dcode pOrc False (CP P) fz fu (.reg ops) (tmE nt en) mu n k = runK pOrc False (CP P) fz ops (tmE nt en) mu n (λtm mu n=>k .normal tm mu n):=nr rfl
theorem dc_draw {ops : List AOper} : dcode pOrc False (CP P) fz fu (.draw ops) (tmE nt en) mu n k = drawK pOrc False (CP P) fz ops (tmE nt en) mu n (λtm mu n=>k .normal tm mu n):=nr rfl
theorem dc_seq {a b : ACode} : dcode pOrc False (CP P) fz fu (.seq a b) (tmE nt en) mu n k = dcode pOrc False (CP P) fz fu a (tmE nt en) mu n (onw (λtm mu n=>dcode pOrc False (CP P) fz fu b tm mu n k) k):=nr rfl
theorem dc_cond {x : Od} {a b : ACode} : dcode pOrc False (CP P) fz fu (.cond x a b) (tmE nt en) mu n k = (ev (tmE nt en) x).onOne False λs=>s.Qei False λt=>Br t (dcode pOrc False (CP P) fz fu a (tmE nt en) mu n k) (dcode pOrc False (CP P) fz fu b (tmE nt en) mu n k) .mk:=nr rfl
theorem dc_blk {id : Nat} {a : ACode} : dcode pOrc False (CP P) fz fu (.blk id a) (tmE nt en) mu n k = dcode pOrc False (CP P) fz fu a (tmE nt en) mu n (inB id k):=nr rfl
theorem dc_loop {a : ACode} : dcode pOrc False (CP P) fz fu (.loop a) (tmE nt en) mu n k = Lp (dcode pOrc False (CP P) fz fu a) fu (tmE nt en) mu n k .mk:=nr rfl
theorem dc_exit {id : Nat} : dcode pOrc False (CP P) fz fu (.exit id) (tmE nt en) mu n k = k (.exit id) (tmE nt en) mu n:=nr rfl
theorem dc_ret : dcode pOrc False (CP P) fz fu .ret (tmE nt en) mu n k = k .ret (tmE nt en) mu n:=nr rfl
theorem onw_n {next : TM → St → Nat → Prop} : onw next k .normal (tmE nt en) mu n = next (tmE nt en) mu n:=nr rfl
theorem onw_x {next : TM → St → Nat → Prop} {id : Nat} : onw next k (.exit id) (tmE nt en) mu n = k (.exit id) (tmE nt en) mu n:=nr rfl
theorem onw_r {next : TM → St → Nat → Prop} : onw next k .ret (tmE nt en) mu n = k .ret (tmE nt en) mu n:=nr rfl
theorem inB_n {id : Nat} : inB id k .normal (tmE nt en) mu n = k .normal (tmE nt en) mu n:=nr rfl
theorem inB_same {id : Nat} : inB id k (.exit id) (tmE nt en) mu n = k .normal (tmE nt en) mu n:=by
 show cond (Nat.beq id id) _ _ = _
 rw [show Nat.beq id id = true by simp]; rfl
theorem inB_x {id id' : Nat} (h : ¬ id' = id) : inB id k (.exit id') (tmE nt en) mu n = k (.exit id') (tmE nt en) mu n:=by
 show cond (Nat.beq id' id) _ _ = _
 rw [Qly h]; rfl
theorem inB_r {id : Nat} : inB id k .ret (tmE nt en) mu n = k .ret (tmE nt en) mu n:=nr rfl
theorem endP_n {res : List ARes} {k : KT Prop} : endP fz res k .normal (tmE nt en) mu n = resK False fz res (tmE nt en) mu (λv=>k v mu n):=nr rfl
theorem endP_r {res : List ARes} {k : KT Prop} : endP fz res k .ret (tmE nt en) mu n = resK False fz res (tmE nt en) mu (λv=>k v mu n):=nr rfl
theorem run_nil {k : TM → St → Nat → Prop} : runK pOrc False (CP P) fz [] (tmE nt en) mu n k = k (tmE nt en) mu n:=nr rfl
theorem run_c0 {d : Option (Nat × Nat)} {op : AOp} {anc : List Nat} {ops : List AOper} {k : TM → St → Nat → Prop} : runK pOrc False (CP P) fz (⟨d,op,none,0,anc⟩ :: ops) (tmE nt en) mu n k =
 aop pOrc False (CP P) fz (tmE nt en) mu n false op λv mu n=>Qd7 (tmE nt en) d v λtm=>runK pOrc False (CP P) fz ops tm mu n k:=nr rfl
theorem run_c1 {d : Option (Nat × Nat)} {op : AOp} {anc : List Nat} {ops : List AOper} {k : TM → St → Nat → Prop} : runK pOrc False (CP P) fz (⟨d,op,none,1,anc⟩ :: ops) (tmE nt en) mu n k =
 aop pOrc False (CP P) fz (tmE nt en) mu n true op λv mu n=>Qd7 (tmE nt en) d v λtm=>runK pOrc False (CP P) fz ops tm mu n k:=nr rfl
theorem run_c2 {d : Option (Nat × Nat)} {op : AOp} {anc : List Nat} {ops : List AOper} {k : TM → St → Nat → Prop} : runK pOrc False (CP P) fz (⟨d,op,none,2,anc⟩ :: ops) (tmE nt en) mu n k =
 aop pOrc False (CP P) fz (tmE nt en) mu n false op λv mu n=>Qd7 (tmE nt en) d v λtm=>runK pOrc False (CP P) fz ops tm mu n k:=nr rfl
theorem run_c3 {d : Option (Nat × Nat)} {op : AOp} {anc : List Nat} {ops : List AOper} {k : TM → St → Nat → Prop} : runK pOrc False (CP P) fz (⟨d,op,none,3,anc⟩ :: ops) (tmE nt en) mu n k =
 aop pOrc False (CP P) fz (tmE nt en) mu n false op λv mu n=>Qd7 (tmE nt en) d v λtm=>runK pOrc False (CP P) fz ops tm mu n k:=nr rfl
theorem run_c4 {d : Option (Nat × Nat)} {op : AOp} {anc : List Nat} {ops : List AOper} {k : TM → St → Nat → Prop} : runK pOrc False (CP P) fz (⟨d,op,none,4,anc⟩ :: ops) (tmE nt en) mu n k =
 aop pOrc False (CP P) fz (tmE nt en) mu n false op λv mu n=>Qd7 (tmE nt en) d v λtm=>runK pOrc False (CP P) fz ops tm mu n k:=nr rfl
def wantP (v : AV) (b : Bool) (yes no : Prop) : Prop:=AV.rec (motive:=λ_=>Prop) (λs=>s.Qei False λt=>cond (t == b) yes no) (λ_=>False) (λl=>List.rec (motive:=λ_=>Prop) no (λ_ _ _=>False) l) v
@[congr] theorem wantP_congr {v v' : AV} {b : Bool} {p q : Prop} (h : v = v') : wantP v b p q = wantP v' b p q:=by rw [h]
theorem Qsx {b : Bool} {p q : Prop} : wantP (.one (.bool b)) b p q = p:=by cases b <;> rfl
theorem wantP_tf {p q : Prop} : wantP (.one (.bool true)) false p q = q:=nr rfl
theorem wantP_ft {p q : Prop} : wantP (.one (.bool false)) true p q = q:=nr rfl
theorem wantP_br {t b : Bool} {p q : Prop} : wantP (.one (.bool t)) b p q = Br (t == b) p q .mk:=nr rfl
theorem Qp8 {b : Bool} {p q : Prop} : wantP noVal b p q = q:=nr rfl
theorem Qr8 {b : Bool} {p q : Prop} : wantP (.tp []) b p q = q:=nr rfl
theorem run_g0 {d : Option (Nat × Nat)} {op : AOp} {q q' : Nat} {b : Bool} {anc : List Nat} {ops : List AOper} {k : TM → St → Nat → Prop} : runK pOrc False (CP P) fz (⟨d,op,some (q,q',b),0,anc⟩ :: ops) (tmE nt en) mu n k =
 wantP (get (tmE nt en) q q') b (aop pOrc False (CP P) fz (tmE nt en) mu n false op λv mu n=>Qd7 (tmE nt en) d v λtm=>runK pOrc False (CP P) fz ops tm mu n k) (Qd7 (tmE nt en) d noVal λtm=>runK pOrc False (CP P) fz ops tm mu n k):=nr rfl
theorem run_g1 {d : Option (Nat × Nat)} {op : AOp} {q q' : Nat} {b : Bool} {anc : List Nat} {ops : List AOper} {k : TM → St → Nat → Prop} : runK pOrc False (CP P) fz (⟨d,op,some (q,q',b),1,anc⟩ :: ops) (tmE nt en) mu n k =
 wantP (get (tmE nt en) q q') b (aop pOrc False (CP P) fz (tmE nt en) mu n true op λv mu n=>Qd7 (tmE nt en) d v λtm=>runK pOrc False (CP P) fz ops tm mu n k) (Qd7 (tmE nt en) d noVal λtm=>runK pOrc False (CP P) fz ops tm mu n k):=nr rfl
theorem run_g2 {d : Option (Nat × Nat)} {op : AOp} {q q' : Nat} {b : Bool} {anc : List Nat} {ops : List AOper} {k : TM → St → Nat → Prop} : runK pOrc False (CP P) fz (⟨d,op,some (q,q',b),2,anc⟩ :: ops) (tmE nt en) mu n k =
 wantP (get (tmE nt en) q q') b (aop pOrc False (CP P) fz (tmE nt en) mu n false op λv mu n=>Qd7 (tmE nt en) d v λtm=>runK pOrc False (CP P) fz ops tm mu n k) (Qd7 (tmE nt en) d noVal λtm=>runK pOrc False (CP P) fz ops tm mu n k):=nr rfl
theorem run_g3 {d : Option (Nat × Nat)} {op : AOp} {q q' : Nat} {b : Bool} {anc : List Nat} {ops : List AOper} {k : TM → St → Nat → Prop} : runK pOrc False (CP P) fz (⟨d,op,some (q,q',b),3,anc⟩ :: ops) (tmE nt en) mu n k =
 wantP (get (tmE nt en) q q') b (aop pOrc False (CP P) fz (tmE nt en) mu n false op λv mu n=>Qd7 (tmE nt en) d v λtm=>runK pOrc False (CP P) fz ops tm mu n k) (Qd7 (tmE nt en) d noVal λtm=>runK pOrc False (CP P) fz ops tm mu n k):=nr rfl
theorem run_g4 {d : Option (Nat × Nat)} {op : AOp} {q q' : Nat} {b : Bool} {anc : List Nat} {ops : List AOper} {k : TM → St → Nat → Prop} : runK pOrc False (CP P) fz (⟨d,op,some (q,q',b),4,anc⟩ :: ops) (tmE nt en) mu n k =
 wantP (get (tmE nt en) q q') b (aop pOrc False (CP P) fz (tmE nt en) mu n false op λv mu n=>Qd7 (tmE nt en) d v λtm=>runK pOrc False (CP P) fz ops tm mu n k) (Qd7 (tmE nt en) d noVal λtm=>runK pOrc False (CP P) fz ops tm mu n k):=nr rfl
end
end Go.Ev
namespace Go.Ev
section
variable {fz : Fz} {tm : TM} {mu : St} {n : Nat} {P : Program} {ro : Bool} {k : KT Prop}
theorem Qfn {c : Bool} {p : Prop} : cond c p False = Need (c = true) p:=by cases c <;> simp [Need]
theorem Qox {c : Bool} {p : Prop} : cond c False p = Need (c = false) p:=by cases c <;> simp [Need]
theorem Qts {l : List SV} {m : Nat} {k : List SV → Prop} : takeK l m False k = Need (m ≤ l.length) (k (l.take m)):=by
 induction l generalizing m k with
 | nil=>cases m with
  | zero=>show k [] = _; simp [Need]
  | succ m=>show False = _; simp [Need]
 | cons h t ih=>cases m with
  | zero=>show k [] = _; simp [Need]
  | succ m =>
   refine (ih (m:=m) (k:=λr=>k (h :: r))).trans ?_
   simp [Need]
theorem Qo4 {l : List SV} {off m : Nat} {k : List SV → Prop} : subK l off m False k = Need (off + m ≤ l.length) (k ((l.drop off).take m)):=by
 induction l generalizing off k with
 | nil=>cases off with
  | zero=>cases m with
   | zero=>show k [] = _; simp [Need]
   | succ m=>show False = _; simp [Need]
  | succ o=>show False = _; simp [Need]
 | cons h t ih=>cases off with
  | zero=>refine (Qts (l:=h :: t)).trans ?_; simp
  | succ o =>
   refine (ih (off:=o)).trans ?_
   rw [show (o + 1 + m ≤ (h :: t).length) = (o + m ≤ t.length) by simp; omega]; rfl
theorem Qu9 {vs l : List SV} {k : List SV → Prop} : headK vs l False k = Need (vs.length ≤ l.length) (k (vs ++ l.drop vs.length)):=by
 induction vs generalizing l k with
 | nil=>show k l = _; simp [Need]
 | cons v vs ih=>cases l with
  | nil=>show False = _; simp [Need]
  | cons h t =>
   refine (ih (l:=t) (k:=λr=>k (v :: r))).trans ?_
   simp [Need]
theorem Qpu {l : List SV} {off : Nat} {vs : List SV} {k : List SV → Prop} : overK l off vs False k = Need (off + vs.length ≤ l.length) (k (over l off vs)):=by
 induction l generalizing off k with
 | nil=>cases off with
  | zero=>refine (Qu9 (vs:=vs) (l:=[])).trans ?_; simp [Need,over]
  | succ o=>show False = _; simp [Need]
 | cons h t ih=>cases off with
  | zero=>refine (Qu9 (vs:=vs) (l:=h :: t)).trans ?_; simp [over]
  | succ o =>
   refine (ih (off:=o) (k:=λr=>k (h :: r))).trans ?_
   have e : (o + 1 + vs.length ≤ (h :: t).length) = (o + vs.length ≤ t.length):=by simp; omega
   rw [e]
   simp only [over,List.take_succ_cons,List.cons_append]
   rw [show o + 1 + vs.length = (o + vs.length) + 1 by omega,List.drop_succ_cons]
theorem Qms {cs : List SV} {k : List SV → Prop} : Qns False k cs = Need (mkd cs = false) (k cs):=Qox
theorem Qk5 {id : Nat} {k : List SV → Prop} : Qfr fz mu id False k = Qge (with' mu fz id) λcs=>Need (mkd cs = false) (k cs):=by
 unfold Qfr
 rw [Qd6]
 cases look mu id with
 | some c=>exact Qms
 | none=>cases fz id with
  | some c=>exact Qms
  | none=>rfl
theorem Qmx {id : Nat} {k : List SV → Prop} : Qj5 mu id False k = Qge (look mu id) λcs=>Need (mkd cs = false) (k cs):=by
 unfold Qj5
 cases look mu id with
 | some c=>exact Qms
 | none=>rfl
theorem asRes_ag {r : List SV} {k : AV → Prop} : asRes true r False k = k (.ag r):=nr rfl
theorem Qtu {s : SV} {k : AV → Prop} : asRes false [s] False k = k (.one s):=nr rfl
@[congr] theorem asRes_congr {b : Bool} {r r' : List SV} {z : Prop} {k : AV → Prop} (h : r = r') : asRes b r z k = asRes b r' z k:=by rw [h]
theorem over_0 {a b : SV} {l vs : List SV} : over (a :: l) 0 (b :: vs) = b :: over l 0 vs:=by
 simp [over]
theorem rep_0 {z : List SV} : rep z 0 = []:=nr rfl
theorem rep_s {z : List SV} {n : Nat} : rep z (n + 1) = z ++ rep z n:=nr rfl
theorem cast_lit {n : Nat} : (Nat.cast (no_index (OfNat.ofNat n)) : Int) = OfNat.ofNat n:=nr rfl
theorem over_n {l : List SV} : over l 0 [] = l:=by simp [over]
theorem over_s {a : SV} {l vs : List SV} {k : Nat} : over (a :: l) (k + 1) vs = a :: over l k vs:=by
 simp only [over,List.take_succ_cons,List.cons_append]
 rw [show k + 1 + vs.length = (k + vs.length) + 1 by omega,List.drop_succ_cons]
theorem Qdw {i : Nat} {c : List SV} {s : St} {id : Nat} : look ((i,c) :: s) id = if i = id then some c else look s id:=Qd1 _ _ _
theorem Qed {i : Nat} {c : List SV} {s : St} {id : Nat} : with' ((i,c) :: s) fz id = if i = id then some c else with' s fz id:=by
 rw [Qd6,Qdw,Qd6]
 by_cases h : i = id
 ·simp only [h,if_true]
 ·simp only [h,if_false]
theorem with_nil : with' [] fz = fz:=nr rfl
theorem Qj7 {i : Nat} {c d : List SV} {s : St} {id : Nat} : putS ((i,c) :: s) id d = if i = id then (i,d) :: s else (i,c) :: putS s id d:=nr rfl
theorem killS_c {i : Nat} {c : List SV} {s : St} {id : Nat} : killS ((i,c) :: s) id = if i = id then killS s id else (i,c) :: killS s id:=nr rfl
theorem get_p {nt : Nat} {en : Nat → Nat → AV} {q r : Nat} (h1 : Nat.blt r 16 = true) (h2 : Nat.blt (16 * q + r) nt = true) : get (tmE nt en) q r = en q r:=Qs5 (by simpa using h1) (by simpa using h2)
theorem ev_t {nt : Nat} {en : Nat → Nat → AV} {q r : Nat} (h1 : Nat.blt r 16 = true) (h2 : Nat.blt (16 * q + r) nt = true) : ev (tmE nt en) (.t q r) = en q r:=get_p h1 h2
theorem Quq {nt : Nat} {en : Nat → Nat → AV} {q r : Nat} {v : AV} (h1 : Nat.blt r 16 = true) (h2 : Nat.blt (16 * q + r) nt = true) : updN nt en q r v q r = v:=by
 unfold updN; rw [if_pos ⟨by simpa using h1,by simpa using h2⟩]; simp [updE]
theorem updE_r {nt : Nat} {en : Nat → Nat → AV} {q r q' r' : Nat} {v : AV} (h : ¬ r' = r) : updN nt en q r v q' r' = en q' r':=by unfold updN; split <;> simp [updE,h]
theorem updE_q {nt : Nat} {en : Nat → Nat → AV} {q r q' r' : Nat} {v : AV} (h : ¬ q' = q) : updN nt en q r v q' r' = en q' r':=by unfold updN; split <;> simp [updE,h]
def mvK (v : AV) (k : AV → Prop) : Prop:=k v
@[congr] theorem mvK_congr {v v' : AV} {k : AV → Prop} (h : v = v') : mvK v k = mvK v' k:=by rw [h]
theorem mvK_one {s : SV} {k : AV → Prop} : mvK (.one s) k = k (.one s):=nr rfl
theorem mvK_ag {s : List SV} {k : AV → Prop} : mvK (.ag s) k = k (.ag s):=nr rfl
theorem mvK_tp {s : List CV} {k : AV → Prop} : mvK (.tp s) k = k (.tp s):=nr rfl
theorem mvK_no {k : AV → Prop} : mvK noVal k = k noVal:=nr rfl
theorem env_0 {a : AV} {l : List AV} : envI (a :: l) 0 0 = a:=rfl
theorem env_1 {a b : AV} {l : List AV} : envI (a :: b :: l) 0 1 = b:=rfl
theorem env_2 {a b c : AV} {l : List AV} : envI (a :: b :: c :: l) 0 2 = c:=rfl
theorem env_3 {a b c d : AV} {l : List AV} : envI (a :: b :: c :: d :: l) 0 3 = d:=rfl
theorem env_4 {a b c d e : AV} {l : List AV} : envI (a :: b :: c :: d :: e :: l) 0 4 = e:=rfl
theorem ev_c {v : AV} : ev tm (.c v) = v:=nr rfl
theorem Qtq {v : AV} {k : TM → Prop} : Qd7 tm none v k = k tm:=nr rfl
theorem setDst_t {nt : Nat} {en : Nat → Nat → AV} {q r : Nat} {v : AV} {k : TM → Prop} : Qd7 (tmE nt en) (some (q,r)) v k = k (tmE nt (updN nt en q r v)):=by
 rw [← set_N]; exact Qmn _ _ _ _ _
theorem Qtp {kd : IntKind} {i : Int} : SV.known (.int kd i) = true:=nr rfl
theorem Qsa {b : Bool} : SV.known (.bool b) = true:=nr rfl
theorem Qs3 {l m : Nat} : SV.known (.str l m) = true:=nr rfl
theorem Qut : SV.known .nsl = true:=nr rfl
theorem Qty : SV.known .npt = true:=nr rfl
theorem Qt4 : SV.known .nfn = true:=nr rfl
theorem Qry {a b : Nat} : SV.known (.optr a b) = true:=nr rfl
theorem Qu6 {a b c d e : Nat} : SV.known (.osl a b c d e) = true:=nr rfl
theorem Quu : SV.known .esl = true:=nr rfl
theorem Qvf : SV.known .zsl = true:=nr rfl
theorem known_fn {f : Nat} {c : List (Nat × Nat)} : SV.known (.fn f c) = true:=nr rfl
theorem Qjx : Qdo [] = true:=nr rfl
theorem Qe8 {s : SV} {l : List SV} : Qdo (s :: l) = (s.known && Qdo l):=by
 show cond s.known (Qdo l) false = _
 cases s.known <;> rfl
theorem Qj6 {l m : List SV} : Qdo (l ++ m) = (Qdo l && Qdo m):=by
 induction l with
 | nil=>simp [Qjx]
 | cons a l ih=>rw [List.cons_append,Qe8,Qe8,ih,Bool.and_assoc]
theorem mkd_nil : mkd [] = false:=nr rfl
theorem mkd_cons {s : SV} {l : List SV} : mkd (s :: l) = s.isMk:=nr rfl
theorem mk_int {kd : IntKind} {i : Int} : SV.isMk (.int kd i) = false:=nr rfl
theorem mk_bool {b : Bool} : SV.isMk (.bool b) = false:=nr rfl
theorem mk_str {l m : Nat} : SV.isMk (.str l m) = false:=nr rfl
theorem mk_nsl : SV.isMk .nsl = false:=nr rfl
theorem mk_npt : SV.isMk .npt = false:=nr rfl
theorem mk_nfn : SV.isMk .nfn = false:=nr rfl
theorem mk_optr {a b : Nat} : SV.isMk (.optr a b) = false:=nr rfl
theorem mk_osl {a b c d e : Nat} : SV.isMk (.osl a b c d e) = false:=nr rfl
theorem mk_esl : SV.isMk .esl = false:=nr rfl
theorem mk_zsl : SV.isMk .zsl = false:=nr rfl
theorem mk_fn {f : Nat} {c : List (Nat × Nat)} : SV.isMk (.fn f c) = false:=nr rfl
def fT (v : AV) (p : Prop) : Prop:=AV.rec (motive:=λ_=>Prop) (λs=>s.onSym p λ_ _=>False) (λ_=>p) (λ_=>p) v
@[congr] theorem fT_congr {v v' : AV} {p : Prop} (h : v = v') : fT v p = fT v' p:=by rw [h]
theorem fT_int {kd : IntKind} {i : Int} {p : Prop} : fT (.one (.int kd i)) p = p:=nr rfl
theorem forceK_t {q r : Nat} {k : TM → Prop} : Qeb pOrc tm (.t q r) k = fT (ev tm (.t q r)) (k tm):=nr rfl
theorem forceK_c {v : AV} {k : TM → Prop} : Qeb pOrc tm (.c v) k = k tm:=nr rfl
theorem forceO_n {k : TM → Prop} : Qfw pOrc tm none k = k tm:=nr rfl
theorem forceO_s {x : Od} {k : TM → Prop} : Qfw pOrc tm (some x) k = Qeb pOrc tm x k:=nr rfl
theorem a_mv {x : Od} : aop pOrc False (CP P) fz tm mu n ro (.mv x) k = mvK (ev tm x) λv=>k v mu n:=nr rfl
theorem a_pick {c a b : Od} : aop pOrc False (CP P) fz tm mu n ro (.pick c a b) k = (ev tm c).onOne False λs=>s.Qei False λt=>Br t (mvK (ev tm a) λv=>k v mu n) (mvK (ev tm b) λv=>k v mu n) .mk:=nr rfl
theorem a_alloc {z : List SV} : aop pOrc False (CP P) fz tm mu n ro (.alloc z) k = k (.one (.optr n 0)) ((n,z) :: mu) (n + 1):=by
 show fN (Nat.succ n) (λm=>k (.one (.optr n 0)) ((n,z) :: mu) m) = _
 rw [fN_eq]
theorem a_box {x : Od} : aop pOrc False (CP P) fz tm mu n ro (.box x) k = (ev tm x).onCells False λcs=>Need (Qdo cs = true) (k (.one (.optr n 0)) ((n,cs) :: mu) (n + 1)):=by
 show (ev tm x).onCells False (λcs=>cond (Qdo cs) (oNew mu n cs k) False) = _
 congr 1; funext cs; rw [Qfn]; unfold oNew; rw [fN_eq]
theorem fill_nil {cs : List SV} {k : List SV → Prop} : fill False tm [] cs k = k cs:=nr rfl
theorem Qte {p : Nat × Nat × Od} {ps : List (Nat × Nat × Od)} {cs : List SV} {k : List SV → Prop} : fill False tm (p :: ps) cs k =
 (ev tm p.2.2).onCells False λvs=>Need (Nat.beq vs.length p.2.1 = true) (Need (Qdo vs = true) (Need (p.1 + vs.length ≤ cs.length) (fill False tm ps (over cs p.1 vs) k))):=by
 show (ev tm p.2.2).onCells False (λvs=>lenK vs 0 λm=>cond (Nat.beq m p.2.1) (cond (Qdo vs) (overK cs p.1 vs False λcs=>fill False tm ps cs k) False) False) = _
 congr 1; funext vs; rw [Qin,Nat.zero_add,Qfn,Qfn,Qpu]
theorem a_build {z : List SV} {ps : List (Nat × Nat × Od)} : aop pOrc False (CP P) fz tm mu n ro (.build z ps) k = fill False tm ps z λcs=>k (.ag cs) mu n:=nr rfl
theorem a_bslice {s len : Nat} {z : List SV} {ps : List (Nat × Nat × Od)} : aop pOrc False (CP P) fz tm mu n ro (.bslice s len z ps) k = fill False tm ps (rep z len) λcs=>k (.one (.osl n 0 len len s)) ((n,cs) :: mu) (n + 1):=by
 show copyK (rep z len) (λcs=>fill False tm ps cs λcs=>fN (Nat.succ n) λm=>k (.one (.osl n 0 len len s)) ((n,cs) :: mu) m) = _
 rw [Qh6]; rfl
theorem a_load {agg : Bool} {m : Nat} {x : Od} : aop pOrc False (CP P) fz tm mu n ro (.load agg m x) k =
 (ev tm x).onOne False λs=>s.onPtr False λid off=>Qge (with' mu fz id) λcs=>Need (mkd cs = false) (Need (off + m ≤ cs.length) (asRes agg ((cs.drop off).take m) False λv=>k v mu n)):=by
 show (ev tm x).onOne False (λs=>s.onPtr False λid off=>Qfr fz mu id False λcs=>subK cs off m False λr=>asRes agg r False λv=>k v mu n) = _
 congr 1; funext s; congr 1; funext id off; rw [Qk5]; congr 1; funext cs; rw [Qo4]
theorem a_store {m : Nat} {x v : Od} : aop pOrc False (CP P) fz tm mu n ro (.store m x v) k =
 (ev tm x).onOne False λs=>s.onPtr False λid off=>(ev tm v).onCells False λvs=>Need (Nat.beq vs.length m = true) (Need (Qdo vs = true) (Qge (look mu id) λcs=>Need (mkd cs = false) (Need (off + vs.length ≤ cs.length) (k noVal (putS mu id (over cs off vs)) n)))):=by
 show (ev tm x).onOne False (λs=>s.onPtr False λid off=>(ev tm v).onCells False λvs=>lenK vs 0 λl=>cond (Nat.beq l m) (oPut False mu id off vs λmu=>k noVal mu n) False) = _
 congr 1; funext s; congr 1; funext id off; congr 1; funext vs; rw [Qin,Nat.zero_add,Qfn]; unfold oPut; rw [Qfn,Qmx]; congr 2; congr 1; funext cs; rw [Qpu,Qii]
theorem a_bin {op : BinOp} {x y : Od} : aop pOrc False (CP P) fz tm mu n ro (.bin op x y) k = (ev tm x).onOne False λs=>(ev tm y).onOne False λu=>u.onInt (u.onSym False λkd' j=>s.onInt False λkd a=>False) λkd' b=>s.onInt False λkd a=>Need (IntKind.eqb kd kd' = true) (binI op kd a b False λr=>k (.one r) mu n):=by
 show (ev tm x).onOne False (λs=>(ev tm y).onOne False λu=>_) = _
 congr 1; funext s; congr 1; funext u
 cases u <;> cases s <;> first | rfl | (show cond _ _ False = _; first | rw [Qfn]; rfl | (cases IntKind.eqb _ _ <;> rfl)) | skip
def onNil (s : SV) (p : Prop) : Prop:=SV.rec (motive:=λ_=>Prop) False (λ_ _=>False) (λ_=>False) (λ_ _=>False) False False False (λ_ _=>p) (λ_ _ _ _ _=>False) False False (λ_ _=>p) (λ_ _=>False) False (λ_=>False) False (λ_=>False) s
theorem onNil_p {a b : Nat} {p : Prop} : onNil (.optr a b) p = p:=nr rfl
theorem onNil_f {a : Nat} {l : List (Nat × Nat)} {p : Prop} : onNil (.fn a l) p = p:=nr rfl
theorem a_nilc {x : Od} : aop pOrc False (CP P) fz tm mu n ro (.nilc x) k = (ev tm x).onOne False λs=>onNil s (k (.one s) mu n):=nr rfl
theorem nil_nsl : nilness true .nsl = some true:=rfl
theorem nil_osl {a b c d e : Nat} : nilness true (.osl a b c d e) = some false:=rfl
theorem nil_esl : nilness true .esl = some false:=rfl
theorem nil_zsl : nilness true .zsl = some false:=rfl
theorem nil_npt : nilness false .npt = some true:=rfl
theorem nil_ptr {a b : Nat} : nilness false (.optr a b) = some false:=rfl
theorem a_sbin {op : BinOp} {x y : Od} : aop pOrc False (CP P) fz tm mu n ro (.sbin op x y) k = (ev tm x).onOne False λs=>s.onStr False λl a=>(ev tm y).onOne False λu=>u.onStr False λl' b=>Qku op l a l' b False λr=>k (.one r) mu n:=nr rfl
theorem a_eqb {neg : Bool} {x y : Od} : aop pOrc False (CP P) fz tm mu n ro (.eqb neg x y) k = (ev tm x).onOne False λs=>s.Qei False λa=>(ev tm y).onOne False λu=>u.Qei False λb=>k (.one (.bool (neg != (a == b)))) mu n:=by
 show (ev tm x).onOne False (λs=>s.Qei False λa=>(ev tm y).onOne False λu=>u.Qei False λb=>fB (neg != (a == b)) λr=>k (.one (.bool r)) mu n) = _
 congr 1; funext s; congr 1; funext a; congr 1; funext u; congr 1; funext b; rw [fB_eq]
theorem a_eqn {sl neg : Bool} {x y : Od} : aop pOrc False (CP P) fz tm mu n ro (.eqn sl neg x y) k = (ev tm x).onOne False λs=>(ev tm y).onOne False λu=>Qge (nilness sl s) λa=>Qge (nilness sl u) λb=>Need ((a || b) = true) (k (.one (.bool (neg != (a && b)))) mu n):=by
 show (ev tm x).onOne False (λs=>(ev tm y).onOne False λu=>Option.rec (motive:=λ_=>Prop) False (λa=>Option.rec (motive:=λ_=>Prop) False (λb=>cond (a || b) (fB (neg != (a && b)) λr=>k (.one (.bool r)) mu n) False) (nilness sl u)) (nilness sl s)) = _
 congr 1; funext s; congr 1; funext u
 cases nilness sl s with
 | none=>rfl
 | some a=>cases nilness sl u with
  | none=>rfl
  | some b=>show cond _ _ False = _; rw [Qfn,fB_eq]; rfl
theorem a_eqs {ks : List Nat} {neg : Bool} {x y : Od} : aop pOrc False (CP P) fz tm mu n ro (.eqs ks neg x y) k = (ev tm x).onAg False λa=>(ev tm y).onAg False λb=>Qge (Qfc ks a b) λe=>k (.one (.bool (neg != e))) mu n:=by
 show (ev tm x).onAg False (λa=>(ev tm y).onAg False λb=>Option.rec (motive:=λ_=>Prop) False (λe=>fB (neg != e) λr=>k (.one (.bool r)) mu n) (Qfc ks a b)) = _
 congr 1; funext a; congr 1; funext b
 cases Qfc ks a b with
 | none=>rfl
 | some e=>show fB _ _ = _; rw [fB_eq]; rfl
theorem a_not {x : Od} : aop pOrc False (CP P) fz tm mu n ro (.not x) k = (ev tm x).onOne False λs=>s.Qei False λa=>k (.one (.bool (!a))) mu n:=by
 show (ev tm x).onOne False (λs=>s.Qei False λa=>fB (not a) λr=>k (.one (.bool r)) mu n) = _
 congr 1; funext s; congr 1; funext a; rw [fB_eq]
theorem a_neg {x : Od} : aop pOrc False (CP P) fz tm mu n ro (.neg x) k = Qeb pOrc tm x λtm=>(ev tm x).onOne False λs=>s.onInt False λkd a=>k (.one (.int kd (kd.wrap (0 - a)))) mu n:=by
 show Qeb pOrc tm x (λtm=>(ev tm x).onOne False λs=>s.onInt False λkd a=>fI (kd.wrap (0 - a)) λr=>k (.one (.int kd r)) mu n) = _
 congr 1; funext tm; congr 1; funext s; congr 1; funext kd a; rw [fI_eq]
theorem a_conv {kd : IntKind} {x : Od} : aop pOrc False (CP P) fz tm mu n ro (.conv kd x) k = (ev tm x).onOne False λs=>s.onInt (s.onSym False λ_ _=>False) λ_ a=>k (.one (.int kd (kd.wrap a))) mu n:=by
 show (ev tm x).onOne False (λs=>s.onInt (s.onSym False λ_ i=>False) λ_ a=>wrapK kd a λr=>k (.one (.int kd r)) mu n) = _
 congr 1; funext s; congr 1; funext _ a; rw [Qgn]
theorem a_shr {x y : Od} : aop pOrc False (CP P) fz tm mu n ro (.shift false x y) k = Qeb pOrc tm x λtm=>Qeb pOrc tm y λtm=>(ev tm x).onOne False λs=>s.onInt False λkd a=>(ev tm y).onOne False λu=>u.onInt False λ_ b=>Need (0 ≤ b) (k (.one (.int kd (a.fdiv (2 ^ min b.toNat kd.bits)))) mu n):=by
 show Qeb pOrc tm x (λtm=>Qeb pOrc tm y λtm=>(ev tm x).onOne False λs=>s.onInt False λkd a=>(ev tm y).onOne False λu=>u.onInt False λ_ b=>cond (ltI b 0) False (fI (a.fdiv (2 ^ min b.toNat kd.bits)) λn'=>k (.one (.int kd n')) mu n)) = _
 congr 1; funext tm; congr 1; funext tm; congr 1; funext s; congr 1; funext kd a; congr 1; funext u; congr 1; funext _ b
 rw [Qox,fI_eq,Qfv]; simp
theorem Qtn {k : List (Nat × Nat) → Prop} : capsK False tm [] k = k []:=nr rfl
theorem Qr1 {x : Od} {l : List Od} {k : List (Nat × Nat) → Prop} : capsK False tm (x :: l) k = (ev tm x).onOne False λs=>s.onPtr False λid off=>capsK False tm l λr=>k ((id,off) :: r):=nr rfl
theorem a_mkfn {f : Nat} {cs : List Od} : aop pOrc False (CP P) fz tm mu n ro (.mkfn f cs) k = capsK False tm cs λcs=>k (.one (.fn f cs)) mu n:=nr rfl
theorem a_mkslice {s b : Nat} {z : List SV} {l c : Od} : aop pOrc False (CP P) fz tm mu n ro (.mkslice s b z l c) k = Qeb pOrc tm l λtm=>Qeb pOrc tm c λtm=>(ev tm l).onOne False λa=>a.onInt False λka a=>(ev tm c).onOne False λd=>d.onInt False λkb d =>
 Need ((IntKind.eqb ka .i64 && IntKind.eqb kb .i64 && not (ltI a 0) && not (ltI d a) && fits d.toNat b) = true) (k (.one (.osl n 0 a.toNat a.toNat s)) ((n,rep z a.toNat) :: mu) (n + 1)):=by
 show Qeb pOrc tm l (λtm=>Qeb pOrc tm c λtm=>(ev tm l).onOne False λa=>a.onInt False λka a=>(ev tm c).onOne False λd=>d.onInt False λkb d =>
  cond (IntKind.eqb ka .i64 && IntKind.eqb kb .i64 && not (ltI a 0) && not (ltI d a) && fits d.toNat b) (fN a.toNat λm=>copyK (rep z m) λcs=>fN (Nat.succ n) λn'=>k (.one (.osl n 0 m m s)) ((n,cs) :: mu) n') False) = _
 congr 1; funext tm; congr 1; funext tm; congr 1; funext a; congr 1; funext ka a; congr 1; funext d; congr 1; funext kb d
 rw [Qfn,fN_eq,Qh6,fN_eq]
theorem a_slc {str : Bool} {s : Nat} {x : Od} {lo hi mx : Option Od} : aop pOrc False (CP P) fz tm mu n ro (.slc str s x lo hi mx) k = Qfw pOrc tm lo λtm=>Qfw pOrc tm hi λtm=>Qfw pOrc tm mx λtm=>(ev tm x).onOne False λv =>
 Need ((v.isStr == str) = true) (Qge (Qfb s v (lo.map (ev tm)) (hi.map (ev tm)) (mx.map (ev tm))) λr=>k (.one r) mu n):=by
 show Qfw pOrc tm lo (λtm=>Qfw pOrc tm hi λtm=>Qfw pOrc tm mx λtm=>(ev tm x).onOne False λv=>cond (v.isStr == str) (Option.rec (motive:=λ_=>Prop) False (λr=>fSV r λr=>k (.one r) mu n) (Qfb s v (lo.map (ev tm)) (hi.map (ev tm)) (mx.map (ev tm)))) False) = _
 congr 1; funext tm; congr 1; funext tm; congr 1; funext tm; congr 1; funext v; rw [Qfn]; congr 1
 cases Qfb s v (lo.map (ev tm)) (hi.map (ev tm)) (mx.map (ev tm)) with
 | none=>rfl
 | some r=>show fSV r _ = _; rw [Qkq]; rfl
theorem a_faddr {off : Nat} {x : Od} : aop pOrc False (CP P) fz tm mu n ro (.faddr off x) k = (ev tm x).onOne False λs=>s.onPtr False λid o=>k (.one (.optr id (o + off))) mu n:=by
 show (ev tm x).onOne False (λs=>s.onPtr False λid o=>fN (Nat.add o off) λo=>k (.one (.optr id o)) mu n) = _
 congr 1; funext s; congr 1; funext id o; rw [fN_eq]; rfl
theorem a_fld {off : Nat} {agg : Bool} {m : Nat} {x : Od} : aop pOrc False (CP P) fz tm mu n ro (.fld off agg m x) k = (ev tm x).onAg False λcs=>Need (off + m ≤ cs.length) (asRes agg ((cs.drop off).take m) False λv=>k v mu n):=by
 show (ev tm x).onAg False (λcs=>subK cs off m False λr=>asRes agg r False λv=>k v mu n) = _
 congr 1; funext cs; rw [Qo4]
theorem a_iaddr {s : Nat} {x i : Od} : aop pOrc False (CP P) fz tm mu n ro (.iaddr s x i) k = Qeb pOrc tm i λtm=>(ev tm i).onOne False λi=>i.onInt False λ_ i=>(ev tm x).onOne False λv=>v.onSl False λid off len _ s' =>
 Need ((Nat.beq s' s && not (ltI i 0) && Nat.blt i.toNat len) = true) (k (.one (.optr id (off + i.toNat * s))) mu n):=by
 show Qeb pOrc tm i (λtm=>(ev tm i).onOne False λi=>i.onInt False λ_ i=>(ev tm x).onOne False λv=>v.onSl False λid off len _ s'=>cond (Nat.beq s' s && not (ltI i 0) && Nat.blt i.toNat len) (fN (Nat.add off (Nat.mul i.toNat s)) λo=>k (.one (.optr id o)) mu n) False) = _
 congr 1; funext tm; congr 1; funext i; congr 1; funext _ i; congr 1; funext v; congr 1; funext id off len _ s'; rw [Qfn,fN_eq]; rfl
theorem a_iaddrA {s len : Nat} {x i : Od} : aop pOrc False (CP P) fz tm mu n ro (.iaddrA s len x i) k = Qeb pOrc tm i λtm=>(ev tm i).onOne False λi=>i.onInt False λ_ i=>(ev tm x).onOne False λv=>v.onPtr False λid off =>
 Need ((not (ltI i 0) && Nat.blt i.toNat len) = true) (k (.one (.optr id (off + i.toNat * s))) mu n):=by
 show Qeb pOrc tm i (λtm=>(ev tm i).onOne False λi=>i.onInt False λ_ i=>(ev tm x).onOne False λv=>v.onPtr False λid off=>cond (not (ltI i 0) && Nat.blt i.toNat len) (fN (Nat.add off (Nat.mul i.toNat s)) λo=>k (.one (.optr id o)) mu n) False) = _
 congr 1; funext tm; congr 1; funext i; congr 1; funext _ i; congr 1; funext v; congr 1; funext id off; rw [Qfn,fN_eq]; rfl
theorem a_idx {x i : Od} : aop pOrc False (CP P) fz tm mu n ro (.idx x i) k = Qeb pOrc tm i λtm=>(ev tm i).onOne False λi=>i.onInt False λ_ i=>(ev tm x).onOne False λv=>v.onStr False λl b =>
 Need (ltI i 0 = false) (Need (Nat.blt i.toNat l = true) (k (.one (.int .u8 (Int.ofNat (b / 256 ^ (l - 1 - i.toNat) % 256)))) mu n)):=by
 show Qeb pOrc tm i (λtm=>(ev tm i).onOne False λi=>i.onInt False λ_ i=>(ev tm x).onOne False λv=>v.onStr False λl b=>cond (ltI i 0) False (cond (Nat.blt i.toNat l) (fN (Nat.mod (Nat.div b (Nat.pow 256 (Nat.sub (Nat.pred l) i.toNat))) 256) λc=>k (.one (.int .u8 (Int.ofNat c))) mu n) False)) = _
 congr 1; funext tm; congr 1; funext i; congr 1; funext _ i; congr 1; funext v; congr 1; funext l b; rw [Qox,Qfn,fN_eq]; rfl
theorem nthK_0 {α : Type} {a : α} {l : List α} {k : α → Prop} : nthK (a :: l) 0 False k = k a:=nr rfl
theorem nthK_s {α : Type} {a : α} {l : List α} {i : Nat} {k : α → Prop} : nthK (a :: l) (i + 1) False k = nthK l i False k:=nr rfl
def onCV (c : CV) (k : AV → Prop) : Prop:=CV.rec (motive:=λ_=>Prop) (λs=>k (.one s)) (λl=>k (.ag l)) c
theorem onCV_one {s : SV} {k : AV → Prop} : onCV (.one s) k = k (.one s):=nr rfl
theorem onCV_ag {s : List SV} {k : AV → Prop} : onCV (.ag s) k = k (.ag s):=nr rfl
theorem a_extr {x : Od} {i : Nat} : aop pOrc False (CP P) fz tm mu n ro (.extr x i) k = (ev tm x).onTp False λps=>nthK ps i False λc=>onCV c λv=>k v mu n:=nr rfl
def onLen (s : SV) (k : Nat → Prop) : Prop:=SV.rec (motive:=λ_=>Prop) False (λ_ _=>False) (λ_=>False) (λl _=>k l) (k 0) False False (λ_ _=>False) (λ_ _ len _ _=>k len) (k 0) (k 0) (λ_ _=>False) (λ_ _=>False) False (λ_=>False) False (λ_=>False) s
theorem Qtv {l b : Nat} {k : Nat → Prop} : onLen (.str l b) k = k l:=nr rfl
theorem Qur {k : Nat → Prop} : onLen .nsl k = k 0:=nr rfl
theorem Qux {k : Nat → Prop} : onLen .esl k = k 0:=nr rfl
theorem Qu8 {k : Nat → Prop} : onLen .zsl k = k 0:=nr rfl
theorem Qt9 {a b c d e : Nat} {k : Nat → Prop} : onLen (.osl a b c d e) k = k c:=nr rfl
theorem a_len {str : Bool} {x : Od} : aop pOrc False (CP P) fz tm mu n ro (.len str x) k = (ev tm x).onOne False λs=>Need ((s.isStr == str) = true) (onLen s λl=>k (.one (.int .i64 (Int.ofNat l))) mu n):=by
 show (ev tm x).onOne False (λs=>cond (s.isStr == str) _ False) = _
 congr 1; funext s; rw [Qfn]; rfl
theorem Qsl {l b : Nat} : SV.isStr (.str l b) = true:=nr rfl
theorem Quc : SV.isStr .nsl = false:=nr rfl
theorem Qs6 : SV.isStr .esl = false:=nr rfl
theorem Qvc : SV.isStr .zsl = false:=nr rfl
theorem Qs9 {a b c d e : Nat} : SV.isStr (.osl a b c d e) = false:=nr rfl
theorem a_max {x : Od} {xs : List Od} : aop pOrc False (CP P) fz tm mu n ro (.max x xs) k = (ev tm x).onOne False λs=>maxK pOrc False (evs tm xs) s λr=>k (.one r) mu n:=nr rfl
theorem a_min {x : Od} {xs : List Od} : aop pOrc False (CP P) fz tm mu n ro (.min x xs) k = (ev tm x).onOne False λs=>minK pOrc False (evs tm xs) s λr=>k (.one r) mu n:=nr rfl
theorem maxK_nil {a : SV} {k : SV → Prop} : maxK pOrc False [] a k = k a:=nr rfl
theorem minK_nil {a : SV} {k : SV → Prop} : minK pOrc False [] a k = k a:=nr rfl
theorem maxK_int {kd : IntKind} {i j : Int} {l : List AV} {k : SV → Prop} : maxK pOrc False (.one (.int kd j) :: l) (.int kd i) k = maxK pOrc False l (.int kd (max i j)) k:=by
 show cond (IntKind.eqb kd kd) ((λt=>cond t (maxK pOrc False l (.int kd j) k) (maxK pOrc False l (.int kd i) k)) (ltI i j)) False = _
 have e : IntKind.eqb kd kd = true:=by cases kd <;> rfl
 rw [e,Qfv]
 by_cases h : i < j
 ·rw [show decide (i < j) = true by simpa using h,show max i j = j by omega]; rfl
 ·rw [show decide (i < j) = false by simpa using h,show max i j = i by omega]; rfl
theorem minK_int {kd : IntKind} {i j : Int} {l : List AV} {k : SV → Prop} : minK pOrc False (.one (.int kd j) :: l) (.int kd i) k = minK pOrc False l (.int kd (min i j)) k:=by
 show cond (IntKind.eqb kd kd) ((λt=>cond t (minK pOrc False l (.int kd j) k) (minK pOrc False l (.int kd i) k)) (ltI j i)) False = _
 have e : IntKind.eqb kd kd = true:=by cases kd <;> rfl
 rw [e,Qfv]
 by_cases h : j < i
 ·rw [show decide (j < i) = true by simpa using h,show min i j = j by omega]; rfl
 ·rw [show decide (j < i) = false by simpa using h,show min i j = i by omega]; rfl
theorem a_call0 {f : Od} {asl : List Od} : aop pOrc False (CP P) fz tm mu n false (.call f asl) k = (ev tm f).onOne False λs=>s.onFn False λg cs=>CPh P g (asl.map (ev tm) ++ Qgy cs) fz mu n k .mk:=by
 show (ev tm f).onOne False (λs=>s.onFn False λg cs=>argsK tm asl (Qgy cs) λvs=>CP P g vs fz mu n k) = _
 congr 1; funext s; congr 1; funext g cs; rw [Qml]; rfl
theorem a_call1 {f : Od} {asl : List Od} : aop pOrc False (CP P) fz tm mu n true (.call f asl) k = (ev tm f).onOne False λs=>s.onFn False λg cs=>CPr P g (asl.map (ev tm) ++ Qgy cs) fz mu n k .mk:=by
 show (ev tm f).onOne False (λs=>s.onFn False λg cs=>argsK tm asl (Qgy cs) λvs=>CP P g vs (with' mu fz) [] n λv new n'=>joinK new mu λmu=>k v mu n') = _
 congr 1; funext s; congr 1; funext g cs; rw [Qml]; show CP _ _ _ _ _ _ _ = CP _ _ _ _ _ _ _; congr 1; funext v new n'; rw [Qgu]
theorem Qp5 : Qgy [] = []:=nr rfl
theorem Qob {p : Nat × Nat} {l : List (Nat × Nat)} : Qgy (p :: l) = .one (.optr p.1 p.2) :: Qgy l:=nr rfl
def onSrc (M : Fz) (s : Nat) (x : SV) (k : List SV → Nat → Prop) : Prop :=
 SV.rec (motive:=λ_=>Prop) False (λ_ _=>False) (λ_=>False) (λl b=>Need (Nat.beq s 1 = true) (k (Qf6 (sB l b)) l)) (k [] 0) False False (λ_ _=>False)
  (λid off len _ s'=>Need (Nat.beq s' s = true) (Qge (M id) λcs=>Need (mkd cs = false) (Need (off + len * s ≤ cs.length) (k ((cs.drop off).take (len * s)) len)))) (k [] 0) (k [] 0) (λ_ _=>False) (λ_ _=>False) False (λ_=>False) False (λ_=>False) x
theorem srcK_p {s : Nat} {x : SV} {k : List SV → Nat → Prop} : srcK fz mu s x False k = onSrc (with' mu fz) s x k:=by
 cases x with
 | str l b=>show cond (Nat.beq s 1) (digK l b [] λr=>k r l) False = _; rw [Qfn,Qm6,List.append_nil]; rfl
 | osl id off len c s' =>
  show cond (Nat.beq s' s) (Qfr fz mu id False λcs=>fN (Nat.mul len s) λm=>fN off λoff=>subK cs off m False λr=>k r len) False = _
  rw [Qfn,Qk5]
  show Need _ _ = Need _ _
  congr 1; congr 1; funext cs; rw [fN_eq,fN_eq,Qo4]; rfl
 | _=>rfl
theorem Qvh {M : Fz} {s : Nat} {k : List SV → Nat → Prop} : onSrc M s .nsl k = k [] 0:=nr rfl
theorem Qst {M : Fz} {s : Nat} {k : List SV → Nat → Prop} : onSrc M s .esl k = k [] 0:=nr rfl
theorem Qu5 {M : Fz} {s : Nat} {k : List SV → Nat → Prop} : onSrc M s .zsl k = k [] 0:=nr rfl
theorem Qn1 {M : Fz} {s id off len c s' : Nat} {k : List SV → Nat → Prop} : onSrc M s (.osl id off len c s') k = Need (Nat.beq s' s = true) (Qge (M id) λcs=>Need (mkd cs = false) (Need (off + len * s ≤ cs.length) (k ((cs.drop off).take (len * s)) len))):=nr rfl
theorem Qsk {M : Fz} {l b : Nat} {k : List SV → Nat → Prop} : onSrc M 1 (.str l b) k = k (Qf6 (sB l b)) l:=by show Need _ _ = _; simp [Need]
def onApp (mu : St) (n s bytes : Nat) (x : SV) (src : List SV) (cnt : Nat) (k : KT Prop) : Prop :=
 SV.rec (motive:=λ_=>Prop) False (λ_ _=>False) (λ_=>False) (λ_ _=>False) (Qjw False mu n s bytes x src cnt k) False False (λ_ _=>False)
  (λid off len cap s'=>appOwn False mu n s bytes x id off len cap s' src cnt k) (Qjw False mu n s bytes x src cnt k) False (λ_ _=>False) (λ_ _=>False) False (λ_=>False) False (λ_=>False) x
@[congr] theorem onApp_congr {s b : Nat} {x x' : SV} {src src' : List SV} {cnt cnt' : Nat} (h : x = x') (h2 : src = src') (h3 : cnt = cnt') : onApp mu n s b x src cnt k = onApp mu n s b x' src' cnt' k:=by rw [h,h2,h3]
theorem a_append {s b : Nat} {x y : Od} : aop pOrc False (CP P) fz tm mu n ro (.append s b x y) k = (ev tm x).onOne False λx=>(ev tm y).onOne False λy=>onSrc (with' mu fz) s y λsrc cnt=>Need (Qdo src = true) (onApp mu n s b x src cnt k):=by
 show (ev tm x).onOne False (λx=>(ev tm y).onOne False λy=>srcK fz mu s y False λsrc cnt=>cond (Qdo src) _ False) = _
 congr 1; funext x; congr 1; funext y; rw [srcK_p]; congr 1; funext src cnt; rw [Qfn]; rfl
theorem Qq5 {s b : Nat} {x : SV} {src : List SV} {cnt : Nat} (h : cnt ≠ 0) : Qjw False mu n s b x src cnt k = Need (fits cnt b = true) (k (.one (.osl n 0 cnt cnt s)) ((n,src) :: mu) (n + 1)):=by
 unfold Qjw
 rw [show Nat.beq cnt 0 = false from Qly h]
 show cond _ _ False = _
 rw [Qfn,fN_eq]
theorem Qrk {s b : Nat} {src : List SV} : onApp mu n s b .nsl src 0 k = k (.one .nsl) mu n:=nr rfl
theorem Qr2 {s b : Nat} {src : List SV} : onApp mu n s b .esl src 0 k = k (.one .esl) mu n:=nr rfl
theorem Qlz {s b id off len c s' : Nat} {src : List SV} : onApp mu n s b (.osl id off len c s') src 0 k = k (.one (.osl id off len c s')) mu n:=nr rfl
theorem Qoe {s b : Nat} {src : List SV} {cnt : Nat} (h : cnt ≠ 0) : onApp mu n s b .nsl src cnt k = Need (fits cnt b = true) (k (.one (.osl n 0 cnt cnt s)) ((n,src) :: mu) (n + 1)):=Qq5 h
theorem Qn0 {s b : Nat} {src : List SV} {cnt : Nat} (h : cnt ≠ 0) : onApp mu n s b .esl src cnt k = Need (fits cnt b = true) (k (.one (.osl n 0 cnt cnt s)) ((n,src) :: mu) (n + 1)):=Qq5 h
theorem Qs8 {s b id off len c : Nat} {src cs : List SV} {cnt : Nat} (h : cnt ≠ 0) (hl : look mu id = some cs) (hm : mkd cs = false) (hk : cs.length = off + len * s) : onApp mu n s b (.osl id off len c s) src cnt k =
 Need (fits (len + cnt) b = true) (k (.one (.osl n 0 (len + cnt) (len + cnt) s)) ((n,cs.drop off ++ src) :: killS mu id) (n + 1)):=by
 show appOwn False mu n s b (.osl id off len c s) id off len c s src cnt k = _
 unfold appOwn
 rw [show Nat.beq cnt 0 = false from Qly h]
 show cond _ _ False = _
 rw [Qfn,Qmx,hl]
 have e1 : (Nat.beq s s && fits (len + cnt) b) = fits (len + cnt) b:=by rw [show Nat.beq s s = true by simp]; rfl
 show Need ((Nat.beq s s && fits (len + cnt) b) = true) _ = _
 rw [e1]
 congr 1
 show Need (mkd cs = false) _ = _
 rw [show (mkd cs = false) = True by simp [hm],Qli,fN_eq,Qo4]
 have e2 : (off + Nat.mul len s ≤ cs.length) = True:=by simp only [Nat.mul_eq,eq_iff_iff,iff_true]; omega
 rw [e2,Qli,Qin]
 have e3 : Nat.beq (0 + cs.length) (Nat.add off (Nat.mul len s)) = true:=by
  rw [show Nat.add off (Nat.mul len s) = 0 + cs.length by simp only [Nat.add_eq,Nat.mul_eq]; omega]; simp
 rw [e3]
 show appK _ src _ = _
 rw [Qs1,Qkg,fN_eq,fN_eq]
 have e4 : (cs.drop off).take (Nat.mul len s) = cs.drop off:=List.take_of_length_le (by simp only [Nat.mul_eq,List.length_drop]; omega)
 rw [e4]; rfl
theorem a_copy {s : Nat} {x y : Od} : aop pOrc False (CP P) fz tm mu n ro (.copy s x y) k = (ev tm x).onOne False λx=>x.onSl False λid off len _ s'=>(ev tm y).onOne False λy=>Need (Nat.beq s' s = true) (onSrc (with' mu fz) s y λsrc cnt =>
 Need (min cnt len * s ≤ src.length) (Need (Qdo (src.take (min cnt len * s)) = true) (Qge (look mu id) λcs=>Need (mkd cs = false) (Need (off + (src.take (min cnt len * s)).length ≤ cs.length) (k (.one (.int .i64 (Int.ofNat (min cnt len)))) (putS mu id (over cs off (src.take (min cnt len * s)))) n))))):=by
 show (ev tm x).onOne False (λx=>x.onSl False λid off len _ s'=>(ev tm y).onOne False λy=>cond (Nat.beq s' s) (srcK fz mu s y False λsrc cnt=>fN (Nat.min cnt len) λm=>takeK src (Nat.mul m s) False λsrc=>oPut False mu id off src λmu=>k (.one (.int .i64 (Int.ofNat m))) mu n) False) = _
 congr 1; funext x; congr 1; funext id off len _ s'; congr 1; funext y; rw [Qfn,srcK_p]; congr 1; congr 1; funext src cnt; rw [fN_eq,Qts]
 show Need _ _ = Need _ _
 congr 1; unfold oPut; rw [Qfn,Qmx]; congr 2; congr 1; funext cs; rw [Qpu,Qii]; rfl
theorem res_nil {k : AV → Prop} : resK False fz [] tm mu k = k (.tp []):=nr rfl
theorem res_one {r : ARes} {k : AV → Prop} : resK False fz [r] tm mu k = Qiv False fz r tm mu k:=nr rfl
theorem res_more {r r' : ARes} {l : List ARes} {k : AV → Prop} : resK False fz (r :: r' :: l) tm mu k = Qjv False fz (r :: r' :: l) tm mu λcs=>k (.tp cs):=nr rfl
theorem Qsb {k : List CV → Prop} : Qjv False fz [] tm mu k = k []:=nr rfl
def onTo (v : AV) (k : CV → Prop) : Prop:=toCV False v k
theorem onTo_one {s : SV} {k : CV → Prop} : onTo (.one s) k = k (.one s):=nr rfl
theorem onTo_ag {s : List SV} {k : CV → Prop} : onTo (.ag s) k = k (.ag s):=nr rfl
theorem Qp7 {r : ARes} {l : List ARes} {k : List CV → Prop} : Qjv False fz (r :: l) tm mu k = Qiv False fz r tm mu λv=>onTo v λc=>Qjv False fz l tm mu λcs=>k (c :: cs):=nr rfl
theorem resVal_t {q r : Nat} {k : AV → Prop} : Qiv False fz (.tmp q r) tm mu k = mvK (ev tm (.t q r)) k:=nr rfl
theorem resVal_c {q r : Nat} {agg : Bool} {m : Nat} {k : AV → Prop} : Qiv False fz (.cell q r agg m) tm mu k = (ev tm (.t q r)).onOne False λs=>s.onPtr False λid off=>Qge (with' mu fz id) λcs=>Need (mkd cs = false) (Need (off + m ≤ cs.length) (asRes agg ((cs.drop off).take m) False k)):=by
 show (ev tm (.t q r)).onOne False (λs=>s.onPtr False λid off=>Qfr fz mu id False λcs=>subK cs off m False λc=>asRes agg c False k) = _
 congr 1; funext s; congr 1; funext id off; rw [Qk5]; congr 1; funext cs; rw [Qo4]
theorem eqb_same {kd : IntKind} : IntKind.eqb kd kd = true:=by cases kd <;> rfl
theorem b_add {kd : IntKind} {a b : Int} {k : SV → Prop} : binI .add kd a b False k = k (.int kd (kd.wrap (a + b))):=Qgn kd (Int.add a b) λn=>k (.int kd n)
theorem b_sub {kd : IntKind} {a b : Int} {k : SV → Prop} : binI .sub kd a b False k = k (.int kd (kd.wrap (a - b))):=Qgn kd (Int.sub a b) λn=>k (.int kd n)
theorem b_mul {kd : IntKind} {a b : Int} {k : SV → Prop} : binI .mul kd a b False k = k (.int kd (kd.wrap (a * b))):=Qgn kd (Int.mul a b) λn=>k (.int kd n)
theorem b_quo {kd : IntKind} {a b : Int} {k : SV → Prop} : binI .quo kd a b False k = Need (b ≠ 0) (k (.int kd (kd.wrap (a.tdiv b)))):=by
 show cond (eqI b 0) False (fI (kd.wrap (a.tdiv b)) λn=>k (.int kd n)) = _
 rw [Qox,fI_eq,Qhm]; simp
theorem b_rem {kd : IntKind} {a b : Int} {k : SV → Prop} : binI .rem kd a b False k = Need (b ≠ 0) (k (.int kd (a.tmod b))):=by
 show cond (eqI b 0) False (fI (a.tmod b) λn=>k (.int kd n)) = _
 rw [Qox,fI_eq,Qhm]; simp
theorem b_xor {kd : IntKind} {a b : Int} {k : SV → Prop} : binI .xor kd a b False k = k (.int kd (kd.wrap (BitVec.ofInt kd.bits a ^^^ BitVec.ofInt kd.bits b).toNat)):=fI_eq (kd.wrap (BitVec.ofInt kd.bits a ^^^ BitVec.ofInt kd.bits b).toNat) λn=>k (.int kd n)
theorem b_eql {kd : IntKind} {a b : Int} {k : SV → Prop} : binI .eql kd a b False k = k (.bool (decide (a = b))):=(fB_eq (eqI a b) λr=>k (.bool r)).trans (by rw [Qhm])
theorem b_neq {kd : IntKind} {a b : Int} {k : SV → Prop} : binI .neq kd a b False k = k (.bool (!decide (a = b))):=(fB_eq (eqI a b) λr=>k (.bool (not r))).trans (by rw [Qhm])
theorem b_lss {kd : IntKind} {a b : Int} {k : SV → Prop} : binI .lss kd a b False k = k (.bool (decide (a < b))):=(fB_eq (ltI a b) λr=>k (.bool r)).trans (by rw [Qfv])
theorem b_leq {kd : IntKind} {a b : Int} {k : SV → Prop} : binI .leq kd a b False k = k (.bool (decide (a ≤ b))):=by
 refine (fB_eq (ltI b a) λr=>k (.bool (not r))).trans ?_; rw [Qfv]; congr 2
 by_cases h : b < a
 ·have : ¬ a ≤ b:=by omega
  simp [h,this]
 ·have : a ≤ b:=by omega
  simp [h,this]
theorem b_gtr {kd : IntKind} {a b : Int} {k : SV → Prop} : binI .gtr kd a b False k = k (.bool (decide (b < a))):=(fB_eq (ltI b a) λr=>k (.bool r)).trans (by rw [Qfv])
theorem b_geq {kd : IntKind} {a b : Int} {k : SV → Prop} : binI .geq kd a b False k = k (.bool (decide (b ≤ a))):=by
 refine (fB_eq (ltI a b) λr=>k (.bool (not r))).trans ?_; rw [Qfv]; congr 2
 by_cases h : a < b
 ·have : ¬ b ≤ a:=by omega
  simp [h,this]
 ·have : b ≤ a:=by omega
  simp [h,this]
theorem s_neq {l a l' b : Nat} {k : SV → Prop} : Qku .neq l a l' b False k = k (.bool (!strEq l a l' b)):=fB_eq (strEq l a l' b) λr=>k (.bool (not r))
theorem s_eql {l a l' b : Nat} {k : SV → Prop} : Qku .eql l a l' b False k = k (.bool (strEq l a l' b)):=fB_eq (strEq l a l' b) λr=>k (.bool r)
theorem dc_at {nt : Nat} {en : Nat → Nat → AV} {fu : Nat} {c c' : ACode} {k : AExit → TM → St → Nat → Prop} (h : c = c') : dcode pOrc False (CP P) fz fu c (tmE nt en) mu n k = dcode pOrc False (CP P) fz fu c' (tmE nt en) mu n k:=by rw [h]
theorem Qt3 {a : Nat} : Nat.beq a a = true:=by simp
theorem bx1 {n : Nat} : (n + 1 = n) = False:=by simp
theorem bx2 {n : Nat} : (n = n + 1) = False:=by simp
theorem bx3 {n : Nat} : (n + 1 + 1 = n) = False:=by simp; omega
theorem bx4 {n : Nat} : (n = n + 1 + 1) = False:=by simp; omega
theorem bx5 {n : Nat} : (n + 1 + 1 + 1 = n) = False:=by simp; omega
theorem bx6 {n : Nat} : (n = n + 1 + 1 + 1) = False:=by simp; omega
theorem cast_neg {a : Nat} : ((a : Int) < 0) = False:=by simp
theorem cast_lt {a b : Nat} : ((a : Int) < (b : Int)) = (a < b):=by simp
theorem cast_le {a b : Nat} : ((a : Int) ≤ (b : Int)) = (a ≤ b):=by simp
theorem castN_eq {a b : Nat} : ((a : Int) = (b : Int)) = (a = b):=propext Int.ofNat_inj
theorem cast_of {a : Nat} : Int.ofNat a = (a : Int):=nr rfl
theorem cast_nat {a : Nat} : (a : Int).toNat = a:=by simp
theorem blt_p {a b : Nat} : (Nat.blt a b = true) = (a < b):=by simp
theorem and_p {a b : Bool} : ((a && b) = true) = (a = true ∧ b = true):=by simp
theorem bool_tt : (true = true) = True:=by simp
theorem bool_ft : (false = true) = False:=by simp
theorem bool_tf : (true = false) = False:=by simp
theorem bool_ff : (false = false) = True:=by simp
theorem wrap64 {x : Int} (h1 : -9223372036854775808 ≤ x) (h2 : x < 9223372036854775808) : IntKind.i64.wrap x = x:=by
 simp [IntKind.wrap,IntKind.bits,IntKind.signed]; omega
end
end Go.Ev
namespace Go.Ev
section
variable {fz : Fz} {mu : St} {n : Nat} {P : Program} {nt : Nat} {en : Nat → Nat → AV} {ad : List St}
def nilK (new : St) (p : Prop) : Prop:=List.rec (motive:=λ_=>Prop) p (λ_ _ _=>False) new
theorem nilK_nil {p : Prop} : nilK [] p = p:=nr rfl
theorem ads_nil : adsOf ad [] = []:=nr rfl
theorem ads_cons {i : Nat} {l : List Nat} : adsOf ad (i :: l) = nth [] ad i ++ adsOf ad l:=nr rfl
theorem ath_0 {a : St} {l : List St} : nth [] (a :: l) 0 = a:=rfl
theorem ath_s {a : St} {l : List St} {i : Nat} : nth [] (a :: l) (i + 1) = nth [] l i:=rfl
theorem ast_0 {a b : St} {l : List St} : (a :: l).set 0 b = b :: l:=rfl
theorem ast_s {a b : St} {l : List St} {i : Nat} : (a :: l).set (i + 1) b = a :: l.set i b:=rfl
def adK (ad : List St) (k : List St → Prop) : Prop:=k ad
@[congr] theorem adK_congr {ad ad' : List St} {k : List St → Prop} (h : ad = ad') : adK ad k = adK ad' k:=by rw [h]
abbrev RK:=TM → St → List St → Nat → Prop
def nm4 : List AOper → Bool
 | []=>true
 | o :: l=>!(Nat.beq o.mode 4) && nm4 l
theorem Qmw : ∀ {ops : List AOper},nm4 ops = true → ∀ p ∈ ops,Qi7 p = none
 | [],_,p,hp=>by cases hp
 | o :: l, h, p, hp => by
  simp only [nm4,Bool.and_eq_true] at h
  rcases List.mem_cons.1 hp with rfl | hp
  ·unfold Qi7
   have : Nat.beq p.mode 4 = false:=by simpa using h.1
   rw [this]; rfl
  ·exact Qmw h.2 p hp
theorem Qu3 {ops : List AOper} (h : nm4 ops = true) : preOf ops = []:=by
 unfold preOf
 rw [List.flatMap_eq_nil_iff]
 rintro ⟨o,i⟩ hp
 have hm : o ∈ ops:=by
  have:=List.mem_zipIdx' hp
  exact List.mem_of_getElem? (by rw [List.getElem?_eq_getElem this.1]; exact congrArg some this.2.symm)
 simp only [Qmw h o hm]
def preAp (r : Option (List AOper)) (l : List AOper) : List AOper:=match r with
 | some x=>x.reverse ++ l
 | none=>l
def preAt : List AOper → List AOper → List AOper
 | _,[]=>[]
 | rev,o :: l=>match Qi7 o with
  | some d=>preAp (Qd0 rev [d]) (preAt (o :: rev) l)
  | none=>preAt (o :: rev) l
def markA (r : Option (List AOper)) (o : AOper) : AOper:=match r with
 | some _=>o
 | none=>⟨o.dst,o.op,o.g,0,o.anc⟩
def Qfl : List AOper → List AOper → List AOper
 | _,[]=>[]
 | rev,o :: l=>(match Qi7 o with
  | some d=>markA (Qd0 rev [d]) o
  | none=>o) :: Qfl (o :: rev) l
theorem Qqm : ∀ (l pre : List AOper),((l.zipIdx pre.length).flatMap λp=>match Qi7 p.1 with
 | some d=>((Qd0 ((pre ++ l).take p.2).reverse [d]).getD []).reverse
 | none=>[]) = preAt pre.reverse l
 | [],pre=>rfl
 | o :: l, pre => by
  have ih:=Qqm l (pre ++ [o])
  rw [List.length_append,List.length_singleton,List.append_assoc,List.singleton_append,List.reverse_append,List.reverse_singleton,List.singleton_append] at ih
  rw [List.zipIdx_cons,List.flatMap_cons,ih]
  have e : ((pre ++ o :: l).take pre.length) = pre:=by simp
  simp only [preAt,e]
  cases Qi7 o with
  | none=>rfl
  | some d =>
   show ((Qd0 pre.reverse [d]).getD []).reverse ++ preAt (o :: pre.reverse) l = preAp (Qd0 pre.reverse [d]) (preAt (o :: pre.reverse) l)
   cases Qd0 pre.reverse [d] <;> rfl
theorem preOf_at (ops : List AOper) : preOf ops = preAt [] ops:=Qqm ops []
theorem Qn3 : ∀ (l pre : List AOper),((l.zipIdx pre.length).map λp=>match Qi7 p.1 with
 | some d=>(match Qd0 ((pre ++ l).take p.2).reverse [d] with
  | some _=>p.1
  | none=>{ p.1 with mode:=0 })
 | none=>p.1) = Qfl pre.reverse l
 | [],pre=>rfl
 | o :: l,pre=>by
  have ih:=Qn3 l (pre ++ [o])
  rw [List.length_append,List.length_singleton,List.append_assoc,List.singleton_append,List.reverse_append,List.reverse_singleton,List.singleton_append] at ih
  rw [List.zipIdx_cons,List.map_cons,ih]
  have e : ((pre ++ o :: l).take pre.length) = pre:=by simp
  simp only [Qfl,e]
  congr 1
theorem Qof (ops : List AOper) : Qlu ops = Qfl [] ops:=Qn3 ops []
theorem Qon : ∀ {ops rev : List AOper},nm4 ops = true → Qfl rev ops = ops
 | [],_,_=>rfl
 | o :: l,rev,h=>by
  have h1:=Qmw h o (by simp)
  simp only [nm4,Bool.and_eq_true] at h
  simp only [Qfl,h1,Qon h.2]
theorem draw_p {ops : List AOper} {k : TM → St → Nat → Prop} (h : nm4 ops = true) : drawK pOrc False (CP P) fz ops (tmE nt en) mu n k = apart ops 0 (tmE nt en) mu (ops.map λ_=>[]) λmu ad=>rrun pOrc False (CP P) fz ops 0 (tmE nt en) mu ad n λtm mu ad n=>Qhw ad mu λmu=>k tm mu n:=by
 unfold drawK
 rw [Qu3 h,Qof,Qon h]
 exact nr rfl
theorem draw_4 {ops : List AOper} {k : TM → St → Nat → Prop} (h : nm4 ops = false) : drawK pOrc False (CP P) fz ops (tmE nt en) mu n k = preK pOrc False (CP P) fz (preAt [] ops) (tmE nt en) mu n λtm'=>apart (Qfl [] ops) 0 tm' mu (ops.map λ_=>[]) λmu ad=>rrun pOrc False (CP P) fz ops 0 (tmE nt en) mu ad n λtm mu ad n=>Qhw ad mu λmu=>k tm mu n:=by
 unfold drawK
 rw [preOf_at,Qof]
def inN (a b : Nat) : List (Nat × Nat) → Bool
 | []=>false
 | c :: l=>(a == c.1 && b == c.2) || inN a b l
theorem inN_nil {a b : Nat} : inN a b [] = false:=rfl
theorem inN_cons {a b c d : Nat} {l : List (Nat × Nat)} : inN a b ((c,d) :: l) = ((a == c && b == d) || inN a b l):=rfl
theorem inN_eq {a b : Nat} : ∀ {l : List (Nat × Nat)},l.contains (a,b) = inN a b l
 | []=>rfl
 | (c,d) :: l=>by
  rw [List.contains_cons,inN_eq]; rfl
section
variable {d : Option (Nat × Nat)} {op : AOp} {g : Option (Nat × Nat × Bool)} {anc : List Nat} {ops rev : List AOper} {q r a b m' : Nat} {need : List (Nat × Nat)}
theorem Qtg : preAt rev [] = []:=rfl
theorem Qrn : Qfl rev [] = []:=rfl
theorem preAt_0 : preAt rev (⟨d,op,g,0,anc⟩ :: ops) = preAt (⟨d,op,g,0,anc⟩ :: rev) ops:=nr rfl
theorem preAt_1 : preAt rev (⟨d,op,g,1,anc⟩ :: ops) = preAt (⟨d,op,g,1,anc⟩ :: rev) ops:=nr rfl
theorem preAt_2 : preAt rev (⟨d,op,g,2,anc⟩ :: ops) = preAt (⟨d,op,g,2,anc⟩ :: rev) ops:=nr rfl
theorem preAt_3 : preAt rev (⟨d,op,g,3,anc⟩ :: ops) = preAt (⟨d,op,g,3,anc⟩ :: rev) ops:=nr rfl
theorem markAt_0 : Qfl rev (⟨d,op,g,0,anc⟩ :: ops) = ⟨d,op,g,0,anc⟩ :: Qfl (⟨d,op,g,0,anc⟩ :: rev) ops:=nr rfl
theorem markAt_1 : Qfl rev (⟨d,op,g,1,anc⟩ :: ops) = ⟨d,op,g,1,anc⟩ :: Qfl (⟨d,op,g,1,anc⟩ :: rev) ops:=nr rfl
theorem markAt_2 : Qfl rev (⟨d,op,g,2,anc⟩ :: ops) = ⟨d,op,g,2,anc⟩ :: Qfl (⟨d,op,g,2,anc⟩ :: rev) ops:=nr rfl
theorem markAt_3 : Qfl rev (⟨d,op,g,3,anc⟩ :: ops) = ⟨d,op,g,3,anc⟩ :: Qfl (⟨d,op,g,3,anc⟩ :: rev) ops:=nr rfl
theorem preAt_s {v : Od} : preAt rev (⟨d,.store m' (.t q r) v,g,4,anc⟩ :: ops) = preAp (Qd0 rev [(q,r)]) (preAt (⟨d,.store m' (.t q r) v,g,4,anc⟩ :: rev) ops):=nr rfl
theorem markAt_s {v : Od} : Qfl rev (⟨d,.store m' (.t q r) v,g,4,anc⟩ :: ops) = markA (Qd0 rev [(q,r)]) ⟨d,.store m' (.t q r) v,g,4,anc⟩ :: Qfl (⟨d,.store m' (.t q r) v,g,4,anc⟩ :: rev) ops:=nr rfl
theorem preAt_a {s : Nat} {bo : Nat} {v : Od} : preAt rev (⟨d,.append s bo (.t q r) v,g,4,anc⟩ :: ops) = preAp (Qd0 rev [(q,r)]) (preAt (⟨d,.append s bo (.t q r) v,g,4,anc⟩ :: rev) ops):=nr rfl
theorem markAt_a {s : Nat} {bo : Nat} {v : Od} : Qfl rev (⟨d,.append s bo (.t q r) v,g,4,anc⟩ :: ops) = markA (Qd0 rev [(q,r)]) ⟨d,.append s bo (.t q r) v,g,4,anc⟩ :: Qfl (⟨d,.append s bo (.t q r) v,g,4,anc⟩ :: rev) ops:=nr rfl
theorem Qrp {x l : List AOper} : preAp (some x) l = x.reverse ++ l:=rfl
theorem Qrt {l : List AOper} : preAp none l = l:=rfl
theorem Qr6 {x : List AOper} {o : AOper} : markA (some x) o = o:=rfl
theorem Qsc : markA none ⟨d,op,g,a,anc⟩ = ⟨d,op,g,0,anc⟩:=rfl
theorem pb_nil : Qd0 [] need = some []:=rfl
theorem pb_none : Qd0 (⟨none,op,g,m',anc⟩ :: ops) need = Qd0 ops need:=nr rfl
theorem Qhs : Qd0 (⟨some (a,b),op,g,m',anc⟩ :: ops) need = cond (inN a b need) (match preX op,g with
 | some xs,none=>(Qd0 ops (xs.flatMap odKey ++ need)).map (⟨some (a,b),op,g,m',anc⟩ :: ·)
 | _,_=>none) (Qd0 ops need):=by
 rw [← inN_eq]
 show (if need.contains (a,b) = true then _ else _) = _
 cases need.contains (a,b) <;> rfl
theorem pb_no (h : inN a b need = false) : Qd0 (⟨some (a,b),op,g,m',anc⟩ :: ops) need = Qd0 ops need:=by rw [Qhs,h]; rfl
theorem pb_alloc {zero : List SV} (h : inN a b need = true) : Qd0 (⟨some (a,b),.alloc zero,g,m',anc⟩ :: ops) need = none:=by rw [Qhs,h]; rfl
theorem pb_box {x : Od} (h : inN a b need = true) : Qd0 (⟨some (a,b),.box x,g,m',anc⟩ :: ops) need = none:=by rw [Qhs,h]; rfl
theorem pb_call {f : Od} {xs : List Od} (h : inN a b need = true) : Qd0 (⟨some (a,b),.call f xs,g,m',anc⟩ :: ops) need = none:=by rw [Qhs,h]; rfl
theorem pb_mv {x : Od} (h : inN a b need = true) : Qd0 (⟨some (a,b),.mv x,none,m',anc⟩ :: ops) need = (Qd0 ops (odKey x ++ need)).map (⟨some (a,b),.mv x,none,m',anc⟩ :: ·):=by
 rw [Qhs,h]; show Option.map _ (Qd0 ops (odKey x ++ [] ++ need)) = _; rw [List.append_nil]
theorem pb_load {ag : Bool} {s : Nat} {x : Od} (h : inN a b need = true) : Qd0 (⟨some (a,b),.load ag s x,none,m',anc⟩ :: ops) need = (Qd0 ops (odKey x ++ need)).map (⟨some (a,b),.load ag s x,none,m',anc⟩ :: ·):=by
 rw [Qhs,h]; show Option.map _ (Qd0 ops (odKey x ++ [] ++ need)) = _; rw [List.append_nil]
theorem pb_faddr {s : Nat} {x : Od} (h : inN a b need = true) : Qd0 (⟨some (a,b),.faddr s x,none,m',anc⟩ :: ops) need = (Qd0 ops (odKey x ++ need)).map (⟨some (a,b),.faddr s x,none,m',anc⟩ :: ·):=by
 rw [Qhs,h]; show Option.map _ (Qd0 ops (odKey x ++ [] ++ need)) = _; rw [List.append_nil]
theorem pb_iaddr {s : Nat} {x y : Od} (h : inN a b need = true) : Qd0 (⟨some (a,b),.iaddr s x y,none,m',anc⟩ :: ops) need = (Qd0 ops (odKey x ++ (odKey y ++ need))).map (⟨some (a,b),.iaddr s x y,none,m',anc⟩ :: ·):=by
 rw [Qhs,h]; show Option.map _ (Qd0 ops ((odKey x ++ (odKey y ++ [])) ++ need)) = _; rw [List.append_nil,List.append_assoc]
theorem odKey_t : odKey (.t q r) = [(q,r)]:=rfl
theorem odKey_c {v : AV} : odKey (.c v) = []:=rfl
theorem nm_4 : nm4 (⟨d,op,g,4,anc⟩ :: ops) = false:=nr (by show (!true && nm4 ops) = _; rfl)
end
section
variable {d : Option (Nat × Nat)} {op : AOp} {anc : List Nat} {ops : List AOper} {k : TM → Prop}
theorem pre_nil : preK pOrc False (CP P) fz [] (tmE nt en) mu n k = k (tmE nt en):=nr rfl
theorem pre_0 : preK pOrc False (CP P) fz (⟨d,op,none,0,anc⟩ :: ops) (tmE nt en) mu n k = aop pOrc False (CP P) fz (tmE nt en) mu n false op λv _ _=>Qd7 (tmE nt en) d v λtm=>preK pOrc False (CP P) fz ops tm mu n k:=nr rfl
theorem pre_1 : preK pOrc False (CP P) fz (⟨d,op,none,1,anc⟩ :: ops) (tmE nt en) mu n k = aop pOrc False (CP P) fz (tmE nt en) mu n true op λv _ _=>Qd7 (tmE nt en) d v λtm=>preK pOrc False (CP P) fz ops tm mu n k:=nr rfl
end
def saP (id i : Nat) (mu : St) (ad : List St) (J : St → List St → Prop) : Prop:=Qe7 (.one (.optr id 0)) i mu ad J
theorem sa_off {id off i : Nat} {J : St → List St → Prop} : Qe7 (.one (.optr id off)) i mu ad J = saP id i mu ad J:=nr rfl
theorem sa_slice {id off len cap s i : Nat} {J : St → List St → Prop} : Qe7 (.one (.osl id off len cap s)) i mu ad J = saP id i mu ad J:=nr rfl
theorem sa_nil {i : Nat} {J : St → List St → Prop} : Qe7 (.one .nsl) i mu ad J = J mu ad:=nr rfl
theorem saP_none {id i : Nat} {J : St → List St → Prop} (h : look mu id = none) : saP id i mu ad J = J mu ad:=by
 unfold saP Qe7
 show Option.rec (motive:=λ_=>Prop) (J mu ad) (λcs=>moveK i id mu ad λmu ad=>bufK cs (J mu ad) λg=>moveK i g mu ad J) (look mu id) = _
 rw [h]
theorem Qej {id i : Nat} {J : St → List St → Prop} {cs : List SV} (h : look mu id = some cs) (hb : mkd cs = false) : saP id i mu ad J = J (killS mu id) (ad.set i ((id,cs) :: nth [] ad i)):=by
 unfold saP Qe7
 show Option.rec (motive:=λ_=>Prop) (J mu ad) (λcs=>moveK i id mu ad λmu ad=>bufK cs (J mu ad) λg=>moveK i g mu ad J) (look mu id) = _
 rw [h]
 show moveK i id mu ad (λmu ad=>bufK cs (J mu ad) λg=>moveK i g mu ad J) = _
 unfold moveK
 rw [h]
 show killK mu id (λmu=>setK ad i ((id,cs) :: nth [] ad i) λad=>bufK cs (J mu ad) λg=>moveK i g mu ad J) = _
 rw [Qkg,Qgi]
 cases cs with
 | nil=>rfl
 | cons a l =>
  cases a <;> first
   | rfl
   | (exact absurd hb (by show ¬ (true = false); decide))
section
variable {d : Option (Nat × Nat)} {op : AOp} {g : Option (Nat × Nat × Bool)} {anc : List Nat} {ops : List AOper}
theorem nm_nil : nm4 [] = true:=rfl
theorem nm_0 : nm4 (⟨d,op,g,0,anc⟩ :: ops) = nm4 ops:=nr (by show (!false && nm4 ops) = _; rfl)
theorem nm_1 : nm4 (⟨d,op,g,1,anc⟩ :: ops) = nm4 ops:=nr (by show (!false && nm4 ops) = _; rfl)
theorem nm_2 : nm4 (⟨d,op,g,2,anc⟩ :: ops) = nm4 ops:=nr (by show (!false && nm4 ops) = _; rfl)
theorem nm_3 : nm4 (⟨d,op,g,3,anc⟩ :: ops) = nm4 ops:=nr (by show (!false && nm4 ops) = _; rfl)
end
section
variable {d : Option (Nat × Nat)} {op : AOp} {g : Option (Nat × Nat × Bool)} {anc : List Nat} {ops : List AOper} {i : Nat} {k : St → List St → Prop} {tm : TM}
theorem Qtf : apart [] i tm mu ad k = k mu ad:=nr rfl
theorem apart_0 : apart (⟨d,op,g,0,anc⟩ :: ops) i tm mu ad k = apart ops (i + 1) tm mu ad k:=nr rfl
theorem apart_1 : apart (⟨d,op,g,1,anc⟩ :: ops) i tm mu ad k = apart ops (i + 1) tm mu ad k:=nr rfl
theorem apart_2 : apart (⟨d,op,g,2,anc⟩ :: ops) i tm mu ad k = apart ops (i + 1) tm mu ad k:=nr rfl
theorem apart_4 {m q r : Nat} {v : Od} : apart (⟨d,.store m (.t q r) v,g,4,anc⟩ :: ops) i tm mu ad k = Qe7 (ev tm (.t q r)) i mu ad λmu ad=>apart ops (i + 1) tm mu ad k:=nr rfl
theorem apart_4a {s q r : Nat} {bo : Nat} {v : Od} : apart (⟨d,.append s bo (.t q r) v,g,4,anc⟩ :: ops) i tm mu ad k = Qe7 (ev tm (.t q r)) i mu ad λmu ad=>apart ops (i + 1) tm mu ad k:=nr rfl
theorem apart_3 : apart (⟨d,op,g,3,anc⟩ :: ops) i tm mu ad k = apart ops (i + 1) tm mu ad k:=nr rfl
end
section
variable {d : Option (Nat × Nat)} {op : AOp} {anc : List Nat} {ops : List AOper} {i : Nat} {k : RK}
theorem rr_nil : rrun pOrc False (CP P) fz [] i (tmE nt en) mu ad n k = k (tmE nt en) mu ad n:=nr rfl
theorem rr_0 : rrun pOrc False (CP P) fz (⟨d,op,none,0,anc⟩ :: ops) i (tmE nt en) mu ad n k =
 aop pOrc False (CP P) (λ_=>none) (tmE nt en) [] n false op λv new n=>nilK new (Qd7 (tmE nt en) d v λtm=>rrun pOrc False (CP P) fz ops (i + 1) tm mu ad n k):=nr rfl
theorem rr_1 : rrun pOrc False (CP P) fz (⟨d,op,none,1,anc⟩ :: ops) i (tmE nt en) mu ad n k =
 aop pOrc False (CP P) (with' (adsOf ad anc) (with' mu fz)) (tmE nt en) [] n true op λv new n=>Qd7 (tmE nt en) d v λtm=>adK (ad.set i new) λad=>rrun pOrc False (CP P) fz ops (i + 1) tm mu ad n k:=by
 show aop pOrc False (CP P) (with' (adsOf ad anc) (with' mu fz)) (tmE nt en) [] n true op (λv new n=>Qd7 (tmE nt en) d v λtm=>setK ad i new λad=>rrun pOrc False (CP P) fz ops (i + 1) tm mu ad n k) = _
 congr 1; funext v new n; congr 1; funext tm; rw [Qgi]; rfl
theorem rr_3 : rrun pOrc False (CP P) fz (⟨d,op,none,3,anc⟩ :: ops) i (tmE nt en) mu ad n k =
 aop pOrc False (CP P) (λ_=>none) (tmE nt en) [] n false op λv new n=>Qd7 (tmE nt en) d v λtm=>adK (ad.set i new) λad=>rrun pOrc False (CP P) fz ops (i + 1) tm mu ad n k:=by
 show aop pOrc False (CP P) (λ_=>none) (tmE nt en) [] n false op (λv new n=>Qd7 (tmE nt en) d v λtm=>setK ad i new λad=>rrun pOrc False (CP P) fz ops (i + 1) tm mu ad n k) = _
 congr 1; funext v new n; congr 1; funext tm; rw [Qgi]; rfl
theorem rr_2 : rrun pOrc False (CP P) fz (⟨d,op,none,2,anc⟩ :: ops) i (tmE nt en) mu ad n k =
 adK (Qgl anc ad) λad'=>aop pOrc False (CP P) fz (tmE nt en) (adsOf ad anc ++ mu) n false op λv mu n=>Qd7 (tmE nt en) d v λtm=>rrun pOrc False (CP P) fz ops (i + 1) tm mu ad' n k:=by
 show joinK (adsOf ad anc) mu (λmu=>Qj8 anc ad λad=>aop pOrc False (CP P) fz (tmE nt en) mu n false op λv mu n=>Qd7 (tmE nt en) d v λtm=>rrun pOrc False (CP P) fz ops (i + 1) tm mu ad n k) = _
 rw [Qgu,Qi9]; rfl
theorem rr_4 : rrun pOrc False (CP P) fz (⟨d,op,none,4,anc⟩ :: ops) i (tmE nt en) mu ad n k =
 aop pOrc False (CP P) (λ_=>none) (tmE nt en) (nth [] ad i ++ adsOf ad anc) n false op λv new n=>Qd7 (tmE nt en) d v λtm=>adK (Qgl anc ad) λad=>adK (ad.set i new) λad=>rrun pOrc False (CP P) fz ops (i + 1) tm mu ad n k:=by
 show joinK (nth [] ad i) (adsOf ad anc) (λown=>aop pOrc False (CP P) (λ_=>none) (tmE nt en) own n false op λv new n=>Qd7 (tmE nt en) d v λtm=>Qj8 anc ad λad=>setK ad i new λad=>rrun pOrc False (CP P) fz ops (i + 1) tm mu ad n k) = _
 rw [Qgu]
 congr 1; funext v new n; congr 1; funext tm; rw [Qi9,Qgi]; rfl
variable {q q' : Nat} {b : Bool}
theorem rg_4 : rrun pOrc False (CP P) fz (⟨d,op,some (q,q',b),4,anc⟩ :: ops) i (tmE nt en) mu ad n k = wantP (get (tmE nt en) q q') b (rrun pOrc False (CP P) fz (⟨d,op,none,4,anc⟩ :: ops) i (tmE nt en) mu ad n k) (Qd7 (tmE nt en) d noVal λtm=>rrun pOrc False (CP P) fz ops (i + 1) tm mu ad n k):=nr rfl
theorem rg_0 : rrun pOrc False (CP P) fz (⟨d,op,some (q,q',b),0,anc⟩ :: ops) i (tmE nt en) mu ad n k = wantP (get (tmE nt en) q q') b (rrun pOrc False (CP P) fz (⟨d,op,none,0,anc⟩ :: ops) i (tmE nt en) mu ad n k) (Qd7 (tmE nt en) d noVal λtm=>rrun pOrc False (CP P) fz ops (i + 1) tm mu ad n k):=nr rfl
theorem rg_1 : rrun pOrc False (CP P) fz (⟨d,op,some (q,q',b),1,anc⟩ :: ops) i (tmE nt en) mu ad n k = wantP (get (tmE nt en) q q') b (rrun pOrc False (CP P) fz (⟨d,op,none,1,anc⟩ :: ops) i (tmE nt en) mu ad n k) (Qd7 (tmE nt en) d noVal λtm=>rrun pOrc False (CP P) fz ops (i + 1) tm mu ad n k):=nr rfl
theorem rg_2 : rrun pOrc False (CP P) fz (⟨d,op,some (q,q',b),2,anc⟩ :: ops) i (tmE nt en) mu ad n k = wantP (get (tmE nt en) q q') b (rrun pOrc False (CP P) fz (⟨d,op,none,2,anc⟩ :: ops) i (tmE nt en) mu ad n k) (Qd7 (tmE nt en) d noVal λtm=>rrun pOrc False (CP P) fz ops (i + 1) tm mu ad n k):=nr rfl
theorem rg_3 : rrun pOrc False (CP P) fz (⟨d,op,some (q,q',b),3,anc⟩ :: ops) i (tmE nt en) mu ad n k = wantP (get (tmE nt en) q q') b (rrun pOrc False (CP P) fz (⟨d,op,none,3,anc⟩ :: ops) i (tmE nt en) mu ad n k) (Qd7 (tmE nt en) d noVal λtm=>rrun pOrc False (CP P) fz ops (i + 1) tm mu ad n k):=nr rfl
theorem adK_nil {k : List St → Prop} : adK [] k = k []:=nr rfl
theorem adK_cons {a : St} {l : List St} {k : List St → Prop} : adK (a :: l) k = k (a :: l):=nr rfl
theorem Qrh : Qgl [] ad = ad:=nr rfl
theorem Qps {l : List Nat} : Qgl (i :: l) ad = Qgl l (ad.set i []):=nr rfl
theorem join_nil {k : St → Prop} : Qhw [] mu k = k mu:=nr rfl
theorem join_cons {s : St} {l : List St} {k : St → Prop} : Qhw (s :: l) mu k = Qhw l (s ++ mu) k:=Qgu _ _ _
end
end
end Go.Ev
namespace Go.Ev
def Free (fz : Fz) (mu : St) (n : Nat) : Prop:=∀ j,with' mu fz (n + j) = none
structure Gr (lo : Nat) (fz : Fz) (mu mu' : St) (n n' : Nat) : Prop where
 le : n ≤ n'
 ext : ∀ id,id < lo → with' mu' fz id = with' mu fz id
 own : ∀ id,id < lo → look mu' id = look mu id
 free : Free fz mu' n'
section
variable {fz : Fz} {mu mu' mu'' : St} {n n' n'' lo : Nat}
theorem Free.none (h : Free fz mu n) {id : Nat} (hi : n ≤ id) : with' mu fz id = none:=by
 have:=h (id - n); rwa [show n + (id - n) = id by omega] at this
theorem Free.lt (h : Free fz mu n) {id : Nat} {B : List SV} (hi : with' mu fz id = some B) : id < n:=by
 rcases Nat.lt_or_ge id n with h1 | h1
 ·exact h1
 ·rw [h.none h1] at hi; cases hi
theorem Qdl {id : Nat} {B : List SV} (h : look mu id = some B) : with' mu fz id = some B:=by rw [Qd6,h]
theorem Free.cons (h : Free fz mu n) (cs : List SV) : Free fz ((n,cs) :: mu) (n + 1):=λj=>by
 rw [Qed,if_neg (by omega)]; exact h.none (by omega)
theorem Gr.refl (h : Free fz mu n) : Gr lo fz mu mu n n:=⟨Nat.le_refl _,λ_ _=>rfl,λ_ _=>rfl,h⟩
theorem Gr.trans (h : Gr lo fz mu mu' n n') (k : Gr lo fz mu' mu'' n' n'') : Gr lo fz mu mu'' n n'' :=
 ⟨Nat.le_trans h.le k.le,λid hi=>(k.ext id hi).trans (h.ext id hi),λid hi=>(k.own id hi).trans (h.own id hi),k.free⟩
theorem Gr.weaken {lo' : Nat} (h : Gr lo fz mu mu' n n') (hl : lo' ≤ lo) : Gr lo' fz mu mu' n n' :=
 ⟨h.le,λid hi=>h.ext id (by omega),λid hi=>h.own id (by omega),h.free⟩
theorem Gr.cons (h : Gr lo fz mu mu' n n') (hl : lo ≤ n') (cs : List SV) : Gr lo fz mu ((n',cs) :: mu') n (n' + 1) :=
 ⟨by have:=h.le; omega,λid hi=>by rw [Qed,if_neg (by omega)]; exact h.ext id hi,λid hi=>by rw [Qdw,if_neg (by omega)]; exact h.own id hi,h.free.cons cs⟩
theorem Gr.old (h : Gr n fz mu mu' n n') (hf : Free fz mu n) {id : Nat} {B : List SV} (hi : with' mu fz id = some B) : with' mu' fz id = some B:=(h.ext id (hf.lt hi)).trans hi
theorem Qf0 (new mu : St) (fz : Fz) : with' (new ++ mu) fz = with' new (with' mu fz):=by
 funext id
 rw [Qd6,Qd2,Qd6,Qd6]
 cases look new id <;> rfl
theorem Gr.join {new : St} (hf : Free fz mu n) (hl : lo ≤ n) (h : Gr n (with' mu fz) [] new n n') : Gr lo fz mu (new ++ mu) n n':=by
 refine ⟨h.le,λid hi=>?_,λid hi=>?_,λj=>?_⟩
 ·rw [Qf0]; exact h.ext id (by omega)
 ·rw [Qd2]
  have:=h.own id (by omega)
  rw [show look [] id = none from rfl] at this
  rw [this]
 ·rw [Qf0]; exact h.free j
theorem Gr.apart {mu1 new : St} {n1 n2 : Nat} (g1 : Gr lo fz mu mu1 n n1) (hf : Free fz mu n) (hl : n ≤ n1) (g2 : Gr n1 (with' mu fz) [] new n1 n2) {id : Nat} {B : List SV} (h : with' new (with' mu fz) id = some B) (hg : Gr n fz mu mu1 n n1) : with' (new ++ mu1) fz id = some B:=by
 rw [Qd6] at h
 rw [Qd6,Qd2]
 cases e : look new id with
 | some c=>rw [e] at h; exact h
 | none =>
  rw [e] at h
  have:=hg.old hf h
  rw [Qd6] at this; exact this
end
def Ctr (P : Program) (f : Nat) (args : List AV) (pre : Fz → Prop) (post : Nat → Nat → Fz → AV → Prop) : Prop :=
 ∀ fz mu n k,Free fz mu n → pre (with' mu fz) → (∀ v mu' n',Gr n fz mu mu' n n' → post n n' (with' mu' fz) v → k v mu' n') → CP P f args fz mu n k
section
variable {P : Program} {f : Nat} {args : List AV} {pre : Fz → Prop} {post : Nat → Nat → Fz → AV → Prop} {fz : Fz} {mu : St} {n : Nat} {k : KT Prop}
theorem Ctr.c0 (h : Ctr P f args pre post) {w : WK k} (hf : Free fz mu n) (hp : pre (with' mu fz)) (hk : ∀ v mu' n',Gr n fz mu mu' n n' → post n n' (with' mu' fz) v → k v mu' n') : CPh P f args fz mu n k w:=h fz mu n k hf hp hk
theorem Ctr.c1 (h : Ctr P f args pre post) {w : WK k} (hf : Free fz mu n) (hp : pre (with' mu fz)) (hk : ∀ v mu' n',Gr n fz mu mu' n n' → post n n' (with' mu' fz) v → k v mu' n') : CPr P f args fz mu n k w :=
 h (with' mu fz) [] n _ (λj=>hf j) hp λv new n' hg hpost=>hk v _ n' (hg.join hf (Nat.le_refl _)) (by rw [Qf0]; exact hpost)
theorem Ctr.c2 (h : Ctr P f args pre post) {cs : List SV} {w : WK k} (hf : Free fz mu n) (hp : (∀ id B,with' mu fz id = some B → with' ((n,cs) :: mu) fz id = some B) → pre (with' ((n,cs) :: mu) fz))
 (hk : ∀ v mu' n',Gr n fz mu mu' n n' → with' mu' fz n = some cs → post (n + 1) n' (with' mu' fz) v → k v mu' n') : CPr P f args fz ((n,cs) :: mu) (n + 1) k w:=by
 have g0:=(Gr.refl (lo:=n) hf).cons (Nat.le_refl _) cs
 refine h.c1 (hf.cons cs) (hp λid B hh=>g0.old hf hh) λv mu' n' g hpost=>hk v mu' n' (g0.trans (g.weaken (Nat.le_succ _))) ?_ hpost
 rw [g.ext n (Nat.lt_succ_self _),Qed,if_pos rfl]
theorem Ctr.c3 (h : Ctr P f args pre post) {cs cs' : List SV} {w : WK k} (hf : Free fz mu n) (hp : (∀ id B,with' mu fz id = some B → with' ((n + 1,cs') :: (n,cs) :: mu) fz id = some B) → pre (with' ((n + 1,cs') :: (n,cs) :: mu) fz))
 (hk : ∀ v mu' n',Gr n fz mu mu' n n' → with' mu' fz n = some cs → with' mu' fz (n + 1) = some cs' → post (n + 1 + 1) n' (with' mu' fz) v → k v mu' n') : CPr P f args fz ((n + 1,cs') :: (n,cs) :: mu) (n + 1 + 1) k w:=by
 have g0:=(Gr.refl (lo:=n) hf).cons (Nat.le_refl _) cs
 refine h.c2 (hf.cons cs) (λhm=>hp λid B hh=>hm id B (g0.old hf hh)) λv mu' n' g hb hpost=>hk v mu' n' (g0.trans (g.weaken (Nat.le_succ _))) ?_ hb hpost
 rw [g.ext n (Nat.lt_succ_self _),Qed,if_pos rfl]
theorem Ctr.d1 (h : Ctr P f args pre post) {w : WK k} (hf : Free fz mu n) (hp : pre (with' mu fz)) (hk : ∀ v new n',Gr n (with' mu fz) [] new n n' → post n n' (with' new (with' mu fz)) v → k v new n') : CPr P f args (with' mu fz) [] n k w :=
 h (with' [] (with' mu fz)) [] n _ (fun j => hf j) hp fun v new n' hg hpost => by
   show k v (new ++ []) n'
   rw [List.append_nil]; exact hk v new n' hg hpost
theorem Ctr.d2 (h : Ctr P f args pre post) {w : WK k} (hf : Free fz mu n) (hp : pre (with' mu fz)) (hk : ∀ v new n',Gr n fz mu (new ++ mu) n n' → post n n' (with' (new ++ mu) fz) v → k v new n') : CPr P f args (with' mu fz) [] n k w :=
 h.d1 hf hp λv new n' hg hpost=>hk v new n' (hg.join hf (Nat.le_refl _)) (by rw [Qf0]; exact hpost)
theorem Ctr.d3 (h : Ctr P f args pre post) {cs : List SV} {w : WK k} (hf : Free fz mu n) (hp : (∀ id B,with' mu fz id = some B → with' ((n,cs) :: mu) fz id = some B) → pre (with' ((n,cs) :: mu) fz))
 (hk : ∀ v new n',Gr n fz mu (new ++ ((n,cs) :: mu)) n n' → with' (new ++ ((n,cs) :: mu)) fz n = some cs → post (n + 1) n' (with' (new ++ ((n,cs) :: mu)) fz) v → k v new n') : CPr P f args (with' ((n,cs) :: mu) fz) [] (n + 1) k w:=by
 have g0:=(Gr.refl (lo:=n) hf).cons (Nat.le_refl _) cs
 refine h.d2 (hf.cons cs) (hp λid B hh=>g0.old hf hh) λv new n' g hpost=>hk v new n' (g0.trans (g.weaken (Nat.le_succ _))) ?_ hpost
 rw [g.ext n (Nat.lt_succ_self _),Qed,if_pos rfl]
theorem CPr_f {w : WK k} (h : CPr P f args fz mu n k w) : CPr P f args fz mu n k w:=h
theorem with_two {a b : St} {f : Fz} : with' a (with' b f) = with' (a ++ b) f:=(Qf0 a b f).symm
theorem Ctr.of (hmx : P.follows .mixedOrders = true) {af : AFunc} (hf : FOk P f af) (fu : Fz → Nat) (h : ∀ fz mu n k,Free fz mu n → pre (with' mu fz) → (∀ v mu' n',Gr n fz mu mu' n n' → post n n' (with' mu' fz) v → k v mu' n') → textP P (fu (with' mu fz)) af args fz mu n k) : Ctr P f args pre post :=
 λfz mu n k h1 h2 h3=>CP_of hf hmx (fu (with' mu fz)) (h fz mu n k h1 h2 h3)
end
theorem Qiu {mu : St} {n : Nat} {cs : List SV} : look ((n,cs) :: mu) n = some cs:=by rw [Qdw,if_pos rfl]
def Sl (M : Fz) (s : Nat) (x : SV) (es : List (List SV)) : Prop :=
 (x = .nsl ∨ x = .esl ∨ x = .zsl) ∧ es = [] ∨
 ∃ id off cap B,x = .osl id off es.length cap s ∧ es.length ≤ cap ∧ M id = some B ∧ mkd B = false ∧ off + es.length * s ≤ B.length ∧ (B.drop off).take (es.length * s) = es.flatten ∧ ∀ e ∈ es,e.length = s ∧ Qdo e = true
theorem Sl.mono {M M' : Fz} {s : Nat} {x : SV} {es : List (List SV)} (h : Sl M s x es) (hm : ∀ id B,M id = some B → M' id = some B) : Sl M' s x es:=by
 rcases h with h | ⟨id,off,cap,B,h1,h2,h3,h4⟩
 ·exact .inl h
 ·exact .inr ⟨id,off,cap,B,h1,h2,hm id B h3,h4⟩
theorem Qub {s : Nat} : ∀ {es : List (List SV)} {i : Nat} {e : List SV},(∀ e ∈ es,e.length = s) → es[i]? = some e → (es.flatten.drop (i * s)).take s = e
 | [],i,e,_,h=>by simp at h
 | a :: es,0,e,hl,h=>by
  simp at h; subst h
  have:=hl a (by simp)
  simp [← this]
 | a :: es,i + 1,e,hl,h=>by
  have ha:=hl a (by simp)
  have:=Qub (es:=es) (i:=i) (e:=e) (λe he=>hl e (by simp [he])) (by simpa using h)
  rw [show (i + 1) * s = a.length + i * s by rw [ha,Nat.add_mul]; omega,List.flatten_cons,List.drop_append,List.drop_eq_nil_of_le (by omega),List.nil_append,show a.length + i * s - a.length = i * s by omega]
  exact this
theorem Qen {s : Nat} : ∀ {es : List (List SV)},(∀ e ∈ es,e.length = s) → es.flatten.length = es.length * s
 | [],_=>by simp
 | a :: es,hl=>by
  have ha:=hl a (by simp)
  have:=Qen (es:=es) λe he=>hl e (by simp [he])
  simp only [List.flatten_cons,List.length_append,this,ha,List.length_cons,Nat.add_mul]; omega
theorem Sl.at {M : Fz} {s id off len cap s' : Nat} {es : List (List SV)} (h : Sl M s (.osl id off len cap s') es) {i : Nat} (hi : i < es.length) : len = es.length ∧ s' = s ∧ ∃ B,M id = some B ∧ mkd B = false ∧ off + i * s + s ≤ B.length ∧ (B.drop (off + i * s)).take s = es[i]:=by
 rcases h with ⟨h,he⟩ | ⟨id',off',cap',B,h1,h2,h3,h4,h5,h6,h7⟩
 ·subst he; simp at hi
 ·cases h1
  have hle : i * s + s ≤ es.length * s:=by rw [← Nat.succ_mul]; exact Nat.mul_le_mul_right _ hi
  refine ⟨rfl,rfl,B,h3,h4,by omega,?_⟩
  have:=Qub (i:=i) (λe he=>(h7 e he).1) (List.getElem?_eq_getElem hi)
  rw [← h6,List.drop_take,List.take_take,List.drop_drop] at this
  rw [← this,Nat.min_eq_left (by omega)]
theorem Sl.elem {M : Fz} {s : Nat} {x : SV} {es : List (List SV)} (h : Sl M s x es) {i : Nat} (hi : i < es.length) : ∃ id off cap B,x = .osl id off es.length cap s ∧ M id = some B ∧ mkd B = false ∧ off + i * s + s ≤ B.length ∧ (B.drop (off + i * s)).take s = es[i]:=by
 rcases h with ⟨_,he⟩ | ⟨id,off,cap,B,h1,h2,h3,h4,h5,h6,h7⟩
 ·subst he; simp at hi
 ·subst h1
  obtain ⟨_,_,B',g1,g2,g3,g4⟩:=Sl.at (M:=M) (s:=s) (id:=id) (off:=off) (len:=es.length) (cap:=cap) (s':=s) (es:=es) (.inr ⟨id,off,cap,B,rfl,h2,h3,h4,h5,h6,h7⟩) hi
  exact ⟨id,off,cap,B',rfl,g1,g2,g3,g4⟩
theorem Sl.len {M : Fz} {s : Nat} {x : SV} {es : List (List SV)} (h : Sl M s x es) {k : Nat → Prop} : onLen x k = k es.length ∧ x.isStr = false:=by
 rcases h with ⟨rfl | rfl | rfl,rfl⟩ | ⟨id,off,cap,B,rfl,_⟩ <;> exact ⟨rfl,rfl⟩
theorem Sl.known {M : Fz} {s : Nat} {x : SV} {es : List (List SV)} (h : Sl M s x es) : x.known = true ∧ x.isMk = false:=by
 rcases h with ⟨rfl | rfl | rfl,rfl⟩ | ⟨id,off,cap,B,rfl,_⟩ <;> exact ⟨rfl,rfl⟩
theorem All2.at {α β : Type} {R : α → β → Prop} {x : List α} {y : List β} (h : All2 R x y) {i : Nat} (h1 : i < x.length) (h2 : i < y.length) : R x[i] y[i]:=by
 obtain ⟨b,e,r⟩:=h.get (List.getElem?_eq_getElem h1)
 rw [List.getElem?_eq_getElem h2] at e; cases e; exact r
end Go.Ev
namespace Go.Ev
set_option maxRecDepth 100000
set_option linter.defProp false
def E1:=(And.intro @dc_skip (And.intro @dc_reg (And.intro @dc_draw (And.intro @dc_seq (And.intro @dc_cond (And.intro @dc_blk (And.intro @dc_loop (And.intro @dc_exit (And.intro @dc_ret (And.intro @onw_n (And.intro @onw_x (And.intro @onw_r (And.intro @inB_n (And.intro @inB_same (And.intro @inB_x (And.intro @inB_r (And.intro @endP_n (And.intro @endP_r (And.intro @run_nil (And.intro @run_c0 (And.intro @run_c1 (And.intro @run_c2 (And.intro @run_c3 (And.intro @run_c4 (And.intro @run_g0 (And.intro @run_g1 (And.intro @run_g2 (And.intro @run_g3 (And.intro @run_g4 (And.intro @mvK_one (And.intro @mvK_ag (And.intro @mvK_tp (And.intro @mvK_no (And.intro @Br_true (And.intro @Br_false (And.intro @Qks (And.intro @Qli (And.intro @onOne_p (And.intro @onAg_p (And.intro @onTp_p (And.intro @Qqf (And.intro @Qrf (And.intro @onInt_p (And.intro @onBool_p (And.intro @onStr_p (And.intro @onPtr_p (And.intro @onSl_p (And.intro @onFn_p (And.intro @Qsx (And.intro @wantP_tf (And.intro @wantP_ft (And.intro @Qr8 (And.intro @Qp8 (And.intro @asRes_ag (And.intro @Qtu (And.intro @Qj7 (And.intro @killS_c (And.intro @ev_c (And.intro @Qtq (And.intro @setDst_t (And.intro @fT_int (And.intro @forceK_t (And.intro @forceK_c (And.intro @forceO_n (And.intro @forceO_s (And.intro @a_mv (And.intro @a_pick (And.intro @a_alloc (And.intro @a_box (And.intro @fill_nil (And.intro @Qte (And.intro @a_build (And.intro @a_bslice (And.intro @a_load (And.intro @a_store (And.intro @a_bin (And.intro @a_sbin (And.intro @a_eqb (And.intro @a_eqn (And.intro @a_eqs (And.intro @a_not (And.intro @a_neg (And.intro @a_conv (And.intro @Qtn (And.intro @Qr1 (And.intro @a_mkfn (And.intro @a_mkslice (And.intro @a_slc (And.intro @a_faddr (And.intro @a_fld (And.intro @a_iaddr (And.intro @a_iaddrA (And.intro @a_idx (And.intro @nthK_0 (And.intro @nthK_s (And.intro @onCV_one (And.intro @onCV_ag (And.intro @a_extr (And.intro @Qtv (And.intro @Qur (And.intro @Qux (And.intro @Qu8 (And.intro @Qt9 (And.intro @a_len (And.intro @a_max (And.intro @a_min (And.intro @maxK_nil (And.intro @minK_nil (And.intro @maxK_int (And.intro @minK_int (And.intro @a_call0 (And.intro @a_call1 (And.intro @Qvh (And.intro @Qst (And.intro @Qu5 (And.intro @Qn1 (And.intro @Qsk (And.intro @a_append (And.intro @Qrk (And.intro @Qr2 (And.intro @Qlz (And.intro @a_copy (And.intro @res_nil (And.intro @res_one (And.intro @res_more (And.intro @Qsb (And.intro @Qp7 (And.intro @onTo_one (And.intro @onTo_ag (And.intro @resVal_t (And.intro @resVal_c (And.intro @b_add (And.intro @b_sub (And.intro @b_mul (And.intro @b_quo (And.intro @b_rem (And.intro @b_eql (And.intro @b_neq (And.intro @b_lss (And.intro @b_leq (And.intro @b_gtr (And.intro @b_geq (And.intro @s_eql (And.intro @s_neq (And.intro @nilK_nil (And.intro @draw_p (And.intro @nm_nil (And.intro @nm_0 (And.intro @nm_1 (And.intro @nm_2 (And.intro @nm_3 (And.intro @Qtf (And.intro @apart_0 (And.intro @apart_1 (And.intro @apart_2 (And.intro @apart_3 (And.intro @rr_nil (And.intro @rr_0 (And.intro @rr_1 (And.intro @rr_2 (And.intro @rr_3 (And.intro @rg_0 (And.intro @rg_1 (And.intro @rg_2 (And.intro @rg_3 (And.intro @adK_nil (And.intro @adK_cons (And.intro @join_nil (And.intro @join_cons (And.intro @onNil_p (And.intro @onNil_f (And.intro @a_nilc (And.intro @preAt_0 (And.intro @preAt_1 (And.intro @preAt_2 (And.intro @preAt_3 (And.intro @preAt_s (And.intro @preAt_a (And.intro @markAt_0 (And.intro @markAt_1 (And.intro @markAt_2 (And.intro @markAt_3 (And.intro @markAt_s (And.intro @markAt_a (And.intro @draw_4 (And.intro @pre_nil (And.intro @pre_0 (And.intro @pre_1 (And.intro @apart_4 (And.intro @apart_4a (And.intro @rr_4 (And.intro @rg_4 @a_shr))))))))))))))))))))))))))))))))))))))))))))))))))))))))))))))))))))))))))))))))))))))))))))))))))))))))))))))))))))))))))))))))))))))))))))))))))))))))))))))))))))))))))))))))))))))))))))))))
def E2:=(And.intro @wantP_br (And.intro @beq_t (And.intro @beq_f (And.intro @Br_not (And.intro @Qdw (And.intro @Qed (And.intro @with_nil (And.intro @with_two (And.intro @ev_t (And.intro @get_p (And.intro @Quq (And.intro @updE_r (And.intro @updE_q (And.intro @env_0 (And.intro @env_1 (And.intro @env_2 (And.intro @env_3 (And.intro @env_4 (And.intro @Qtp (And.intro @Qsa (And.intro @Qs3 (And.intro @Qut (And.intro @Qty (And.intro @Qt4 (And.intro @Qry (And.intro @Qu6 (And.intro @Quu (And.intro @Qvf (And.intro @known_fn (And.intro @Qjx (And.intro @Qe8 (And.intro @mkd_nil (And.intro @mkd_cons (And.intro @mk_int (And.intro @mk_bool (And.intro @mk_str (And.intro @mk_nsl (And.intro @mk_npt (And.intro @mk_nfn (And.intro @mk_optr (And.intro @mk_osl (And.intro @mk_esl (And.intro @mk_zsl (And.intro @mk_fn (And.intro @Qsl (And.intro @Quc (And.intro @Qs6 (And.intro @Qvc (And.intro @Qs9 (And.intro @Qp5 (And.intro @Qob (And.intro @eqb_same (And.intro @ne_eq.{1} (And.intro @not_false_eq_true (And.intro @not_true_eq_false (And.intro @Bool.not_true (And.intro @Bool.not_false (And.intro @Bool.and_true (And.intro @Bool.true_and (And.intro @Bool.and_false (And.intro @Bool.false_and (And.intro @Bool.or_true (And.intro @Bool.true_or (And.intro @Bool.or_false (And.intro @Bool.false_or (And.intro @Bool.bne_true (And.intro @Bool.bne_false (And.intro @decide_true (And.intro @decide_false (And.intro @bne_self_eq_false.{0} (And.intro @List.length_cons.{0} (And.intro @List.length_nil.{0} (And.intro @Nat.zero_add (And.intro @List.drop_zero.{0} (And.intro @List.drop_succ_cons.{0} (And.intro @List.take_succ_cons.{0} (And.intro @List.take_zero.{0} (And.intro @List.map_cons.{0,0} (And.intro @List.map_nil.{0,0} (And.intro @List.append_nil.{0} (And.intro @List.nil_append.{0} (And.intro @List.cons_append.{0} (And.intro @if_true.{1} (And.intro @if_true.{0} (And.intro @if_false.{1} (And.intro @if_false.{0} (And.intro @Nat.blt_eq (And.intro @Qt3 (And.intro @cast_neg (And.intro @cast_lt (And.intro @cast_le (And.intro @castN_eq (And.intro @cast_of (And.intro @cast_nat (And.intro @blt_p (And.intro @and_p (And.intro @bool_tt (And.intro @bool_ft (And.intro @bool_tf (And.intro @bool_ff (And.intro @Qfv (And.intro @Qhm (And.intro @true_and (And.intro @and_true (And.intro @false_and (And.intro @and_false (And.intro @bx1 (And.intro @bx2 (And.intro @bx3 (And.intro @bx4 (And.intro @bx5 (And.intro @bx6 (And.intro @over_0 (And.intro @over_n (And.intro @over_s (And.intro @rep_0 (And.intro @rep_s (And.intro @cast_lit (And.intro @ads_nil (And.intro @ads_cons (And.intro @ath_0 (And.intro @ath_s (And.intro @ast_0 (And.intro @ast_s (And.intro @Qrh (And.intro @Qps (And.intro @nil_nsl (And.intro @nil_osl (And.intro @nil_esl (And.intro @nil_zsl (And.intro @nil_npt (And.intro @nil_ptr (And.intro @wrap64 (And.intro @inN_nil (And.intro @inN_cons (And.intro @Qtg (And.intro @Qrn (And.intro @Qrp (And.intro @Qrt (And.intro @Qr6 (And.intro @Qsc (And.intro @pb_nil (And.intro @pb_none (And.intro @pb_no (And.intro @pb_alloc (And.intro @pb_box (And.intro @pb_call (And.intro @pb_mv (And.intro @pb_load (And.intro @pb_faddr (And.intro @pb_iaddr (And.intro @odKey_t (And.intro @odKey_c (And.intro @nm_4 (And.intro @sa_off (And.intro @sa_slice (And.intro @sa_nil (And.intro @saP_none (And.intro @List.reverse_cons.{0} @List.reverse_nil.{0})))))))))))))))))))))))))))))))))))))))))))))))))))))))))))))))))))))))))))))))))))))))))))))))))))))))))))))))))))))))))))))))))))))))))))))))))))))))))))))))
end Go.Ev
namespace Go.Ev
abbrev Env:=Nat → Nat → AV
abbrev LK:=AExit → TM → St → Nat → Prop
theorem scan {D : TM → St → Nat → LK → Prop} {nt q r L x : Nat} {fz : Fz} {p : Nat → Bool} (Inv : Env → St → Nat → Prop) (Rt : Env → Prop) (hfree : ∀ e mu n,Inv e mu n → Free fz mu n)
 (step : ∀ i e mu n (K : LK),i < L → Inv e mu n → e q r = .one (.int .i64 i) → (p i = true → ∀ e' mu' n',Gr n fz mu mu' n n' → Inv e' mu' n' → e' q r = .one (.int .i64 ((i + 1 : Nat) : Int)) → K .normal (tmE nt e') mu' n') →
  (p i = false → ∀ e' mu' n',Gr n fz mu mu' n n' → Rt e' → K .ret (tmE nt e') mu' n') → D (tmE nt e) mu n K)
 (stop : ∀ e mu n (K : LK),Inv e mu n → e q r = .one (.int .i64 L) → (∀ e' mu' n',Gr n fz mu mu' n n' → Inv e' mu' n' → K (.exit x) (tmE nt e') mu' n') → D (tmE nt e) mu n K) :
 ∀ (m i fu : Nat) (e : Env) (mu : St) (n : Nat) (K : LK) (w), m = L - i → m < fu → i ≤ L → Inv e mu n → e q r = .one (.int .i64 i) →
   ((∀ j,i ≤ j → j < L → p j = true) → ∀ e' mu' n',Gr n fz mu mu' n n' → Inv e' mu' n' → K (.exit x) (tmE nt e') mu' n') →
   ((∃ j,i ≤ j ∧ j < L ∧ p j = false) → ∀ e' mu' n',Gr n fz mu mu' n n' → Rt e' → K .ret (tmE nt e') mu' n') → Lp D fu (tmE nt e) mu n K w:=by
 intro m
 induction m with
 | zero =>
  intro i fu e mu n K w hm hfu hi hI hc hd hr
  obtain ⟨fu,rfl⟩ : ∃ f,fu = f + 1:=⟨fu - 1,by omega⟩
  rw [Qim]
  have : i = L:=by omega
  subst this
  exact stop e mu n _ hI hc λe' mu' n' g hI'=>hd (λj h1 h2=>by omega) e' mu' n' g hI'
 | succ m ih =>
  intro i fu e mu n K w hm hfu hi hI hc hd hr
  obtain ⟨fu,rfl⟩ : ∃ f,fu = f + 1:=⟨fu - 1,by omega⟩
  rw [Qim]
  refine step i e mu n _ (by omega) hI hc (λhp e' mu' n' g hI' hc'=>?_) (λhp e' mu' n' g hR=>hr ⟨i,Nat.le_refl _,by omega,hp⟩ e' mu' n' g hR)
  refine ih (i + 1) fu e' mu' n' K .mk (by omega) (by omega) (by omega) hI' hc' (λha e2 mu2 n2 g2 hI2=>?_) (λhx e2 mu2 n2 g2 hR=>?_)
  ·exact hd (λj h1 h2=>by rcases Nat.eq_or_lt_of_le h1 with rfl | h; exact hp; exact ha j h h2) e2 mu2 n2 (g.trans (g2.weaken g.le)) hI2
  ·obtain ⟨j,j1,j2,j3⟩:=hx
   exact hr ⟨j,by omega,j2,j3⟩ e2 mu2 n2 (g.trans (g2.weaken g.le)) hR
theorem Lp_at {D : TM → St → Nat → LK → Prop} {fu : Nat} {tm : TM} {mu : St} {n : Nat} {K : LK} {w} (h : Lp D fu tm mu n K w) : Lp D fu tm mu n K w:=h
structure Hide (p : Prop) : Prop where
 out : p
theorem loopI {D : TM → St → Nat → LK → Prop} {nt L x fu : Nat} {p : Nat → Bool} (Inv : Nat → Env → St → Nat → Prop) (Rt : Env → St → Nat → Prop)
 (step : ∀ i e mu n (K : LK),i < L → Inv i e mu n → (p i = true → ∀ e' mu' n',Inv (i + 1) e' mu' n' → K .normal (tmE nt e') mu' n') → (p i = false → ∀ e' mu' n',Rt e' mu' n' → K .ret (tmE nt e') mu' n') → D (tmE nt e) mu n K)
 (stop : ∀ e mu n (K : LK),Inv L e mu n → (∀ e' mu' n',Inv L e' mu' n' → K (.exit x) (tmE nt e') mu' n') → D (tmE nt e) mu n K)
 (e : Env) (mu : St) (n : Nat) (K : LK) (w) (hfu : L < fu) (hI : Inv 0 e mu n)
 (hd : (∀ j,0 ≤ j → j < L → p j = true) → ∀ e' mu' n',Inv L e' mu' n' → K (.exit x) (tmE nt e') mu' n')
 (hr : (∃ j,0 ≤ j ∧ j < L ∧ p j = false) → ∀ e' mu' n',Rt e' mu' n' → K .ret (tmE nt e') mu' n') : Lp D fu (tmE nt e) mu n K w:=by
 suffices h : ∀ (m i fu : Nat) (e : Env) (mu : St) (n : Nat) (K : LK) (w),m = L - i → m < fu → i ≤ L → Inv i e mu n → ((∀ j,i ≤ j → j < L → p j = true) → ∀ e' mu' n',Inv L e' mu' n' → K (.exit x) (tmE nt e') mu' n') →
  ((∃ j,i ≤ j ∧ j < L ∧ p j = false) → ∀ e' mu' n',Rt e' mu' n' → K .ret (tmE nt e') mu' n') → Lp D fu (tmE nt e) mu n K w from
  h L 0 fu e mu n K w rfl hfu (Nat.zero_le _) hI hd hr
 intro m
 induction m with
 | zero =>
  intro i fu e mu n K w hm hfu hi hI hd hr
  obtain ⟨fu,rfl⟩ : ∃ f,fu = f + 1:=⟨fu - 1,by omega⟩
  rw [Qim]
  have : i = L:=by omega
  subst this
  exact stop e mu n _ hI λe' mu' n' hI'=>hd (λj h1 h2=>by omega) e' mu' n' hI'
 | succ m ih =>
  intro i fu e mu n K w hm hfu hi hI hd hr
  obtain ⟨fu,rfl⟩ : ∃ f,fu = f + 1:=⟨fu - 1,by omega⟩
  rw [Qim]
  refine step i e mu n _ (by omega) hI (λhp e' mu' n' hI'=>?_) (λhp e' mu' n' hR=>hr ⟨i,Nat.le_refl _,by omega,hp⟩ e' mu' n' hR)
  refine ih (i + 1) fu e' mu' n' K .mk (by omega) (by omega) (by omega) hI' (λha=>hd λj h1 h2=>?_) (λhx=>hr ?_)
  ·rcases Nat.eq_or_lt_of_le h1 with rfl | h
   ·exact hp
   ·exact ha j h h2
  ·obtain ⟨j,j1,j2,j3⟩:=hx
   exact ⟨j,by omega,j2,j3⟩
theorem Qds {mu : St} {fz : Fz} {id j : Nat} {c d : List SV} (h : look mu id = some d) : with' (putS mu id c) fz j = if id = j then some c else with' mu fz j:=by
 rw [Qd6,Qdm,Qd6]
 by_cases e : id = j
 ·subst e; simp [h]
 ·rw [if_neg e,if_neg e]
theorem Gr.put {lo n n' : Nat} {fz : Fz} {mu mu' : St} {id : Nat} {c d : List SV} (g : Gr lo fz mu mu' n n') (hl : lo ≤ id) (h : look mu' id = some d) : Gr lo fz mu (putS mu' id c) n n':=by
 refine ⟨g.le,λj hj=>?_,λj hj=>?_,λj=>?_⟩
 ·rw [Qds h,if_neg (by omega)]; exact g.ext j hj
 ·rw [Qdm,if_neg (by omega)]; exact g.own j hj
 ·have:=g.free.lt (Qdl h)
  rw [Qds h,if_neg (by omega)]; exact g.free j
theorem leafB {k : KT Prop} {fz : Fz} {mu mu' : St} {n n' : Nat} {s b : Bool} (h : ∀ mu' n',Gr n fz mu mu' n n' → k (.one (.bool s)) mu' n') (g : Gr n fz mu mu' n n') (e : b = s) : k (.one (.bool b)) mu' n':=by rw [e]; exact h _ _ g
theorem Qdt {i L : Nat} (h : i < L) (hL : L ≤ 4611686018427387904) : IntKind.i64.wrap ((i : Int) + 1) = ((i + 1 : Nat) : Int):=by rw [wrap64 (by omega) (by omega)]; rfl
theorem Qha {L : Nat} {p : Nat → Bool} (h : ∀ j,0 ≤ j → j < L → p j = true) : (List.range L).all p = true:=by
 rw [List.all_eq_true]; intro j hj; exact h j (Nat.zero_le _) (by simpa using hj)
theorem Qe5 {L : Nat} {p : Nat → Bool} (h : ∃ j,0 ≤ j ∧ j < L ∧ p j = false) : (List.range L).all p = false:=by
 obtain ⟨j,_,h1,h2⟩:=h
 rw [Bool.eq_false_iff]; intro ha
 have:=List.all_eq_true.1 ha j (by simpa using h1)
 rw [h2] at this; cases this
theorem Qkd {α : Type} {l : List α} {f : α → Bool} (h : ∀ j,0 ≤ j → j < l.length → (l[j]?.map f).getD true = true) : l.all f = true:=by
 rw [List.all_eq_true]; intro a ha
 obtain ⟨j,h1,h2⟩:=List.getElem_of_mem ha
 have:=h j (Nat.zero_le _) h1
 rw [List.getElem?_eq_getElem h1] at this
 simpa [h2] using this
theorem Qgw {α : Type} {l : List α} {f : α → Bool} (h : ∃ j,0 ≤ j ∧ j < l.length ∧ (l[j]?.map f).getD true = false) : l.all f = false:=by
 obtain ⟨j,_,h1,h2⟩:=h
 rw [Bool.eq_false_iff]; intro ha
 have:=List.all_eq_true.1 ha l[j] (List.getElem_mem h1)
 rw [List.getElem?_eq_getElem h1] at h2
 simp at h2
 rw [h2] at this; cases this
theorem any_no {α : Type} {l : List α} {p : α → Bool} (h : ∀ j,0 ≤ j → j < l.length → (!((l[j]?.map p).getD false)) = true) : l.any p = false:=by
 rw [Bool.eq_false_iff]; intro ha
 obtain ⟨a,ha,hp⟩:=List.any_eq_true.1 ha
 obtain ⟨j,h1,h2⟩:=List.getElem_of_mem ha
 have:=h j (Nat.zero_le _) h1
 rw [List.getElem?_eq_getElem h1,h2] at this
 simp [hp] at this
theorem Qsj {α : Type} {l : List α} {p : α → Bool} (h : ∃ j,0 ≤ j ∧ j < l.length ∧ (!((l[j]?.map p).getD false)) = false) : l.any p = true:=by
 obtain ⟨j,_,h1,h2⟩:=h
 rw [List.getElem?_eq_getElem h1] at h2
 exact List.any_eq_true.2 ⟨l[j],List.getElem_mem h1,by simpa using h2⟩
end Go.Ev
