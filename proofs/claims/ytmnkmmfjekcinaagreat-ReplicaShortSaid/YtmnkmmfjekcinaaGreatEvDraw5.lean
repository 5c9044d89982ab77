/-
  Regions whose order is open: any order comes to what the text's order comes to.
-/
import Derived.Test.YtmnkmmfjekcinaaGreatEvDraw4
set_option linter.unusedVariables false
set_option linter.unusedSimpArgs false
namespace Go.Ev

section
variable {P : Program} {val : Nat → Int} {fz : Fz}

/-- All that is fixed of a region's run. -/
structure Reg (P : Program) (val : Nat → Int) (fz : Fz) (ops : Array Oper) (al : List AOper) (rs : List Rec) (tm0 : TM) (comp0 : Nat → St) (n0 : Nat) (tmE : TM) (compE : Nat → St) (nE : Nat) : Prop where
  ok : ROK ops.toList al
  opr : All2 (OpR P ops) ops.toList al
  ch : Chain P val fz 0 ops.toList al rs tm0 comp0 n0 tmE compE nE
  dead : ∀ c, ¬ live al c → comp0 c = []

/-- A state of a run in part. -/
structure Part (val : Nat → Int) (fz : Fz) (al : List AOper) (rs : List Rec) (tm0 : TM) (comp0 : Nat → St) (n0 nE : Nat) (ρ0 : Rho) (mu0 : St) (w0 : World) (M : Nat → Bool) (ρ : Rho) (a : Act) (w : World) : Prop where
  cl : ∀ (i : Nat) o, M i = true → al[i]? = some o → ∀ j ∈ o.anc, M j = true
  ext : Ext ρ0 ρ n0 nE
  inv : CInv val ρ fz (foldC M 0 al rs comp0) w
  tmr : TmR val ρ w (foldTm M 0 al rs tm0) a
  fr : Fr ρ0 mu0 w0 w
  nb : ∀ c id p, (look (foldC M 0 al rs comp0 c) id).isSome → ρ id = some p → w0.heap.size ≤ p.1 ∨ ∃ id0 p0, (look mu0 id0).isSome ∧ ρ0 id0 = some p0 ∧ p0.1 = p.1
  ni : ∀ c id, (look (foldC M 0 al rs comp0 c) id).isSome → (look mu0 id).isSome ∨ n0 ≤ id ∧ id < nE
  fresh : ∀ j, j < rs.length → M j = false → FreshN ρ (nAt n0 rs j) (nAt n0 rs (j + 1))

variable {ops : Array Oper} {al : List AOper} {rs : List Rec} {tm0 tmE : TM} {comp0 compE : Nat → St} {n0 nE : Nat} {ρ0 : Rho} {mu0 : St} {w0 : World}

theorem nAt_mono {n : Nat} {rs : List Rec} (h : ∀ j, j < rs.length → nAt n rs j ≤ nAt n rs (j + 1)) : ∀ i j, i ≤ j → j ≤ rs.length → nAt n rs i ≤ nAt n rs j := by
  intro i j hij hj
  induction j with
  | zero => have : i = 0 := by omega
            subst this; exact Nat.le_refl _
  | succ j ih =>
    by_cases e : i = j + 1
    · subst e; exact Nat.le_refl _
    · exact Nat.le_trans (ih (by omega) (by omega)) (h j (by omega))

theorem Part.step (R : Reg P val fz ops al rs tm0 comp0 n0 tmE compE nE) {M : Nat → Bool} {ρ : Rho} {a : Act} {w : World} (S : Part val fz al rs tm0 comp0 n0 nE ρ0 mu0 w0 M ρ a w)
    {i : Nat} {oc : Oper} (hi : ops[i]? = some oc) (hMi : M i = false) (hready : ∀ e ∈ oc.after.toList, Region.binds .any e = true → M e.on = true) {K : Act → World → Prop} {Q : Exit → Act → World → Prop}
    (hK : ∀ a' w', a'.defers = a.defers → (∃ ρ', Part val fz al rs tm0 comp0 n0 nE ρ0 mu0 w0 (also M i) ρ' a' w') → K a' w') : wpOp P ops Q i K a w := by
  have hlen := Chain.lengths R.ch
  have hi' : ops.toList[i]? = some oc := by simpa using hi
  obtain ⟨o, ho, hor⟩ := R.opr.get hi'
  have hil := (List.getElem?_eq_some_iff.1 ho).1
  obtain ⟨r, hr⟩ : ∃ r, rs[i]? = some r := ⟨rs[i], List.getElem?_eq_getElem (by omega)⟩
  have hmode : ∀ (j : Nat) p, al[j]? = some p → p.mode ≤ 4 := fun j p hp => by
    have := (List.getElem?_eq_some_iff.1 hp).1
    exact R.ok.mode j _ p (List.getElem?_eq_getElem (by omega)) hp
  obtain ⟨_, _, hnE, hnm⟩ := Chain.final R.ch
  have hmono := nAt_mono hnm
  -- all that it waits for is done
  have hanc : ∀ j ∈ o.anc, M j = true := fun j hj => by
    obtain ⟨e, he, hb, h1⟩ := R.ok.anc i oc o hi' ho j hj
    have h2 := hready e he hb
    rcases h1 with rfl | ⟨p, hp, h3⟩
    · exact h2
    · exact S.cl e.on p h2 hp j h3
  have hdec : ∀ (j : Nat) p, al[j]? = some p → (j < i ∧ j ∈ o.anc ∨ i < j ∧ i ∈ p.anc) → M j = decide (j < i) := fun j p hp hj => by
    rcases hj with ⟨h1, h2⟩ | ⟨h1, h2⟩
    · rw [hanc j h2]; simp [h1]
    · have : M j = false := by
        cases e : M j with
        | false => rfl
        | true => have := S.cl j p e hp i h2; rw [hMi] at this; cases this
      rw [this]; simp; omega
  -- the temporaries that it looks at
  have htm : ∀ q r', (q, r') ∈ looksC oc o.g → get (foldTm M 0 al rs tm0) q r' = get (foldTm (fun x => decide (x < 0 + i)) 0 al rs tm0) q r' := fun q r' hl => by
    refine foldTm_agree rfl Iff.rfl fun j p hp hd => ?_
    simp only [Nat.zero_add]
    by_cases e : i = j
    · subst e; rw [hMi]; simp
    · rcases R.ok.pair i j oc o p hi' ho hp e with h1 | ⟨_, h2, _⟩
      · exact hdec j p hp h1
      · exact (h2 _ hd hl).elim
  have hdead : ∀ (M : Nat → Bool) c, ¬ live al c → foldC M 0 al rs comp0 c = [] := fun M c hc => by
    refine foldC_dead (R.dead c hc) fun j p r' hp _ ha e => ?_
    simp only [Nat.zero_add] at ha e
    rw [e] at hc
    exact hc (target_live hp ha.2.1)
  have hmem : ∀ c ∈ reads o i, foldC M 0 al rs comp0 c = foldC (fun x => decide (x < 0 + i)) 0 al rs comp0 c := fun c hc => by
    by_cases hlv : live al c
    · refine foldC_agree rfl fun j p r' hp _ ha => ?_
      simp only [Nat.zero_add] at ha ⊢
      by_cases e : i = j
      · subst e; rw [hMi]; simp
      · rcases R.ok.pair i j oc o p hi' ho hp e with h1 | ⟨_, _, h3⟩
        · exact hdec j p hp h1
        · exact ((h3 c (affC_aff (hmode j p hp) hlv ha)).1 (reads_rds (hmode i o ho) hlv hc)).elim
    · rw [hdead _ c hlv, hdead _ c hlv]
  -- the parts behind it
  have hnew : foldC (also M i) 0 al rs comp0 = updC o i r (foldC M 0 al rs comp0) := by
    funext c
    by_cases hlv : live al c
    · have := foldC_add (M := M) (c := c) (al := al) (rs := rs) (i := 0) (j0 := i) (comp := comp0) ho hr (by simpa using hMi) fun ha j p r' hp hr' hj ha' => by
        simp only [Nat.zero_add] at ha ha' ⊢
        rcases R.ok.pair i j oc o p hi' ho hp (by omega) with h1 | ⟨_, _, h3⟩
        · rw [hdec j p hp h1]; simp; omega
        · exact ((h3 c (affC_aff (hmode j p hp) hlv ha')).2 (affC_aff (hmode i o ho) hlv ha)).elim
      simpa using this
    · rw [hdead _ c hlv]
      unfold updC
      split
      · rename_i hw
        have : c ≠ target o i := fun e => hlv (e ▸ target_live ho hw.2)
        simp only [newComp, this, if_false]
        split
        · rfl
        · exact (hdead M c hlv).symm
      · exact (hdead M c hlv).symm
  have htnew : TMeq (setDT (foldTm M 0 al rs tm0) o.dst r.v) (foldTm (also M i) 0 al rs tm0) := by
    refine ⟨fun q r' => ?_, fun q r' => ?_⟩
    · have := foldTm_add (M := M) (q := q) (r := r') (al := al) (rs := rs) (i := 0) (j0 := i) (tm := tm0) ho hr (by simpa using hMi) fun hd j p hp hj hd' => by
        simp only [Nat.zero_add]
        rcases R.ok.pair i j oc o p hi' ho hp (by omega) with h1 | ⟨h1, _, _⟩
        · rw [hdec j p hp h1]; simp; omega
        · exact (h1 _ hd hd').elim
      simpa using this.symm
    · rw [inR_setDT, foldTm_inR, foldTm_inR]
  have hcl : ∀ (k : Nat) p, also M i k = true → al[k]? = some p → ∀ j ∈ p.anc, also M i j = true := by
    intro k p hk hp j hj
    have up : ∀ j, M j = true → also M i j = true := fun j h => by unfold also; split <;> simp [h]
    unfold also at hk
    split at hk
    · subst_vars; rw [ho] at hp; cases hp; exact up j (hanc j hj)
    · exact up j (S.cl k p hk hp j hj)
  have hsem := Chain.get R.ch i oc o r hi' ho hr
  obtain ⟨s1, s2, s3, s4⟩ := hsem
  simp only [Nat.zero_add] at s2 s3 htm hmem
  have hn1 : r.n1 = nAt n0 rs (i + 1) := by simp [nAt, hr]
  have hg : Region.wanted oc (yielded ops a.tmps) = r.w := by
    refine guardF_wanted hor.2.2 (GuardF.congr (fun q r' x hx => (htm q r' ?_).symm) s2) S.tmr
    unfold looksC
    refine List.mem_append_right _ ?_
    rw [hx]; simp
  unfold wpOp
  simp only [hi, hg]
  cases hw : r.w with
  | true =>
    simp only [if_true]
    left
    have hs := s3 hw
    rw [← muv_congr hmem, ← fzv_congr hmem] at hs
    refine hs.2 ρ w a (S.inv.rel o i) (OperR.of S.tmr htm) (by rw [hn1]; exact S.fresh i (by omega) hMi) K Q fun x w' hp => ?_
    obtain ⟨ρ', p1, p2, p3, p4, p5, p6⟩ := hp
    refine hK _ _ (put_defers _ _ _) ⟨ρ', ?_⟩
    have hupd : foldC (also M i) 0 al rs comp0 = if o.mode ≠ 0 then newComp (foldC M 0 al rs comp0) (takes o i) (target o i) r.out else foldC M 0 al rs comp0 := by
      rw [hnew]; unfold updC; simp [hw]
    have hfr1 : FreshN ρ (nAt n0 rs i) r.n1 := by rw [hn1]; exact S.fresh i (by omega) hMi
    have hle1 : n0 ≤ nAt n0 rs i := hmono 0 i (by omega) (by omega)
    have hle2 : r.n1 ≤ nE := by rw [hn1, hnE]; exact hmono (i + 1) rs.length (by omega) (Nat.le_refl _)
    have oldRho : ∀ c id p, (look (foldC M 0 al rs comp0 c) id).isSome → ρ' id = some p → ρ id = some p := fun c id p hl hp => by
      obtain ⟨cs, hcs⟩ := Option.isSome_iff_exists.1 hl
      obtain ⟨q, C, ty, h1, _⟩ := S.inv.rm c id cs hcs
      have := p1.old id q h1
      rw [hp] at this; cases this; exact h1
    have hnbm : NewB ρ0 ρ mu0 (muv o i (foldC M 0 al rs comp0)) w0 := fun id p hl hp => by
      obtain ⟨c, _, h2⟩ := look_catI hl
      exact S.nb c id p h2 hp
    refine ⟨hcl, ⟨fun id p h => p1.old id p (S.ext.old id p h), fun id p h => ?_⟩, ?_, ?_, S.fr.trans hnbm p4, ?_, ?_, ?_⟩
    · rcases p1.new id p h with h1 | h1
      · exact S.ext.new id p h1
      · exact .inr ⟨by omega, by omega⟩
    · rw [hupd]
      split
      · exact S.inv.update (fun id hl => look_catI hl) p1 hfr1 p2 p4 p5 p6
      · rename_i h0
        have h0' : o.mode = 0 := Classical.not_not.1 h0
        have : muv o i (foldC M 0 al rs comp0) = [] := by simp [muv, takes, h0', cat]
        rw [this] at p4
        exact S.inv.mono0 p1.old p4
    · have := (S.tmr.mono p1.old p4.shape).put oc.dst p3
      rw [← hor.1] at this
      exact this.congr htnew
    · intro c id p hl hp
      rw [hupd] at hl
      split at hl
      · unfold newComp at hl
        split at hl
        · rcases p5 id p hl hp with h1 | ⟨id0, q0, h1, h2, h3⟩
          · exact .inl (Nat.le_trans S.fr.size h1)
          · obtain ⟨c', _, h4⟩ := look_catI h1
            rcases S.nb c' id0 q0 h4 h2 with h5 | ⟨id1, q1, h5, h6, h7⟩
            · exact .inl (h3 ▸ h5)
            · exact .inr ⟨id1, q1, h5, h6, h7.trans h3⟩
        · split at hl
          · cases hl
          · exact S.nb c id p hl (oldRho c id p hl hp)
      · exact S.nb c id p hl (oldRho c id p hl hp)
    · intro c id hl
      rw [hupd] at hl
      split at hl
      · unfold newComp at hl
        split at hl
        · rcases p6 id hl with h1 | h1
          · obtain ⟨c', _, h4⟩ := look_catI h1
            exact S.ni c' id h4
          · exact .inr ⟨by omega, by omega⟩
        · split at hl
          · cases hl
          · exact S.ni c id hl
      · exact S.ni c id hl
    · intro j hj hMj id h1 h2
      have hji : j ≠ i := fun e => by subst e; simp [also] at hMj
      have hMj' : M j = false := by unfold also at hMj; simpa [hji] using hMj
      cases e : ρ' id with
      | none => rfl
      | some p =>
        rcases p1.new id p e with h3 | ⟨h3, h4⟩
        · rw [S.fresh j hj hMj' id h1 h2] at h3; cases h3
        · rw [hn1] at h4
          rcases Nat.lt_or_gt_of_ne hji with hlt | hlt
          · have := hmono (j + 1) i (by omega) (by omega); omega
          · have := hmono (i + 1) j (by omega) (by omega); omega
  | false =>
    simp only [Bool.false_eq_true, if_false]
    have hupd : foldC (also M i) 0 al rs comp0 = foldC M 0 al rs comp0 := by rw [hnew]; unfold updC; simp [hw]
    refine hK _ _ (put_defers _ _ _) ⟨ρ, hcl, S.ext, by rw [hupd]; exact S.inv, ?_, S.fr, by rw [hupd]; exact S.nb, by rw [hupd]; exact S.ni, fun j hj hMj => S.fresh j hj ?_⟩
    · have := S.tmr.put (x := undef) (v := r.v) oc.dst (by rw [s4 hw]; exact ⟨[], rfl, trivial⟩)
      rw [← hor.1] at this
      exact this.congr htnew
    · unfold also at hMj
      split at hMj
      · cases hMj
      · exact hMj

/-- Every order. -/
theorem Part.any (R : Reg P val fz ops al rs tm0 comp0 n0 tmE compE nE) {Q : Exit → Act → World → Prop} {d : Act}
    (hQ : ∀ ρ a w, a.defers = d.defers → Part val fz al rs tm0 comp0 n0 nE ρ0 mu0 w0 (fun _ => true) ρ a w → Q .normal a w) :
    ∀ (fuel : Nat) (listed : Array Bool) (a : Act) (w : World), listed.size = ops.size → listed.toList.count false ≤ fuel → a.defers = d.defers →
      (∃ ρ, Part val fz al rs tm0 comp0 n0 nE ρ0 mu0 w0 (fun x => listed.getD x false) ρ a w) → wpAny P .any ops Q fuel listed a w := by
  have hlen := Chain.lengths R.ch
  have full : ∀ listed : Array Bool, listed.size = ops.size → Region.ready .any ops listed = [] → ∀ i, i < ops.size → listed.getD i false = true := by
    intro listed hs hr i
    induction i using Nat.strongRecOn with
    | ind i ih =>
      intro hi
      cases e : listed.getD i false with
      | true => rfl
      | false =>
        exfalso
        have hm : i ∈ Region.ready .any ops listed := by
          unfold Region.ready
          rw [List.mem_filter]
          refine ⟨List.mem_range.2 hi, ?_⟩
          have h1 : listed.getD i true = false := by
            simp only [Array.getD_eq_getD_getElem?, Array.getElem?_eq_getElem (show i < listed.size by omega), Option.getD_some] at e ⊢
            exact e
          rw [h1, Array.getElem?_eq_getElem hi]
          simp only [Bool.not_false, Bool.true_and, Option.map_some, Option.getD_some, Array.all_eq_true']
          intro ed hed
          cases hb : Region.binds .any ed with
          | false => rfl
          | true =>
            obtain ⟨o, ho, _⟩ := R.opr.get (show ops.toList[i]? = some ops[i] by simp [hi])
            have := R.ok.back i ops[i] o (by simp [hi]) ho ed (by simpa using hed) hb
            simp [ih ed.on this (by omega)]
        rw [hr] at hm; cases hm
  have fin : ∀ (listed : Array Bool) a w, listed.size = ops.size → a.defers = d.defers → (∀ i, i < ops.size → listed.getD i false = true) → (∃ ρ, Part val fz al rs tm0 comp0 n0 nE ρ0 mu0 w0 (fun x => listed.getD x false) ρ a w) → Q .normal a w := by
    intro listed a w hs hd hf ⟨ρ, S⟩
    refine hQ ρ a w hd ?_
    have hlt : ∀ (j : Nat) p, al[j]? = some p → listed.getD (0 + j) false = true := fun j p hp => by
      have := (List.getElem?_eq_some_iff.1 hp).1
      rw [Nat.zero_add]
      exact hf j (by simp at hlen; omega)
    have e1 : foldC (fun x => listed.getD x false) 0 al rs comp0 = foldC (fun _ => true) 0 al rs comp0 := by
      funext c; exact foldC_agree rfl fun j p _ hp _ _ => hlt j p hp
    have e2 : TMeq (foldTm (fun x => listed.getD x false) 0 al rs tm0) (foldTm (fun _ => true) 0 al rs tm0) :=
      ⟨fun q r => foldTm_agree rfl Iff.rfl fun j p hp _ => hlt j p hp, fun q r => by rw [foldTm_inR, foldTm_inR]⟩
    refine ⟨fun _ _ _ _ _ _ => rfl, S.ext, by rw [← e1]; exact S.inv, S.tmr.congr e2, S.fr, by rw [← e1]; exact S.nb, by rw [← e1]; exact S.ni, fun j _ h => by cases h⟩
  intro fuel
  induction fuel with
  | zero =>
    intro listed a w hs hc hd hS
    have hall : ∀ i, i < ops.size → listed.getD i false = true := fun i hi => by
      have hn : false ∉ listed.toList := List.count_eq_zero.1 (by omega)
      cases e : listed.getD i false with
      | true => rfl
      | false =>
        simp only [Array.getD_eq_getD_getElem?, Array.getElem?_eq_getElem (show i < listed.size by omega), Option.getD_some] at e
        exact (hn (by rw [← e]; simp)).elim
    refine ⟨?_, fin listed a w hs hd hall hS⟩
    unfold Region.ready
    rw [List.filter_eq_nil_iff]
    intro i hi
    have hi' := List.mem_range.1 hi
    have := hall i hi'
    simp only [Array.getD_eq_getD_getElem?, Array.getElem?_eq_getElem (show i < listed.size by omega), Option.getD_some] at this ⊢
    simp [this]
  | succ fuel ih =>
    intro listed a w hs hc hd hS
    refine ⟨fun hr => fin listed a w hs hd (full listed hs hr) hS, fun i hi => ?_⟩
    unfold Region.ready at hi
    rw [List.mem_filter] at hi
    obtain ⟨h1, h2⟩ := hi
    have hlt := List.mem_range.1 h1
    rw [Array.getElem?_eq_getElem hlt] at h2
    simp only [Bool.and_eq_true, Bool.not_eq_true', Option.map_some, Option.getD_some, Array.all_eq_true', Bool.or_eq_true] at h2
    obtain ⟨h2, h3⟩ := h2
    have hMi : listed.getD i false = false := by
      simp only [Array.getD_eq_getD_getElem?, Array.getElem?_eq_getElem (show i < listed.size by omega), Option.getD_some] at h2 ⊢
      exact h2
    obtain ⟨ρ, S⟩ := hS
    refine Part.step R S (Array.getElem?_eq_getElem hlt) hMi (fun e he hb => ?_) fun a' w' hd' hS' => ?_
    · have := h3 e (by simpa using he)
      simpa [hb] using this
    · have eM : also (fun x => listed.getD x false) i = fun x => (listed.setIfInBounds i true).getD x false := by
        funext x
        unfold also
        simp only [Array.getD_eq_getD_getElem?, Array.getElem?_setIfInBounds]
        by_cases e : x = i
        · subst e; simp [show x < listed.size by omega]
        · have e' : ¬ i = x := fun h => e h.symm
          simp [e, e']
      rw [eM] at hS'
      refine ih _ a' w' (by simpa using hs) ?_ (hd'.trans hd) hS'
      have hl : i < listed.toList.length := by simp; omega
      have hv : listed.toList[i] = false := by
        simp only [Array.getD_eq_getD_getElem?, Array.getElem?_eq_getElem (show i < listed.size by omega), Option.getD_some] at hMi
        simpa using hMi
      rw [Array.toList_setIfInBounds, List.count_set hl, hv]
      have : 0 < listed.toList.count false := List.count_pos_iff.2 (by rw [← hv]; exact List.getElem_mem hl)
      rw [if_pos (by rfl), if_neg (by decide)]
      omega
end
end Go.Ev
