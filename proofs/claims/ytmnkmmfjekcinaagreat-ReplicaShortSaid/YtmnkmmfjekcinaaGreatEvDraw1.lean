/-
  Regions whose order is open: memory in parts, and how an operation turns them.
-/
import Derived.Test.YtmnkmmfjekcinaaGreatEvCode
set_option linter.unusedVariables false
set_option linter.unusedSimpArgs false
namespace Go.Ev

/-- Memory in parts: 0: the store; k + 1: what operation k has made. -/
structure CInv (val : Nat → Int) (ρ : Rho) (fz : Fz) (comp : Nat → St) (w : World) : Prop where
  rf : ∀ id cs, fz id = some cs → Own val ρ w id cs
  rm : ∀ c id cs, look (comp c) id = some cs → Own val ρ w id cs
  dm : ∀ c id cs, look (comp c) id = some cs → fz id = none
  dj : ∀ c c' id id' p p', (look (comp c) id).isSome → (look (comp c') id').isSome → ρ id = some p → ρ id' = some p' → p.1 = p'.1 → c = c' ∧ id = id'
  df : ∀ c id id' p p', (look (comp c) id).isSome → (fz id').isSome → ρ id = some p → ρ id' = some p' → p.1 ≠ p'.1

noncomputable def cat (comp : Nat → St) : List Nat → St
  | [] => []
  | c :: r => comp c ++ cat comp r

theorem look_cat {comp : Nat → St} {l : List Nat} {id : Nat} {cs : List SV} (h : look (cat comp l) id = some cs) : ∃ c ∈ l, look (comp c) id = some cs := by
  induction l with
  | nil => cases h
  | cons c r ih =>
    simp only [cat, look_append] at h
    cases e : look (comp c) id with
    | some d => rw [e] at h; simp only [Option.some.injEq] at h; subst h; exact ⟨c, by simp, e⟩
    | none => rw [e] at h; obtain ⟨c', h1, h2⟩ := ih h; exact ⟨c', by simp [h1], h2⟩
theorem cat_look {comp : Nat → St} {l : List Nat} {id c : Nat} (hc : c ∈ l) (h : (look (comp c) id).isSome) : (look (cat comp l) id).isSome := by
  induction l with
  | nil => cases hc
  | cons d r ih =>
    simp only [cat, look_append]
    cases e : look (comp d) id with
    | some x => rfl
    | none =>
      simp only [List.mem_cons] at hc
      rcases hc with rfl | hc
      · rw [e] at h; cases h
      · exact ih hc
theorem look_catI {comp : Nat → St} {l : List Nat} {id : Nat} (h : (look (cat comp l) id).isSome) : ∃ c ∈ l, (look (comp c) id).isSome := by
  obtain ⟨cs, hcs⟩ := Option.isSome_iff_exists.1 h
  obtain ⟨c, h1, h2⟩ := look_cat hcs
  exact ⟨c, h1, by simp [h2]⟩

section
variable {val : Nat → Int} {ρ : Rho} {fz : Fz} {comp : Nat → St} {w : World}

theorem CInv.take (h : CInv val ρ fz comp w) (l : List Nat) : Rel val ρ fz (cat comp l) w := by
  refine ⟨h.rf, fun id cs hl => ?_, fun id cs hl => ?_, fun id id' p p' hl hl' hp hp' he => ?_⟩
  · obtain ⟨c, _, h2⟩ := look_cat hl; exact h.rm c id cs h2
  · obtain ⟨c, _, h2⟩ := look_cat hl; exact h.dm c id cs h2
  · obtain ⟨c, _, h2⟩ := look_catI hl
    rcases hl' with hl' | hl'
    · obtain ⟨c', _, h3⟩ := look_catI hl'; exact (h.dj c c' id id' p p' h2 h3 hp hp' he).2
    · exact (h.df c id id' p p' h2 hl' hp hp' he).elim
theorem Rel.noFz {mu : St} (h : Rel val ρ fz mu w) : Rel val ρ (fun _ => none) mu w :=
  ⟨fun id cs h => (by cases h), h.rm, fun _ _ _ => rfl, fun id id' p p' hl hl' hp hp' he => h.dj id id' p p' hl (hl'.elim .inl (fun x => (by cases x))) hp hp' he⟩
theorem CInv.ro (h : CInv val ρ fz comp w) (l : List Nat) (c0 : Nat) : Rel val ρ (with' (cat comp l) (with' (comp c0) fz)) [] w := by
  refine ⟨fun id cs hl => ?_, fun id cs hl => (by cases hl), fun id cs hl => (by cases hl), fun id id' p p' hl => (by cases hl)⟩
  rw [with_eq] at hl
  cases e : look (cat comp l) id with
  | some d => rw [e] at hl; simp only [Option.some.injEq] at hl; subst hl; obtain ⟨c, _, h2⟩ := look_cat e; exact h.rm c id d h2
  | none =>
    rw [e] at hl
    simp only [with_eq] at hl
    cases e2 : look (comp c0) id with
    | some d => rw [e2] at hl; simp only [Option.some.injEq] at hl; subst hl; exact h.rm c0 id d e2
    | none => rw [e2] at hl; exact h.rf id cs hl

/-- One part takes what a run has made of others. -/
def newComp (comp : Nat → St) (l : List Nat) (t : Nat) (out : St) : Nat → St := fun c => if c = t then out else if c ∈ l then [] else comp c

theorem CInv.update {ρ' : Rho} {fzv : Fz} {muv out : St} {w' : World} {n n' t : Nat} {l : List Nat} (h : CInv val ρ fz comp w) (hmu : ∀ id, (look muv id).isSome → ∃ c ∈ l, (look (comp c) id).isSome) (he : Ext ρ ρ' n n') (hfr : FreshN ρ n n')
    (hr' : Rel val ρ' fzv out w') (hf : Fr ρ muv w w') (hb : NewB ρ ρ' muv out w) (hi : NewI muv out n n') : CInv val ρ' fz (newComp comp l t out) w' := by
  have fzRho : ∀ id, (fz id).isSome → ∃ p, ρ id = some p ∧ p.1 < w.heap.size := fun id hs => by
    obtain ⟨c, hc⟩ := Option.isSome_iff_exists.1 hs
    have ho := h.rf id c hc
    obtain ⟨p, C, ty, h1, _⟩ := ho
    exact ⟨p, h1, (h.rf id c hc).lt h1⟩
  have cRho : ∀ c id, (look (comp c) id).isSome → ∃ p, ρ id = some p ∧ p.1 < w.heap.size := fun c id hs => by
    obtain ⟨cs, hc⟩ := Option.isSome_iff_exists.1 hs
    have ho := h.rm c id cs hc
    obtain ⟨p, C, ty, h1, _⟩ := ho
    exact ⟨p, h1, (h.rm c id cs hc).lt h1⟩
  have keepB : ∀ b, b < w.heap.size → (∀ c ∈ l, ∀ id p, (look (comp c) id).isSome → ρ id = some p → p.1 ≠ b) → w'.heap[b]? = w.heap[b]? := fun b hlt hn =>
    hf.keep b hlt fun id p hl hp => by obtain ⟨c, h1, h2⟩ := hmu id hl; exact hn c h1 id p h2 hp
  have oldC : ∀ c id cs, c ≠ t → look (newComp comp l t out c) id = some cs → c ∉ l ∧ look (comp c) id = some cs := fun c id cs hct hl => by
    unfold newComp at hl
    simp only [hct, if_false] at hl
    split at hl
    · cases hl
    · rename_i hcl; exact ⟨hcl, hl⟩
  have oldCI : ∀ c id, c ≠ t → (look (newComp comp l t out c) id).isSome → c ∉ l ∧ (look (comp c) id).isSome := fun c id hct hl => by
    obtain ⟨cs, hcs⟩ := Option.isSome_iff_exists.1 hl
    obtain ⟨h1, h2⟩ := oldC c id cs hct hcs
    exact ⟨h1, by simp [h2]⟩
  have newC : ∀ id, look (newComp comp l t out t) id = look out id := fun id => by simp [newComp]
  have keepOwnC : ∀ c id cs, c ∉ l → look (comp c) id = some cs → Own val ρ' w' id cs := fun c id cs hcl hl => by
    have ho := h.rm c id cs hl
    refine ho.mono he.old hf.shape fun p hp => keepB p.1 (ho.lt hp) fun c' hc' id' p' hl' hp' e => ?_
    exact hcl ((h.dj c c' id id' p p' (by simp [hl]) hl' hp hp' e.symm).1 ▸ hc')
  -- blocks of the new part
  have blk : ∀ id p, (look out id).isSome → ρ' id = some p → w.heap.size ≤ p.1 ∨ ∃ c ∈ l, ∃ id0 p0, (look (comp c) id0).isSome ∧ ρ id0 = some p0 ∧ p0.1 = p.1 := fun id p hl hp => by
    rcases hb id p hl hp with h1 | ⟨id0, p0, h1, h2, h3⟩
    · exact .inl h1
    · obtain ⟨c, h4, h5⟩ := hmu id0 h1; exact .inr ⟨c, h4, id0, p0, h5, h2, h3⟩
  have rhoOld : ∀ c id p, (look (comp c) id).isSome → ρ' id = some p → ρ id = some p ∧ p.1 < w.heap.size := fun c id p hl hp => by
    obtain ⟨q, h1, h2⟩ := cRho c id hl
    have := he.old id q h1
    rw [hp] at this; cases this; exact ⟨h1, h2⟩
  have rhoFz : ∀ id p, (fz id).isSome → ρ' id = some p → ρ id = some p ∧ p.1 < w.heap.size := fun id p hl hp => by
    obtain ⟨q, h1, h2⟩ := fzRho id hl
    have := he.old id q h1
    rw [hp] at this; cases this; exact ⟨h1, h2⟩
  refine ⟨fun id cs hl => ?_, fun c id cs hl => ?_, fun c id cs hl => ?_, fun c c' id id' p p' hl hl' hp hp' e => ?_, fun c id id' p p' hl hl' hp hp' e => ?_⟩
  · have ho := h.rf id cs hl
    refine ho.mono he.old hf.shape fun p hp => keepB p.1 (ho.lt hp) fun c hc id' p' hl' hp' e => ?_
    exact h.df c id' id p' p hl' (by simp [hl]) hp' hp e
  · by_cases hct : c = t
    · subst hct; rw [newC] at hl; exact hr'.rm id cs hl
    · obtain ⟨h1, h2⟩ := oldC c id cs hct hl; exact keepOwnC c id cs h1 h2
  · by_cases hct : c = t
    · subst hct
      rw [newC] at hl
      rcases hi id (by simp [hl]) with h1 | h1
      · obtain ⟨c', _, h3⟩ := hmu id h1
        obtain ⟨cs', hcs'⟩ := Option.isSome_iff_exists.1 h3
        exact h.dm c' id cs' hcs'
      · cases e : fz id with
        | none => rfl
        | some x =>
          obtain ⟨p, h2, _⟩ := fzRho id (by simp [e])
          rw [hfr id h1.1 h1.2] at h2; cases h2
    · obtain ⟨h1, h2⟩ := oldC c id cs hct hl; exact h.dm c id cs h2
  · by_cases hct : c = t
    · by_cases hct' : c' = t
      · subst hct; subst hct'
        rw [newC] at hl hl'
        exact ⟨rfl, hr'.dj id id' p p' hl (.inl hl') hp hp' e⟩
      · subst hct
        rw [newC] at hl
        obtain ⟨h1, h2⟩ := oldCI c' id' hct' hl'
        obtain ⟨h3, h4⟩ := rhoOld c' id' p' h2 hp'
        rcases blk id p hl hp with h5 | ⟨d, hd, id0, p0, h6, h7, h8⟩
        · omega
        · exact (h1 ((h.dj d c' id0 id' p0 p' h6 h2 h7 h3 (h8.trans e)).1 ▸ hd)).elim
    · obtain ⟨h1, h2⟩ := oldCI c id hct hl
      obtain ⟨h3, h4⟩ := rhoOld c id p h2 hp
      by_cases hct' : c' = t
      · subst hct'
        rw [newC] at hl'
        rcases blk id' p' hl' hp' with h5 | ⟨d, hd, id0, p0, h6, h7, h8⟩
        · omega
        · exact (h1 ((h.dj d c id0 id p0 p h6 h2 h7 h3 (h8.trans e.symm)).1 ▸ hd)).elim
      · obtain ⟨g1, g2⟩ := oldCI c' id' hct' hl'
        obtain ⟨g3, g4⟩ := rhoOld c' id' p' g2 hp'
        exact h.dj c c' id id' p p' h2 g2 h3 g3 e
  · obtain ⟨g1, g2⟩ := rhoFz id' p' hl' hp'
    by_cases hct : c = t
    · subst hct
      rw [newC] at hl
      rcases blk id p hl hp with h5 | ⟨d, hd, id0, p0, h6, h7, h8⟩
      · omega
      · exact h.df d id0 id' p0 p' h6 hl' h7 g1 (h8.trans e)
    · obtain ⟨h1, h2⟩ := oldCI c id hct hl
      obtain ⟨h3, h4⟩ := rhoOld c id p h2 hp
      exact h.df c id id' p p' h2 hl' h3 g1 e

/-- A run that had no memory of its own. -/
theorem CInv.mono0 {ρ' : Rho} {w' : World} (h : CInv val ρ fz comp w) (he : ∀ id p, ρ id = some p → ρ' id = some p) (hf : Fr ρ [] w w') : CInv val ρ' fz comp w' := by
  have kp : ∀ b, b < w.heap.size → w'.heap[b]? = w.heap[b]? := fun b hb => hf.keep b hb fun id p hl => (by cases hl)
  have rho : ∀ id cs p, Own val ρ w id cs → ρ' id = some p → ρ id = some p := fun id cs p ho hp => by
    obtain ⟨q, C, ty, h1, _⟩ := ho
    have := he id q h1
    rw [hp] at this; cases this; exact h1
  refine ⟨fun id cs hl => (h.rf id cs hl).mono he hf.shape fun p hp => kp _ ((h.rf id cs hl).lt hp), fun c id cs hl => (h.rm c id cs hl).mono he hf.shape fun p hp => kp _ ((h.rm c id cs hl).lt hp), h.dm, fun c c' id id' p p' hl hl' hp hp' e => ?_, fun c id id' p p' hl hl' hp hp' e => ?_⟩
  · obtain ⟨cs, h1⟩ := Option.isSome_iff_exists.1 hl
    obtain ⟨cs', h2⟩ := Option.isSome_iff_exists.1 hl'
    exact h.dj c c' id id' p p' hl hl' (rho id cs p (h.rm c id cs h1) hp) (rho id' cs' p' (h.rm c' id' cs' h2) hp') e
  · obtain ⟨cs, h1⟩ := Option.isSome_iff_exists.1 hl
    obtain ⟨cs', h2⟩ := Option.isSome_iff_exists.1 hl'
    exact h.df c id id' p p' hl hl' (rho id cs p (h.rm c id cs h1) hp) (rho id' cs' p' (h.rf id' cs' h2) hp') e
theorem CInv.like {w1 : World} (hl : Like w w1) (h : CInv val ρ fz comp w) : CInv val ρ fz comp w1 :=
  ⟨fun id c hc => (h.rf id c hc).mono (fun _ _ h => h) (fun b => Nat.le_of_eq (hl.bsize b).symm) fun p _ => by rw [hl.heap],
   fun c id cs hc => (h.rm c id cs hc).mono (fun _ _ h => h) (fun b => Nat.le_of_eq (hl.bsize b).symm) fun p _ => by rw [hl.heap], h.dm, h.dj, h.df⟩
end
end Go.Ev
