/-
  slices.Insert at []int as a contract of the evaluator: over the kit's four roads.
-/
import Derived.Test.YtlmffooffbjdkaaEvTop3
import Derived.Shelf.Spec.SlicesInsertGrow
set_option linter.unusedVariables false
set_option linter.unusedSimpArgs false
namespace Go.Ev
open Go.Shelf Go.Proofs

section
variable {val : Nat → Int} {fz : Fz} {mu : St} {n : Nat}

/-- Cells set one behind the other: the block. -/
theorem setCells_heap {b : Nat} {ty : TypeId} {fr : Nat × Nat} : ∀ (vs : List Value) (o : Nat) (w : World) (C : Array Value), w.heap[b]? = some (.cells C ty fr) → o + vs.length ≤ C.size →
    ∃ D : Array Value, (w.setCells b o vs).heap[b]? = some (.cells D ty fr) ∧ D.size = C.size ∧ ∀ j : Nat, D[j]? = if o ≤ j ∧ j < o + vs.length then vs[j - o]? else C[j]?
  | [], o, w, C, h, _ => ⟨C, h, rfl, fun j => by simp; omega⟩
  | v :: r, o, w, C, h, hl => by
    have h1 : (w.setCell ⟨b, o, none⟩ v).heap[b]? = some (.cells (C.setIfInBounds o v) ty fr) := by
      simp only [World.setCell, Array.getElem?_modify, if_true, h]; simp
    obtain ⟨D, d1, d2, d3⟩ := setCells_heap r (o + 1) _ _ h1 (by simp at hl ⊢; omega)
    refine ⟨D, d1, by rw [d2]; simp, fun j => ?_⟩
    rw [d3]
    simp at hl
    by_cases e : j = o
    · subst e
      simp [show ¬ (j + 1 ≤ j ∧ j < j + 1 + r.length) by omega, Array.getElem?_setIfInBounds, show j < C.size by omega]
    · have e' : ¬ o = j := fun x => e x.symm
      by_cases a1 : o + 1 ≤ j ∧ j < o + 1 + r.length
      · simp only [a1, and_self, if_true, List.length_cons, show o ≤ j ∧ j < o + (r.length + 1) by omega]
        rw [show j - o = (j - (o + 1)) + 1 by omega, List.getElem?_cons_succ]
      · simp only [a1, if_false, List.length_cons, show ¬ (o ≤ j ∧ j < o + (r.length + 1)) by omega, Array.getElem?_setIfInBounds, e']
theorem setCells_other {b b' : Nat} (h : b' ≠ b) : ∀ (vs : List Value) (o : Nat) (w : World), (w.setCells b o vs).heap[b']? = w.heap[b']?
  | [], _, _ => rfl
  | v :: r, o, w => by
    have := setCells_other h r (o + 1) (w.setCell ⟨b, o, none⟩ v)
    show ((w.setCell ⟨b, o, none⟩ v).setCells b (o + 1) r).heap[b']? = _
    rw [this]
    simp only [World.setCell, Array.getElem?_modify]
    rw [if_neg (fun e => h e.symm)]
theorem setCells_rest {b : Nat} : ∀ (vs : List Value) (o : Nat) (w : World), (w.setCells b o vs).os = w.os ∧ (w.setCells b o vs).tape = w.tape ∧ (w.setCells b o vs).output = w.output ∧ (w.setCells b o vs).heap.size = w.heap.size
  | [], _, _ => ⟨rfl, rfl, rfl, rfl⟩
  | v :: r, o, w => by
    obtain ⟨a, b', c, d⟩ := setCells_rest r (o + 1) (w.setCell ⟨b, o, none⟩ v)
    exact ⟨a, b', c, d.trans (by simp [World.setCell])⟩

/-- A block that goes over to a new id, its cells turned. -/
theorem turn_block {ρ : Rho} {w w' : World} (hr : Rel val ρ fz mu w) {id : Nat} {known cs : List SV} {off : Nat} {p : Nat × Nat} {C D : Array Value} {ty : TypeId} (hl : look mu id = some known) (hn : ρ n = none) (hp : ρ id = some p)
    (hC : w.heap[p.1]? = some (.cells C ty (0, 0))) (hD : w'.heap[p.1]? = some (.cells D ty (0, 0))) (hs : D.size = C.size) (hother : ∀ b, b ≠ p.1 → w'.heap[b]? = w.heap[b]?) (ho : w'.os = w.os) (ht : w'.tape = w.tape) (hou : w'.output = w.output) (hhs : w'.heap.size = w.heap.size)
    (hfit : p.2 + off + cs.length ≤ D.size) (hv : ∀ (i : Nat) s, cs[i]? = some s → ∃ v, D[p.2 + off + i]? = some v ∧ VR val ρ w s v) :
    Ext ρ (upd ρ n (p.1, p.2 + off)) n (n + 1) ∧ Rel val (upd ρ n (p.1, p.2 + off)) fz ((n, cs) :: killS mu id) w' ∧ Fr ρ mu w w' ∧
      NewB ρ (upd ρ n (p.1, p.2 + off)) mu ((n, cs) :: killS mu id) w ∧ NewI mu ((n, cs) :: killS mu id) n (n + 1) ∧ (∀ b, bsize w' b = bsize w b) := by
  have hbs : ∀ b, bsize w' b = bsize w b := fun b => by
    unfold bsize
    by_cases e : b = p.1
    · subst e; rw [hC, hD]; exact hs
    · rw [hother b e]
  have hfr : ∀ b, frz w' b = frz w b := fun b => by
    unfold frz
    by_cases e : b = p.1
    · subst e; rw [hC, hD]
    · rw [hother b e]
  have hbs' : ∀ b, bsize w b ≤ bsize w' b := fun b => Nat.le_of_eq (hbs b).symm
  have hup := fun id q hq => upd_old (p := (p.1, p.2 + off)) hn id q hq
  have hfn : fz n = none := by
    cases e : fz n with
    | none => rfl
    | some c => obtain ⟨p, C, ty, h1, _⟩ := hr.rf n c e; rw [hn] at h1; cases h1
  have keepOwn : ∀ id' c, id' ≠ id → ((look mu id').isSome ∨ (fz id').isSome) → Own val ρ w id' c → Own val (upd ρ n (p.1, p.2 + off)) w' id' c := by
    intro id' c hne hlv hown
    refine hown.mono hup hbs' fun q hq => hother _ fun e => hne ?_
    exact (hr.dj id id' p q (by simp [hl]) hlv hp hq e.symm).symm
  have hlk : ∀ id' c, look ((n, cs) :: killS mu id) id' = some c → id' = n ∧ c = cs ∨ id' ≠ n ∧ id' ≠ id ∧ look mu id' = some c := by
    intro id' c h
    rw [look_cons] at h
    by_cases e : n = id'
    · simp only [e, if_true, Option.some.injEq] at h; exact .inl ⟨e.symm, h.symm⟩
    · simp only [e, if_false, look_killS] at h
      split at h
      · cases h
      · rename_i e2; exact .inr ⟨fun x => e x.symm, fun x => e2 x.symm, h⟩
  refine ⟨upd_ext hn, ⟨fun id' c h => ?_, fun id' c h => ?_, fun id' c h => ?_, fun a b q q' ha hb hq hq' he => ?_⟩,
    ⟨ho, ht, hou, Nat.le_of_eq hhs.symm, fun b _ hb => hother b fun e => hb id p (by simp [hl]) hp e.symm, hbs', hfr⟩, fun a q ha hq => ?_, fun a ha => ?_, hbs⟩
  · refine keepOwn id' c (fun e => ?_) (.inr (by simp [h])) (hr.rf id' c h)
    subst e; have := hr.dm id' known hl; rw [this] at h; cases h
  · rcases hlk id' c h with ⟨rfl, rfl⟩ | ⟨e1, e2, e3⟩
    · refine ⟨(p.1, p.2 + off), D, ty, upd_same _ _ _, hD, hfit, fun i s hi => ?_⟩
      obtain ⟨v, e, r⟩ := hv i s hi
      exact ⟨v, e, r.mono hup hbs'⟩
    · exact keepOwn id' c e2 (.inl (by simp [e3])) (hr.rm id' c e3)
  · rcases hlk id' c h with ⟨rfl, rfl⟩ | ⟨e1, e2, e3⟩
    · exact hfn
    · exact hr.dm id' c e3
  · have key : ∀ a q, ((look ((n, cs) :: killS mu id) a).isSome ∨ (fz a).isSome) → upd ρ n (p.1, p.2 + off) a = some q → a = n ∧ q.1 = p.1 ∨ a ≠ n ∧ a ≠ id ∧ ρ a = some q ∧ ((look mu a).isSome ∨ (fz a).isSome) := by
      intro a q h hq
      by_cases e : a = n
      · left; subst e; rw [upd_same] at hq; cases hq; exact ⟨rfl, rfl⟩
      · right
        have hq2 : ρ a = some q := by simpa [upd, e] using hq
        rcases h with h | h
        · obtain ⟨c, hc⟩ := Option.isSome_iff_exists.1 h
          rcases hlk a c hc with ⟨x, _⟩ | ⟨_, x2, x3⟩
          · exact (e x).elim
          · exact ⟨e, x2, hq2, .inl (by simp [x3])⟩
        · refine ⟨e, fun x => ?_, hq2, .inr h⟩
          subst x; have := hr.dm a known hl; rw [this] at h; cases h
    rcases key a q (.inl ha) hq with ⟨x1, x2⟩ | ⟨x1, x2, x3, x4⟩
    · rcases key b q' hb hq' with ⟨y1, y2⟩ | ⟨y1, y2, y3, y4⟩
      · rw [x1, y1]
      · exact (y2 (hr.dj id b p q' (by simp [hl]) y4 hp y3 (by omega)).symm).elim
    · rcases key b q' hb hq' with ⟨y1, y2⟩ | ⟨y1, y2, y3, y4⟩
      · have x4' : (look mu a).isSome := by
          obtain ⟨c, hc⟩ := Option.isSome_iff_exists.1 ha
          rcases hlk a c hc with ⟨z1, _⟩ | ⟨_, _, z3⟩
          · exact (x1 z1).elim
          · simp [z3]
        exact (x2 (hr.dj id a p q (by simp [hl]) (.inl x4') hp x3 (by omega)).symm).elim
      · have x4' : (look mu a).isSome := by
          obtain ⟨c, hc⟩ := Option.isSome_iff_exists.1 ha
          rcases hlk a c hc with ⟨z1, _⟩ | ⟨_, _, z3⟩
          · exact (x1 z1).elim
          · simp [z3]
        exact hr.dj a b q q' x4' y4 x3 y3 he
  · obtain ⟨c, hc⟩ := Option.isSome_iff_exists.1 ha
    rcases hlk a c hc with ⟨z1, _⟩ | ⟨z1, _, z3⟩
    · subst z1; rw [upd_same] at hq; cases hq; exact .inr ⟨id, p, by simp [hl], hp, rfl⟩
    · exact .inr ⟨a, q, by simp [z3], by simpa [upd, z1] using hq, rfl⟩
  · obtain ⟨c, hc⟩ := Option.isSome_iff_exists.1 ha
    rcases hlk a c hc with ⟨z1, _⟩ | ⟨z1, _, z3⟩
    · subst z1; exact .inr ⟨Nat.le_refl _, Nat.lt_succ_self _⟩
    · exact .inl (by simp [z3])
end
end Go.Ev
